/- Walks: rows of rows of numbers. -/
import Derived.Test.YtifhfodphoeeoaaGreatChecked
import Derived.Test.YtifhfodphoeeoaaGreatWkA
namespace Go.Proofs.YtifhfodphoeeoaaGreat.Wk
open Go Go.RowKit Sl
set_option linter.unusedVariables false
set_option linter.unusedSimpArgs false
set_option maxRecDepth 20000

/-- what a row counts, element by element; what marking makes of it -/
def crow {α : Type} (c : α → Nat) : List α → Nat
  | [] => 0
  | x :: xs => c x + crow c xs
def mrow {α : Type} (f : Int → α → α) (c : α → Nat) (k0 : Int) : List α → List α
  | [] => []
  | x :: xs => f k0 x :: mrow f c (k0 + c x) xs
section
variable {α : Type} {f : Int → α → α} {c : α → Nat} {xs : List α} {x : α} {k : Nat}
theorem crow_append (xs ys : List α) : crow c (xs ++ ys) = crow c xs + crow c ys := by
  induction xs with
  | nil => simp [crow]
  | cons x xs ih => simp only [List.cons_append, crow, ih]; omega
theorem mrow_append (xs ys : List α) (k0 : Int) : mrow f c k0 (xs ++ ys) = mrow f c k0 xs ++ mrow f c (k0 + crow c xs) ys := by
  induction xs generalizing k0 with
  | nil => simp [mrow, crow]
  | cons x xs ih =>
    simp only [List.cons_append, mrow, ih, crow]
    rw [show k0 + (c x : Int) + (crow c xs : Int) = k0 + ((c x + crow c xs : Nat) : Int) by omega]
theorem mrow_length (xs : List α) (k0 : Int) : (mrow f c k0 xs).length = xs.length := by
  induction xs generalizing k0 with
  | nil => rfl
  | cons x xs ih => simp [mrow, ih]
theorem crow_next (hx : xs[k]? = some x) : crow c (xs.take (k + 1)) = crow c (xs.take k) + c x := by
  rw [List.take_add_one, hx, crow_append]; simp [crow]
theorem crow_le (xs : List α) (k : Nat) : crow c (xs.take k) ≤ crow c xs := by
  have := crow_append (c := c) (xs.take k) (xs.drop k)
  rw [List.take_append_drop] at this
  omega
theorem crow_le1 (hx : xs[k]? = some x) : crow c (xs.take k) + c x ≤ crow c xs := by
  rw [← crow_next hx]; exact crow_le _ _
theorem mrow_next (k0 : Int) (hx : xs[k]? = some x) : mrow f c k0 (xs.take (k + 1)) = mrow f c k0 (xs.take k) ++ [f (k0 + crow c (xs.take k)) x] := by
  rw [List.take_add_one, hx, mrow_append]; rfl
theorem mrow_at (k0 : Int) (hx : xs[k]? = some x) : (mrow f c k0 xs)[k]? = some (f (k0 + crow c (xs.take k)) x) := by
  have hk := (List.getElem?_eq_some_iff.1 hx).1
  have h := mrow_append (f := f) (c := c) (xs.take (k + 1)) (xs.drop (k + 1)) k0
  rw [List.take_append_drop, mrow_next k0 hx] at h
  rw [h, List.getElem?_append_left (by simp [mrow_length]; omega), List.getElem?_append_right (by simp [mrow_length]; omega)]
  simp [mrow_length, Nat.min_eq_left (Nat.le_of_lt hk)]
theorem mix_at (k0 : Int) (hx : xs[k]? = some x) : (mrow f c k0 (xs.take k) ++ xs.drop k)[k]? = some x := by
  have hk := (List.getElem?_eq_some_iff.1 hx).1
  rw [List.getElem?_append_right (by simp [mrow_length]; omega)]
  simp [mrow_length, Nat.min_eq_left (Nat.le_of_lt hk), hx]
theorem mix_set (k0 : Int) (hx : xs[k]? = some x) : (mrow f c k0 (xs.take k) ++ xs.drop k).set k (f (k0 + crow c (xs.take k)) x) = mrow f c k0 (xs.take (k + 1)) ++ xs.drop (k + 1) := by
  have hk := (List.getElem?_eq_some_iff.1 hx).1
  obtain ⟨_, he⟩ := List.getElem?_eq_some_iff.1 hx
  rw [List.set_append_right _ _ (by simp [mrow_length]; omega)]
  simp only [mrow_length, List.length_take, Nat.min_eq_left (Nat.le_of_lt hk), Nat.sub_self]
  rw [List.drop_eq_getElem_cons hk, List.set_cons_zero, mrow_next k0 hx]
  simp
end

set_option maxHeartbeats 4000000 in
set_option maxRecDepth 20000 in
theorem szIntS_c {W : World} {va : Value} {xs : List Int} {left : Int} (ha : intEK.Rd W va xs) (h0 : 0 ≤ left) (h1 : left ≤ 1048576) : Calls Tryz.prog 29 #[va, vi left] W (Ret fun v w' => (∃ r : Int, v = vi r ∧ -1 ≤ r ∧ r ≤ left ∧ (0 ≤ r → (xs.length : Int) ≤ left - r)) ∧ Below W.heap.size W w') := by
  refine calls_fr Tryz.func29 rfl Tryz.ntmps29 rfl ?_
  intro a hF
  obtain ⟨A_a, q_a, rfl, hq_a, hn_a⟩ := ha.sl; unfold maxLen at hn_a
  have hS := Sep.refl W
  have e : IntKind.i64.wrap (left - xs.length) = left - xs.length := w64_id (by omega) (by omega)
  refine ws fun K1 hK1 => ?_
  refine wl_mvs (A := [_]) hF rfl ?_; clear hF a; intro a hF
  refine wl_nil (hK1 _ _ ?_)
  refine ws fun K2 hK2 => ?_
  refine wl_mvs (A := [_, _]) hF rfl ?_; clear hF a; intro a hF
  refine wl hF rfl rfl rfl (r_len ul24 (hF.ev rfl)) ?_; clear hF a; intro a hF
  refine wl hF rfl rfl rfl (r_sub (hF.ev rfl) (hF.ev rfl)) ?_; clear hF a; intro a hF
  refine wl_mvs (A := [_]) hF rfl ?_; clear hF a; intro a hF
  refine wl_nil (hK2 _ _ ?_)
  refine wp_seq_k fun K3 hK3 => ?_
  refine ws fun K4 hK4 => ?_
  refine wl_mvs (A := [_]) hF rfl ?_; clear hF a; intro a hF
  refine wl hF rfl rfl rfl (r_lss (hF.ev rfl) ec) ?_; clear hF a; intro a hF
  refine wl_nil (hK4 _ _ ?_)
  first | refine wc_dec (hF.ev rfl) (fun c10 => ?_) (fun c10 => ?_) | refine wc_ndec (hF.ev rfl) (fun c10 => ?_) (fun c10 => ?_) | refine wc_b (hF.ev rfl) (fun c10 => ?_) (fun c10 => ?_)
  ·
    refine ws fun K5 hK5 => ?_
    refine wl_mvs (A := [_]) hF rfl ?_; clear hF a; intro a hF
    refine wl_nil (hK5 _ _ ?_)
    refine wp_ret ?_
    try simp only [Exit.then, Exit.inBlock, ↓reduceIte]
    rw [e] at c10
    first | exact ret1 rfl hF rfl ⟨⟨-1, rfl, by omega, by omega, by omega⟩, hS.old⟩ | exact ret1 rfl hF rfl ⟨⟨_, congrArg vi e, by omega, by omega, by omega⟩, hS.old⟩
  refine wp_skip ?_
  refine hK3 _ _ ?_
  refine ws fun K6 hK6 => ?_
  refine wl_mvs (A := [_, _]) hF rfl ?_; clear hF a; intro a hF
  refine wl_nil (hK6 _ _ ?_)
  refine wp_ret ?_
  try simp only [Exit.then, Exit.inBlock, ↓reduceIte]
  rw [e] at c10
  first | exact ret1 rfl hF rfl ⟨⟨-1, rfl, by omega, by omega, by omega⟩, hS.old⟩ | exact ret1 rfl hF rfl ⟨⟨_, congrArg vi e, by omega, by omega, by omega⟩, hS.old⟩

def _root_.Go.Proofs.YtifhfodphoeeoaaGreat.Sl.Model.size (m : Model) : Nat := m.values.length + (m.snapshots.length + crow List.length m.snapshots)
def _root_.Go.Proofs.YtifhfodphoeeoaaGreat.Sl.Model.cnt (m : Model) : Nat := m.values.length + crow List.length m.snapshots
def _root_.Go.Proofs.YtifhfodphoeeoaaGreat.Sl.Model.mark (k0 : Int) (m : Model) : Model := ⟨marks k0 m.values.length, mrow (fun k x => marks k x.length) List.length (k0 + m.values.length) m.snapshots⟩

end Go.Proofs.YtifhfodphoeeoaaGreat.Wk
