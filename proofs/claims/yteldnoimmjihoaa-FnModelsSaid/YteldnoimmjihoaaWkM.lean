/- Walks: rows of rows of numbers. -/
import Derived.Test.YteldnoimmjihoaaChecked
import Derived.Test.YteldnoimmjihoaaWkA
namespace Go.Proofs.Yteldnoimmjihoaa.Wk
open Go Go.RowKit Sl
set_option linter.unusedVariables false
set_option linter.unusedSimpArgs false
set_option maxRecDepth 20000

/-- what a row counts, element by element; what marking makes of it -/
def crow {α : Type} (c : α → Nat) : List α → Nat
  | [] => 0
  | x :: xs => c x + crow c xs
def mrow {α : Type} (f : Int → α → α) (c : α → Nat) (k0 : Int) : List α → List α
  | [] => []
  | x :: xs => f k0 x :: mrow f c (k0 + c x) xs
section
variable {α : Type} {f : Int → α → α} {c : α → Nat} {xs : List α} {x : α} {k : Nat}
theorem crow_append (xs ys : List α) : crow c (xs ++ ys) = crow c xs + crow c ys := by
  induction xs with
  | nil => simp [crow]
  | cons x xs ih => simp only [List.cons_append, crow, ih]; omega
theorem mrow_append (xs ys : List α) (k0 : Int) : mrow f c k0 (xs ++ ys) = mrow f c k0 xs ++ mrow f c (k0 + crow c xs) ys := by
  induction xs generalizing k0 with
  | nil => simp [mrow, crow]
  | cons x xs ih =>
    simp only [List.cons_append, mrow, ih, crow]
    rw [show k0 + (c x : Int) + (crow c xs : Int) = k0 + ((c x + crow c xs : Nat) : Int) by omega]
theorem mrow_length (xs : List α) (k0 : Int) : (mrow f c k0 xs).length = xs.length := by
  induction xs generalizing k0 with
  | nil => rfl
  | cons x xs ih => simp [mrow, ih]
theorem crow_next (hx : xs[k]? = some x) : crow c (xs.take (k + 1)) = crow c (xs.take k) + c x := by
  rw [List.take_add_one, hx, crow_append]; simp [crow]
theorem crow_le (xs : List α) (k : Nat) : crow c (xs.take k) ≤ crow c xs := by
  have := crow_append (c := c) (xs.take k) (xs.drop k)
  rw [List.take_append_drop] at this
  omega
theorem crow_le1 (hx : xs[k]? = some x) : crow c (xs.take k) + c x ≤ crow c xs := by
  rw [← crow_next hx]; exact crow_le _ _
theorem mrow_next (k0 : Int) (hx : xs[k]? = some x) : mrow f c k0 (xs.take (k + 1)) = mrow f c k0 (xs.take k) ++ [f (k0 + crow c (xs.take k)) x] := by
  rw [List.take_add_one, hx, mrow_append]; rfl
theorem mrow_at (k0 : Int) (hx : xs[k]? = some x) : (mrow f c k0 xs)[k]? = some (f (k0 + crow c (xs.take k)) x) := by
  have hk := (List.getElem?_eq_some_iff.1 hx).1
  have h := mrow_append (f := f) (c := c) (xs.take (k + 1)) (xs.drop (k + 1)) k0
  rw [List.take_append_drop, mrow_next k0 hx] at h
  rw [h, List.getElem?_append_left (by simp [mrow_length]; omega), List.getElem?_append_right (by simp [mrow_length]; omega)]
  simp [mrow_length, Nat.min_eq_left (Nat.le_of_lt hk)]
theorem mix_at (k0 : Int) (hx : xs[k]? = some x) : (mrow f c k0 (xs.take k) ++ xs.drop k)[k]? = some x := by
  have hk := (List.getElem?_eq_some_iff.1 hx).1
  rw [List.getElem?_append_right (by simp [mrow_length]; omega)]
  simp [mrow_length, Nat.min_eq_left (Nat.le_of_lt hk), hx]
theorem mix_set (k0 : Int) (hx : xs[k]? = some x) : (mrow f c k0 (xs.take k) ++ xs.drop k).set k (f (k0 + crow c (xs.take k)) x) = mrow f c k0 (xs.take (k + 1)) ++ xs.drop (k + 1) := by
  have hk := (List.getElem?_eq_some_iff.1 hx).1
  obtain ⟨_, he⟩ := List.getElem?_eq_some_iff.1 hx
  rw [List.set_append_right _ _ (by simp [mrow_length]; omega)]
  simp only [mrow_length, List.length_take, Nat.min_eq_left (Nat.le_of_lt hk), Nat.sub_self]
  rw [List.drop_eq_getElem_cons hk, List.set_cons_zero, mrow_next k0 hx]
  simp
end

set_option maxHeartbeats 4000000 in
set_option maxRecDepth 20000 in
theorem szIntS_c {W : World} {va : Value} {xs : List Int} {left : Int} (ha : intEK.Rd W va xs) (h0 : 0 ≤ left) (h1 : left ≤ 1048576) : Calls Try.prog 41 #[va, vi left] W (Ret fun v w' => (∃ r : Int, v = vi r ∧ -1 ≤ r ∧ r ≤ left ∧ (0 ≤ r → (xs.length : Int) ≤ left - r)) ∧ Below W.heap.size W w') := by
  refine calls_fr Try.func41 rfl Try.ntmps41 rfl ?_
  intro a hF
  obtain ⟨A_a, q_a, rfl, hq_a, hn_a⟩ := ha.sl; unfold maxLen at hn_a
  have hS := Sep.refl W
  have e : IntKind.i64.wrap (left - xs.length) = left - xs.length := w64_id (by omega) (by omega)
  refine ws fun K1 hK1 => ?_
  refine wl_mvs (A := [_]) hF rfl ?_; clear hF a; intro a hF
  refine wl_nil (hK1 _ _ ?_)
  refine ws fun K2 hK2 => ?_
  refine wl_mvs (A := [_, _]) hF rfl ?_; clear hF a; intro a hF
  refine wl hF rfl rfl rfl (r_len ul24 (hF.ev rfl)) ?_; clear hF a; intro a hF
  refine wl hF rfl rfl rfl (r_sub (hF.ev rfl) (hF.ev rfl)) ?_; clear hF a; intro a hF
  refine wl_mvs (A := [_]) hF rfl ?_; clear hF a; intro a hF
  refine wl_nil (hK2 _ _ ?_)
  refine wp_seq_k fun K3 hK3 => ?_
  refine ws fun K4 hK4 => ?_
  refine wl_mvs (A := [_]) hF rfl ?_; clear hF a; intro a hF
  refine wl hF rfl rfl rfl (r_lss (hF.ev rfl) ec) ?_; clear hF a; intro a hF
  refine wl_nil (hK4 _ _ ?_)
  first | refine wc_dec (hF.ev rfl) (fun c10 => ?_) (fun c10 => ?_) | refine wc_ndec (hF.ev rfl) (fun c10 => ?_) (fun c10 => ?_) | refine wc_b (hF.ev rfl) (fun c10 => ?_) (fun c10 => ?_)
  ·
    refine ws fun K5 hK5 => ?_
    refine wl_mvs (A := [_]) hF rfl ?_; clear hF a; intro a hF
    refine wl_nil (hK5 _ _ ?_)
    refine wp_ret ?_
    try simp only [Exit.then, Exit.inBlock, ↓reduceIte]
    rw [e] at c10
    first | exact ret1 rfl hF rfl ⟨⟨-1, rfl, by omega, by omega, by omega⟩, hS.old⟩ | exact ret1 rfl hF rfl ⟨⟨_, congrArg vi e, by omega, by omega, by omega⟩, hS.old⟩
  refine wp_skip ?_
  refine hK3 _ _ ?_
  refine ws fun K6 hK6 => ?_
  refine wl_mvs (A := [_, _]) hF rfl ?_; clear hF a; intro a hF
  refine wl_nil (hK6 _ _ ?_)
  refine wp_ret ?_
  try simp only [Exit.then, Exit.inBlock, ↓reduceIte]
  rw [e] at c10
  first | exact ret1 rfl hF rfl ⟨⟨-1, rfl, by omega, by omega, by omega⟩, hS.old⟩ | exact ret1 rfl hF rfl ⟨⟨_, congrArg vi e, by omega, by omega, by omega⟩, hS.old⟩

set_option maxHeartbeats 4000000 in
set_option maxRecDepth 20000 in
theorem szIntSS_c {W : World} {va : Value} {xs : List (List Int)} {left : Int} (ha : (sliceEK intEK).Rd W va xs) (h0 : 0 ≤ left) (h1 : left ≤ 1048576) : Calls Try.prog 42 #[va, vi left] W (Ret fun v w' => (∃ r : Int, v = vi r ∧ -1 ≤ r ∧ r ≤ left ∧ (0 ≤ r → (xs.length + crow (List.length) xs : Int) ≤ left - r)) ∧ Below W.heap.size W w') := by
  refine calls_fr Try.func42 rfl Try.ntmps42 rfl ?_
  intro a hF
  obtain ⟨A_a, q_a, rfl, hq_a, hn_a⟩ := ha.sl; unfold maxLen at hn_a
  have hS := Sep.refl W
  have e : IntKind.i64.wrap (left - xs.length) = left - xs.length := w64_id (by omega) (by omega)
  refine ws fun K1 hK1 => ?_
  refine wl_mvs (A := [_]) hF rfl ?_; clear hF a; intro a hF
  refine wl_nil (hK1 _ _ ?_)
  refine ws fun K2 hK2 => ?_
  refine wl_mvs (A := [_, _]) hF rfl ?_; clear hF a; intro a hF
  refine wl hF rfl rfl rfl (r_len ul25 (hF.ev rfl)) ?_; clear hF a; intro a hF
  refine wl hF rfl rfl rfl (r_sub (hF.ev rfl) (hF.ev rfl)) ?_; clear hF a; intro a hF
  refine wl_mvs (A := [_]) hF rfl ?_; clear hF a; intro a hF
  refine wl_nil (hK2 _ _ ?_)
  refine wp_seq_k fun K3 hK3 => ?_
  refine ws fun K4 hK4 => ?_
  refine wl_mvs (A := [_]) hF rfl ?_; clear hF a; intro a hF
  refine wl hF rfl rfl rfl (r_lss (hF.ev rfl) ec) ?_; clear hF a; intro a hF
  refine wl_nil (hK4 _ _ ?_)
  first | refine wc_dec (hF.ev rfl) (fun c11 => ?_) (fun c11 => ?_) | refine wc_ndec (hF.ev rfl) (fun c11 => ?_) (fun c11 => ?_) | refine wc_b (hF.ev rfl) (fun c11 => ?_) (fun c11 => ?_)
  ·
    rw [e] at c11
    refine ws fun K5 hK5 => ?_
    refine wl_mvs (A := [_]) hF rfl ?_; clear hF a; intro a hF
    refine wl_nil (hK5 _ _ ?_)
    refine wp_ret ?_
    try simp only [Exit.then, Exit.inBlock, ↓reduceIte]
    first | exact ret1 rfl hF rfl ⟨⟨-1, rfl, by omega, by omega, by omega⟩, hS.old⟩ | (obtain rfl : k = xs.length := (by omega); rw [List.take_length] at hr2; exact ret1 rfl hF rfl ⟨⟨_, rfl, by omega, by omega, fun _ => hr2⟩, hS.old⟩)
  rw [e] at c11
  refine wp_skip ?_
  refine hK3 _ _ ?_
  refine wp_seq_k fun K6 hK6 => ?_
  refine ws fun K7 hK7 => ?_
  refine wl_mvs (A := [_]) hF rfl ?_; clear hF a; intro a hF
  refine wl_nil (hK7 _ _ ?_)
  refine wp_block ?_
  refine wp_loop_g (σ := Nat × Int) (fun s a w => s.1 ≤ xs.length ∧ 0 ≤ s.2 ∧ s.2 ≤ left ∧ (xs.length + crow (List.length) (xs.take s.1) : Int) ≤ left - s.2 ∧ Sep W [] w ∧ Fr 27 [(5, vi s.1), (1, vi s.2), (0, .slice A_a xs.length q_a)] a) (fun s => xs.length - s.1) (0, left - xs.length) ?_ ?_
  · exact ⟨Nat.zero_le _, by dsimp only; omega, by dsimp only; omega, by simp only [List.take_zero, crow]; omega, hS, (((hF.nil.keep hF (t := 0) rfl).keepE hF (t := 1) rfl (congrArg vi e)).keep hF (t := 5) rfl)⟩
  clear hF hS a
  rintro ⟨k, r⟩ a w ⟨hk, hr0, hr1, hr2, hS, hF⟩
  dsimp only at hk hr0 hr1 hr2 hF
  refine wp_seq_k fun K8 hK8 => ?_
  refine ws fun K9 hK9 => ?_
  refine wl_mvs (A := [_, _]) hF rfl ?_; clear hF a; intro a hF
  refine wl hF rfl rfl rfl (r_len ul25 (hF.ev rfl)) ?_; clear hF a; intro a hF
  refine wl hF rfl rfl rfl (r_lss (hF.ev rfl) (hF.ev rfl)) ?_; clear hF a; intro a hF
  refine wl_nil (hK9 _ _ ?_)
  first | refine wc_dec (hF.ev rfl) (fun c15 => ?_) (fun c15 => ?_) | refine wc_ndec (hF.ev rfl) (fun c15 => ?_) (fun c15 => ?_) | refine wc_b (hF.ev rfl) (fun c15 => ?_) (fun c15 => ?_)
  ·
    have hlt : k < xs.length := by omega
    obtain ⟨x, hx⟩ : ∃ x, xs[k]? = some x := ⟨_, List.getElem?_eq_getElem hlt⟩
    refine wp_skip ?_
    refine hK8 _ _ ?_
    refine wp_seq_k fun K10 hK10 => ?_
    refine wp_block ?_
    refine ws fun K11 hK11 => ?_
    refine wl_mvs (A := [_, _]) hF rfl ?_; clear hF a; intro a hF
    obtain ⟨g20, o20, m20, q20, cs20, hv20, hm20, hl20, hk20, hz20, hc20⟩ := Rd.idx (ha) hx
    obtain ⟨v20, rfl, hr20⟩ := hk20; obtain ⟨Ae20, qe20, rfl, _, hme20⟩ := hr20.sl; unfold maxLen at hme20
    refine wl hF rfl rfl rfl (r_index sl25 ((hF.ev rfl).trans hv20) (hF.ev rfl) (by omega) (by omega)) ?_; clear hF a; intro a hF
    refine wl hF rfl rfl rfl (r_load1 sc24 (hF.ev rfl) (cellB hS.old (hc20 0 _ rfl))) ?_; clear hF a; intro a hF
    refine wl_mvs (A := [_]) hF rfl ?_; clear hF a; intro a hF
    refine wl_call hF rfl rfl rfl (r_call2 en41 (hF.ev rfl) (hF.ev rfl)) (szIntS_c (hS.rd hr20) (by omega) (by omega)) ?_; clear hF a; rintro v w1 a ⟨⟨r23, rfl, e1_23, e2_23, e3_23⟩, hB_⟩ hF; replace hS := hS.ext hB_; clear hB_
    refine wl_mvs (A := [_]) hF rfl ?_; clear hF a; intro a hF
    refine wl_nil (hK11 _ _ ?_)
    refine ws fun K12 hK12 => ?_
    refine wl_mvs (A := [_]) hF rfl ?_; clear hF a; intro a hF
    refine wl hF rfl rfl rfl (r_lss (hF.ev rfl) ec) ?_; clear hF a; intro a hF
    refine wl_nil (hK12 _ _ ?_)
    first | refine wc_dec (hF.ev rfl) (fun c25 => ?_) (fun c25 => ?_) | refine wc_ndec (hF.ev rfl) (fun c25 => ?_) (fun c25 => ?_) | refine wc_b (hF.ev rfl) (fun c25 => ?_) (fun c25 => ?_)
    ·
      refine ws fun K13 hK13 => ?_
      refine wl_mvs (A := [_]) hF rfl ?_; clear hF a; intro a hF
      refine wl_nil (hK13 _ _ ?_)
      refine wp_ret ?_
      try simp only [Exit.then, Exit.inBlock, ↓reduceIte]
      first | exact ret1 rfl hF rfl ⟨⟨-1, rfl, by omega, by omega, by omega⟩, hS.old⟩ | (obtain rfl : k = xs.length := (by omega); rw [List.take_length] at hr2; exact ret1 rfl hF rfl ⟨⟨_, rfl, by omega, by omega, fun _ => hr2⟩, hS.old⟩)
    refine wp_skip ?_
    simp only [Exit.then, Exit.inBlock, ↓reduceIte]
    refine hK10 _ _ ?_
    refine wp_region_lit ?_
    refine wl_mvs (A := [_]) hF rfl ?_; clear hF a; intro a hF
    refine wl hF rfl rfl rfl (r_add (hF.ev rfl) ec) ?_; clear hF a; intro a hF
    refine wl_mvs (A := [_]) hF rfl ?_; clear hF a; intro a hF
    refine wl_nil ?_
    try simp only [Exit.then, Exit.inBlock, ↓reduceIte]
    have e4 := e3_23 (by omega)
    exact ⟨(k + 1, r23), ⟨by dsimp only; omega, by dsimp only; omega, by dsimp only; omega, by dsimp only; rw [crow_next hx]; omega, hS, (((hF.nil.keep hF (t := 0) rfl).keep hF (t := 1) rfl).keepE hF (t := 5) rfl (wk (by omega)))⟩, by dsimp only; omega⟩
  refine wp_exit ?_
  simp only [Exit.then, Exit.inBlock, ↓reduceIte]
  refine hK6 _ _ ?_
  refine ws fun K14 hK14 => ?_
  refine wl_mvs (A := [_, _]) hF rfl ?_; clear hF a; intro a hF
  refine wl_nil (hK14 _ _ ?_)
  refine wp_ret ?_
  try simp only [Exit.then, Exit.inBlock, ↓reduceIte]
  first | exact ret1 rfl hF rfl ⟨⟨-1, rfl, by omega, by omega, by omega⟩, hS.old⟩ | (obtain rfl : k = xs.length := (by omega); rw [List.take_length] at hr2; exact ret1 rfl hF rfl ⟨⟨_, rfl, by omega, by omega, fun _ => hr2⟩, hS.old⟩)

set_option maxHeartbeats 4000000 in
set_option maxRecDepth 20000 in
theorem toIntSS_c {W : World} {va : Value} {xs : List (List Int)} (ha : (sliceEK intEK).Rd W va xs) (hz : xs.length ≤ 1099511627776) (hz1 : ∀ x ∈ xs, x.length ≤ 1099511627776) : Calls Try.prog 45 #[va] W (Ret (Mk W (fun s : Slv => sv s) (fun s => [Own ((sliceEK intEK)) (sv s) xs]))) := by
  refine calls_fr Try.func45 rfl Try.ntmps45 rfl ?_
  intro a hF
  obtain ⟨A_a, q_a, rfl, hq_a, hn_a⟩ := ha.sl; unfold maxLen at hn_a
  have hS := Sep.refl W
  refine ws fun K1 hK1 => ?_
  refine wl_mvs (A := [_]) hF rfl ?_; clear hF a; intro a hF
  refine wl_nil (hK1 _ _ ?_)
  refine ws fun K2 hK2 => ?_
  refine wl_mvs (A := [_]) hF rfl ?_; clear hF a; intro a hF
  refine wl hF rfl rfl rfl (r_len ul25 (hF.ev rfl)) ?_; clear hF a; intro a hF
  refine wl_make ((sliceEK intEK)) [] [] hF hS rfl mk25 rfl (nil_inner _) (hF.ev rfl) (by omega) (by unfold maxLen; omega) ?_; clear hF a; intro gm_7 w1 a hS_ hF; replace hS := hS_; clear hS_
  refine wl_mvs (A := [_]) hF rfl ?_; clear hF a; intro a hF
  refine wl_nil (hK2 _ _ ?_)
  refine wp_seq_k fun K3 hK3 => ?_
  refine ws fun K4 hK4 => ?_
  refine wl_mvs (A := [_]) hF rfl ?_; clear hF a; intro a hF
  refine wl_nil (hK4 _ _ ?_)
  refine wp_block ?_
  refine wp_loop_g (σ := Nat) (fun k a w => k ≤ xs.length ∧ Sep W [Own ((sliceEK intEK)) (.slice (some ⟨gm_7, 0, none⟩) xs.length xs.length) (xs.take k ++ List.replicate (xs.length - k) ([]))] w ∧ Fr 23 [(4, vi k), (3, .slice (some ⟨gm_7, 0, none⟩) xs.length xs.length), (0, .slice A_a xs.length q_a)] a) (fun k => xs.length - k) 0 ?_ ?_
  · refine ⟨Nat.zero_le _, ?_, (((hF.nil.keep hF (t := 0) rfl).keep hF (t := 3) rfl).keep hF (t := 4) rfl)⟩
    rw [List.take_zero, List.nil_append, Nat.sub_zero]; exact hS
  clear hF hS a
  rintro k a w ⟨hk, hS, hF⟩
  refine wp_seq_k fun K5 hK5 => ?_
  refine ws fun K6 hK6 => ?_
  refine wl_mvs (A := [_, _]) hF rfl ?_; clear hF a; intro a hF
  refine wl hF rfl rfl rfl (r_len ul25 (hF.ev rfl)) ?_; clear hF a; intro a hF
  refine wl hF rfl rfl rfl (r_lss (hF.ev rfl) (hF.ev rfl)) ?_; clear hF a; intro a hF
  refine wl_nil (hK6 _ _ ?_)
  first | refine wc_dec (hF.ev rfl) (fun c11 => ?_) (fun c11 => ?_) | refine wc_ndec (hF.ev rfl) (fun c11 => ?_) (fun c11 => ?_) | refine wc_b (hF.ev rfl) (fun c11 => ?_) (fun c11 => ?_)
  ·
    have hlt : k < xs.length := by omega
    obtain ⟨x, hx⟩ : ∃ x, xs[k]? = some x := ⟨_, List.getElem?_eq_getElem hlt⟩
    obtain ⟨y, hy⟩ : ∃ y, (xs.take k ++ List.replicate (xs.length - k) ([]))[k]? = some y := ⟨_, List.getElem?_eq_getElem (by simp; omega)⟩
    have hxz := hz1 x (List.mem_of_getElem? hx)
    refine wp_skip ?_
    refine hK5 _ _ ?_
    refine wp_seq_k fun K7 hK7 => ?_
    refine wp_block ?_
    refine wp_region_lit ?_
    refine wl_mvs (A := [_, _, _, _]) hF rfl ?_; clear hF a; intro a hF
    obtain ⟨g18, o18, m18, q18, cs18, hv18, hm18, hl18, hk18, hz18, hc18⟩ := Rd.idx (ha) hx
    obtain ⟨v18, rfl, hr18⟩ := hk18; obtain ⟨Ae18, qe18, rfl, _, hme18⟩ := hr18.sl; unfold maxLen at hme18
    refine wl hF rfl rfl rfl (r_index sl25 ((hF.ev rfl).trans hv18) (hF.ev rfl) (by omega) (by omega)) ?_; clear hF a; intro a hF
    refine wl hF rfl rfl rfl (r_load1 sc24 (hF.ev rfl) (cellB hS.old (hc18 0 _ rfl))) ?_; clear hF a; intro a hF
    refine wl_mk hF hS rfl rfl rfl (r_call1 en29 (hF.ev rfl)) (toIntS_c (hS.rd hr18) hxz) ?_; clear hF a; rintro s20 w2 a hS_ hF; replace hS := hS_; clear hS_; dsimp only [List.cons_append, List.nil_append] at hS
    have hl21 : k < xs.length := hlt
    have hv21 : Value.slice (some ⟨gm_7, 0, none⟩) xs.length xs.length = _ := rfl
    refine wl hF rfl rfl rfl (r_index sl25 ((hF.ev rfl).trans hv21) (hF.ev rfl) (by omega) (by omega)) ?_; clear hF a; intro a hF
    replace hS := hS.own_part; refine wl_oput (q := 0) (i := k) hF hS rfl rfl hy sz24 (hF.ev rfl) rfl (hF.ev rfl) rfl ?_; intro w3 hS_; replace hS := hS_; clear hS_; dsimp only [List.set] at hS; rw [fill_set hx] at hS
    refine wl_nil ?_
    simp only [Exit.then, Exit.inBlock, ↓reduceIte]
    refine hK7 _ _ ?_
    refine wp_region_lit ?_
    refine wl_mvs (A := [_]) hF rfl ?_; clear hF a; intro a hF
    refine wl hF rfl rfl rfl (r_add (hF.ev rfl) ec) ?_; clear hF a; intro a hF
    refine wl_mvs (A := [_]) hF rfl ?_; clear hF a; intro a hF
    refine wl_nil ?_
    try simp only [Exit.then, Exit.inBlock, ↓reduceIte]
    exact ⟨k + 1, ⟨by omega, hS, (((hF.nil.keep hF (t := 0) rfl).keep hF (t := 3) rfl).keepE hF (t := 4) rfl (wk (by omega)))⟩, by omega⟩
  refine wp_exit ?_
  simp only [Exit.then, Exit.inBlock, ↓reduceIte]
  refine hK3 _ _ ?_
  refine ws fun K8 hK8 => ?_
  refine wl_mvs (A := [_, _]) hF rfl ?_; clear hF a; intro a hF
  refine wl_nil (hK8 _ _ ?_)
  refine wp_ret ?_
  try simp only [Exit.then, Exit.inBlock, ↓reduceIte]
  obtain rfl : k = xs.length := by omega
  refine ret1 rfl hF rfl ?_
  rw [Nat.sub_self, List.replicate_zero, List.append_nil, List.take_length] at hS; exact hS.mkS rfl

set_option maxHeartbeats 4000000 in
set_option maxRecDepth 20000 in
theorem markIntSS_c {W w : World} {l : List Res} {q : Nat} {va : Value} {xs : List (List Int)} {k0 : Int} (hS : Sep W l w) (hq : l[q]? = some (Own (sliceEK intEK) va xs)) (h0 : 0 ≤ k0) (h1 : k0 + crow (List.length) xs < 9223372036854775807) : Calls Try.prog 52 #[va, vi k0] w (Ret fun v w' => v = vi (k0 + crow (List.length) xs) ∧ Sep W (l.set q (Own (sliceEK intEK) va (mrow (fun k x => marks k x.length) (List.length) k0 xs))) w') := by
  refine calls_fr Try.func52 rfl Try.ntmps52 rfl ?_
  intro a hF
  have hql := (List.getElem?_eq_some_iff.1 hq).1
  obtain ⟨A_a, q_a, rfl, hq_a, hn_a⟩ := (hS.own_rd hq).sl; unfold maxLen at hn_a
  refine ws fun K1 hK1 => ?_
  refine wl_mvs (A := [_]) hF rfl ?_; clear hF a; intro a hF
  refine wl_nil (hK1 _ _ ?_)
  refine wp_seq_k fun K2 hK2 => ?_
  refine ws fun K3 hK3 => ?_
  refine wl_mvs (A := [_]) hF rfl ?_; clear hF a; intro a hF
  refine wl_nil (hK3 _ _ ?_)
  refine wp_block ?_
  refine wp_loop_g (σ := Nat) (fun k a w => k ≤ xs.length ∧ Sep W (l.set q (Own (sliceEK intEK) (.slice A_a xs.length q_a) (mrow (fun k x => marks k x.length) (List.length) k0 (xs.take k) ++ xs.drop k))) w ∧ Fr 19 [(5, vi k), (1, vi (k0 + crow (List.length) (xs.take k))), (0, .slice A_a xs.length q_a)] a) (fun k => xs.length - k) 0 ?_ ?_
  · refine ⟨Nat.zero_le _, ?_, (((hF.nil.keep hF (t := 0) rfl).keepE hF (t := 1) rfl (by simp [crow])).keep hF (t := 5) rfl)⟩
    rw [show mrow (fun k x => marks k x.length) (List.length) k0 (xs.take 0) ++ xs.drop 0 = xs from by simp [mrow], set_self hq]; exact hS
  clear hF hS a
  rintro k a w ⟨hk, hS, hF⟩
  refine wp_seq_k fun K4 hK4 => ?_
  refine ws fun K5 hK5 => ?_
  refine wl_mvs (A := [_, _]) hF rfl ?_; clear hF a; intro a hF
  refine wl hF rfl rfl rfl (r_len ul25 (hF.ev rfl)) ?_; clear hF a; intro a hF
  refine wl hF rfl rfl rfl (r_lss (hF.ev rfl) (hF.ev rfl)) ?_; clear hF a; intro a hF
  refine wl_nil (hK5 _ _ ?_)
  first | refine wc_dec (hF.ev rfl) (fun c9 => ?_) (fun c9 => ?_) | refine wc_ndec (hF.ev rfl) (fun c9 => ?_) (fun c9 => ?_) | refine wc_b (hF.ev rfl) (fun c9 => ?_) (fun c9 => ?_)
  ·
    have hlt : k < xs.length := by omega
    obtain ⟨x, hx⟩ : ∃ x, xs[k]? = some x := ⟨_, List.getElem?_eq_getElem hlt⟩
    have hc1 := crow_le1 (c := List.length) hx
    have hc2 := crow_next (c := List.length) hx
    have hq1 : (l.set q (Own (sliceEK intEK) (.slice A_a xs.length q_a) (mrow (fun k x => marks k x.length) (List.length) k0 (xs.take k) ++ xs.drop k)))[q]? = some (Own (sliceEK intEK) (.slice A_a xs.length q_a) (mrow (fun k x => marks k x.length) (List.length) k0 (xs.take k) ++ xs.drop k)) := List.getElem?_set_self hql
    obtain ⟨vs, hS⟩ := hS.borrow hq1 (mix_at k0 hx)
    rw [List.set_set] at hS
    replace hS := hS.part_own
    have hq2 := List.getElem?_set_self (a := OwnBut (sliceEK intEK) (.slice A_a xs.length q_a) (mrow (fun k x => marks k x.length) (List.length) k0 (xs.take k) ++ xs.drop k) k ((sliceEK intEK).cells x vs)) hql
    obtain ⟨gb, ob, qb, hvb, _⟩ := hS.tail.but_sl hq2
    have hcb := hS.tail.but_at hq2 hvb
    refine wp_skip ?_
    refine hK4 _ _ ?_
    refine wp_seq_k fun K6 hK6 => ?_
    refine wp_block ?_
    refine wp_region_lit ?_
    refine wl_mvs (A := [_, _]) hF rfl ?_; clear hF a; intro a hF
    have hv14 := hvb
    have hl14 : k < (mrow (fun k x => marks k x.length) (List.length) k0 (xs.take k) ++ xs.drop k).length := (List.getElem?_eq_some_iff.1 (mix_at k0 hx)).1
    have hc14 := hcb
    refine wl hF rfl rfl rfl (r_index sl25 ((hF.ev rfl).trans hv14) (hF.ev rfl) (by omega) (by omega)) ?_; clear hF a; intro a hF
    refine wl hF rfl rfl rfl (r_load1 sc24 (hF.ev rfl) (hc14 0 _ rfl)) ?_; clear hF a; intro a hF
    refine wl_mvs (A := [_]) hF rfl ?_; clear hF a; intro a hF
    refine wl_call hF rfl rfl rfl (r_call2 en26 (hF.ev rfl) (hF.ev rfl)) (markIntS_c hS (q := 0) rfl (by omega) (by omega)) ?_; clear hF a; rintro v w1 a ⟨rfl, hS_⟩ hF; replace hS := hS_; clear hS_; (try dsimp only [List.set] at hS); replace hS := hS.own_part.giveback hq2 rfl; rw [List.set_set, mix_set k0 hx] at hS
    refine wl_mvs (A := [_]) hF rfl ?_; clear hF a; intro a hF
    refine wl_nil ?_
    simp only [Exit.then, Exit.inBlock, ↓reduceIte]
    refine hK6 _ _ ?_
    refine wp_region_lit ?_
    refine wl_mvs (A := [_]) hF rfl ?_; clear hF a; intro a hF
    refine wl hF rfl rfl rfl (r_add (hF.ev rfl) ec) ?_; clear hF a; intro a hF
    refine wl_mvs (A := [_]) hF rfl ?_; clear hF a; intro a hF
    refine wl_nil ?_
    try simp only [Exit.then, Exit.inBlock, ↓reduceIte]
    exact ⟨k + 1, ⟨by omega, hS, (((hF.nil.keep hF (t := 0) rfl).keepE hF (t := 1) rfl (by rw [hc2]; congr 1; omega)).keepE hF (t := 5) rfl (wk (by omega)))⟩, by omega⟩
  refine wp_exit ?_
  simp only [Exit.then, Exit.inBlock, ↓reduceIte]
  refine hK2 _ _ ?_
  refine ws fun K7 hK7 => ?_
  refine wl_mvs (A := [_, _]) hF rfl ?_; clear hF a; intro a hF
  refine wl_nil (hK7 _ _ ?_)
  refine wp_ret ?_
  try simp only [Exit.then, Exit.inBlock, ↓reduceIte]
  obtain rfl : k = xs.length := by omega
  rw [List.take_length] at hF hS
  refine ret1 rfl hF rfl ⟨rfl, ?_⟩
  rw [List.drop_length, List.append_nil] at hS; exact hS

set_option maxHeartbeats 4000000 in
set_option maxRecDepth 20000 in
theorem heldIntSS_c {W : World} {va : Value} {xs : List (List Int)} {k0 : Int} (ha : (sliceEK intEK).Rd W va (mrow (fun k x => marks k x.length) (List.length) k0 xs)) (h0 : 0 ≤ k0) (h1 : k0 + crow (List.length) xs < 9223372036854775807) : Calls Try.prog 53 #[va, vi k0] W (Ret fun v w' => v = vi (k0 + crow (List.length) xs) ∧ Below W.heap.size W w') := by
  refine calls_fr Try.func53 rfl Try.ntmps53 rfl ?_
  intro a hF
  obtain ⟨A_a, q_a, rfl, hq_a, hn_a⟩ := ha.sl; unfold maxLen at hn_a
  rw [mrow_length] at hq_a hn_a
  have hS := Sep.refl W
  refine ws fun K1 hK1 => ?_
  refine wl_mvs (A := [_]) hF rfl ?_; clear hF a; intro a hF
  refine wl_nil (hK1 _ _ ?_)
  refine wp_seq_k fun K2 hK2 => ?_
  refine ws fun K3 hK3 => ?_
  refine wl_mvs (A := [_]) hF rfl ?_; clear hF a; intro a hF
  refine wl_nil (hK3 _ _ ?_)
  refine wp_block ?_
  refine wp_loop_g (σ := Nat) (fun k a w => k ≤ xs.length ∧ Sep W [] w ∧ Fr 21 [(5, vi k), (1, vi (k0 + crow (List.length) (xs.take k))), (0, .slice A_a (mrow (fun k x => marks k x.length) (List.length) k0 xs).length q_a)] a) (fun k => xs.length - k) 0 ?_ ?_
  · exact ⟨Nat.zero_le _, hS, (((hF.nil.keep hF (t := 0) rfl).keepE hF (t := 1) rfl (by simp [crow])).keep hF (t := 5) rfl)⟩
  clear hF hS a
  rintro k a w ⟨hk, hS, hF⟩
  refine wp_seq_k fun K4 hK4 => ?_
  refine ws fun K5 hK5 => ?_
  refine wl_mvs (A := [_, _]) hF rfl ?_; clear hF a; intro a hF
  refine wl hF rfl rfl rfl (r_len ul25 (hF.ev rfl)) ?_; clear hF a; intro a hF
  refine wl hF rfl rfl rfl (r_lss (hF.ev rfl) (hF.ev rfl)) ?_; clear hF a; intro a hF
  refine wl_nil (hK5 _ _ ?_)
  first | refine wc_dec (hF.ev rfl) (fun c9 => ?_) (fun c9 => ?_) | refine wc_ndec (hF.ev rfl) (fun c9 => ?_) (fun c9 => ?_) | refine wc_b (hF.ev rfl) (fun c9 => ?_) (fun c9 => ?_)
  ·
    rw [mrow_length] at c9
    have hlt : k < xs.length := by omega
    obtain ⟨x, hx⟩ : ∃ x, xs[k]? = some x := ⟨_, List.getElem?_eq_getElem hlt⟩
    have hc1 := crow_le1 (c := List.length) hx
    have hc2 := crow_next (c := List.length) hx
    refine wp_skip ?_
    refine hK4 _ _ ?_
    refine wp_seq_k fun K6 hK6 => ?_
    refine wp_block ?_
    refine ws fun K7 hK7 => ?_
    refine wl_mvs (A := [_, _]) hF rfl ?_; clear hF a; intro a hF
    obtain ⟨g14, o14, m14, q14, cs14, hv14, hm14, hl14, hk14, hz14, hc14⟩ := Rd.idx (ha) (mrow_at k0 hx)
    obtain ⟨v14, rfl, hr14⟩ := hk14; obtain ⟨Ae14, qe14, rfl, _, hme14⟩ := hr14.sl; unfold maxLen at hme14
    refine wl hF rfl rfl rfl (r_index sl25 ((hF.ev rfl).trans hv14) (hF.ev rfl) (by omega) (by omega)) ?_; clear hF a; intro a hF
    refine wl hF rfl rfl rfl (r_load1 sc24 (hF.ev rfl) (cellB hS.old (hc14 0 _ rfl))) ?_; clear hF a; intro a hF
    refine wl_mvs (A := [_]) hF rfl ?_; clear hF a; intro a hF
    refine wl_call hF rfl rfl rfl (r_call2 en27 (hF.ev rfl) (hF.ev rfl)) (heldIntS_c (hS.rd hr14) (by omega) (by omega)) ?_; clear hF a; rintro v w1 a ⟨rfl, hB_⟩ hF; replace hS := hS.ext hB_; clear hB_
    refine wl_mvs (A := [_]) hF rfl ?_; clear hF a; intro a hF
    refine wl_nil (hK7 _ _ ?_)
    refine ws fun K8 hK8 => ?_
    refine wl_mvs (A := [_]) hF rfl ?_; clear hF a; intro a hF
    refine wl hF rfl rfl rfl (r_lss (hF.ev rfl) ec) ?_; clear hF a; intro a hF
    refine wl_nil (hK8 _ _ ?_)
    first | refine wc_dec (hF.ev rfl) (fun c19 => ?_) (fun c19 => ?_) | refine wc_ndec (hF.ev rfl) (fun c19 => ?_) (fun c19 => ?_) | refine wc_b (hF.ev rfl) (fun c19 => ?_) (fun c19 => ?_)
    ·
      exact absurd c19 (by omega) -- closed
    refine wp_skip ?_
    simp only [Exit.then, Exit.inBlock, ↓reduceIte]
    refine hK6 _ _ ?_
    refine wp_region_lit ?_
    refine wl_mvs (A := [_]) hF rfl ?_; clear hF a; intro a hF
    refine wl hF rfl rfl rfl (r_add (hF.ev rfl) ec) ?_; clear hF a; intro a hF
    refine wl_mvs (A := [_]) hF rfl ?_; clear hF a; intro a hF
    refine wl_nil ?_
    try simp only [Exit.then, Exit.inBlock, ↓reduceIte]
    exact ⟨k + 1, ⟨by omega, hS, (((hF.nil.keep hF (t := 0) rfl).keepE hF (t := 1) rfl (by rw [hc2]; congr 1; omega)).keepE hF (t := 5) rfl (wk (by omega)))⟩, by omega⟩
  rw [mrow_length] at c9
  refine wp_exit ?_
  simp only [Exit.then, Exit.inBlock, ↓reduceIte]
  refine hK2 _ _ ?_
  refine ws fun K9 hK9 => ?_
  refine wl_mvs (A := [_, _]) hF rfl ?_; clear hF a; intro a hF
  refine wl_nil (hK9 _ _ ?_)
  refine wp_ret ?_
  try simp only [Exit.then, Exit.inBlock, ↓reduceIte]
  obtain rfl : k = xs.length := by omega
  rw [List.take_length] at hF
  exact ret1 rfl hF rfl ⟨rfl, hS.old⟩

set_option maxHeartbeats 4000000 in
set_option maxRecDepth 20000 in
theorem eqIntSS_c {W : World} {va vb : Value} {xs ys : List (List Int)} (ha : (sliceEK intEK).Rd W va xs) (hb : (sliceEK intEK).Rd W vb ys) : Calls Try.prog 51 #[va, vb] W (Ret fun v w' => v = .bool (decide (xs = ys)) ∧ Below W.heap.size W w') := by
  refine calls_fr Try.func51 rfl Try.ntmps51 rfl ?_
  intro a hF
  obtain ⟨A_a, q_a, rfl, hq_a, hn_a⟩ := ha.sl; unfold maxLen at hn_a
  obtain ⟨A_b, q_b, rfl, hq_b, hn_b⟩ := hb.sl; unfold maxLen at hn_b
  have hS := Sep.refl W
  refine ws fun K1 hK1 => ?_
  refine wl_mvs (A := [_]) hF rfl ?_; clear hF a; intro a hF
  refine wl_nil (hK1 _ _ ?_)
  refine wp_seq_k fun K2 hK2 => ?_
  refine ws fun K3 hK3 => ?_
  refine wl_mvs (A := [_]) hF rfl ?_; clear hF a; intro a hF
  refine wl hF rfl rfl rfl (r_len ul25 (hF.ev rfl)) ?_; clear hF a; intro a hF
  refine wl_mvs (A := [_]) hF rfl ?_; clear hF a; intro a hF
  refine wl hF rfl rfl rfl (r_len ul25 (hF.ev rfl)) ?_; clear hF a; intro a hF
  refine wl hF rfl rfl rfl (r_neq (hF.ev rfl) (hF.ev rfl)) ?_; clear hF a; intro a hF
  refine wl_nil (hK3 _ _ ?_)
  first | refine wc_dec (hF.ev rfl) (fun c10 => ?_) (fun c10 => ?_) | refine wc_ndec (hF.ev rfl) (fun c10 => ?_) (fun c10 => ?_) | refine wc_b (hF.ev rfl) (fun c10 => ?_) (fun c10 => ?_)
  ·
    refine ws fun K4 hK4 => ?_
    refine wl_mvs (A := [_]) hF rfl ?_; clear hF a; intro a hF
    refine wl_nil (hK4 _ _ ?_)
    refine wp_ret ?_
    try simp only [Exit.then, Exit.inBlock, ↓reduceIte]
    refine ret1 rfl hF rfl ⟨?_, hS.old⟩
    first | exact eq_len c10 | exact eq_at hx hy c26 | exact eq_all htk hk hlen (by omega)
  refine wp_skip ?_
  refine hK2 _ _ ?_
  refine wp_seq_k fun K5 hK5 => ?_
  refine ws fun K6 hK6 => ?_
  refine wl_mvs (A := [_]) hF rfl ?_; clear hF a; intro a hF
  refine wl_nil (hK6 _ _ ?_)
  refine wp_block ?_
  refine wp_loop_g (σ := Nat) (fun k a w => k ≤ xs.length ∧ xs.length = ys.length ∧ xs.take k = ys.take k ∧ Sep W [] w ∧ Fr 27 [(5, vi k), (0, .slice A_a xs.length q_a), (1, .slice A_b ys.length q_b)] a) (fun k => xs.length - k) 0 ?_ ?_
  · exact ⟨Nat.zero_le _, by omega, rfl, hS, (((hF.nil.keep hF (t := 1) rfl).keep hF (t := 0) rfl).keep hF (t := 5) rfl)⟩
  clear hF hS a
  rintro k a w ⟨hk, hlen, htk, hS, hF⟩
  refine wp_seq_k fun K7 hK7 => ?_
  refine ws fun K8 hK8 => ?_
  refine wl_mvs (A := [_, _]) hF rfl ?_; clear hF a; intro a hF
  refine wl hF rfl rfl rfl (r_len ul25 (hF.ev rfl)) ?_; clear hF a; intro a hF
  refine wl hF rfl rfl rfl (r_lss (hF.ev rfl) (hF.ev rfl)) ?_; clear hF a; intro a hF
  refine wl_nil (hK8 _ _ ?_)
  first | refine wc_dec (hF.ev rfl) (fun c14 => ?_) (fun c14 => ?_) | refine wc_ndec (hF.ev rfl) (fun c14 => ?_) (fun c14 => ?_) | refine wc_b (hF.ev rfl) (fun c14 => ?_) (fun c14 => ?_)
  ·
    have hlt : k < xs.length := by omega
    obtain ⟨x, hx⟩ : ∃ x, xs[k]? = some x := ⟨_, List.getElem?_eq_getElem hlt⟩
    obtain ⟨y, hy⟩ : ∃ y, ys[k]? = some y := ⟨_, List.getElem?_eq_getElem (by omega)⟩
    refine wp_skip ?_
    refine hK7 _ _ ?_
    refine wp_seq_k fun K9 hK9 => ?_
    refine wp_block ?_
    refine wp_seq_k fun K10 hK10 => ?_
    refine wp_region_calm (by kernel_rfl) (by kernel_rfl) ?_
    refine wq_mvs (A := [_, _]) hF rfl ?_; clear hF a; intro a hF
    obtain ⟨g19, o19, m19, q19, cs19, hv19, hm19, hl19, hk19, hz19, hc19⟩ := Rd.idx (ha) hx
    obtain ⟨v19, rfl, hr19⟩ := hk19; obtain ⟨Ae19, qe19, rfl, _, hme19⟩ := hr19.sl; unfold maxLen at hme19
    refine wq hF rfl rfl rfl (fun w_ hB_ => r_index sl25 ((hF.ev rfl).trans hv19) (hF.ev rfl) (by omega) (by omega)) ?_; clear hF a; intro a hF
    refine wq hF rfl rfl rfl (fun w_ hB_ => r_load1 sc24 (hF.ev rfl) (cellB (hS.ext hB_).old (hc19 0 _ rfl))) ?_; clear hF a; intro a hF
    refine wq_mvs (A := [_, _]) hF rfl ?_; clear hF a; intro a hF
    obtain ⟨g23, o23, m23, q23, cs23, hv23, hm23, hl23, hk23, hz23, hc23⟩ := Rd.idx (hb) hy
    obtain ⟨v23, rfl, hr23⟩ := hk23; obtain ⟨Ae23, qe23, rfl, _, hme23⟩ := hr23.sl; unfold maxLen at hme23
    refine wq hF rfl rfl rfl (fun w_ hB_ => r_index sl25 ((hF.ev rfl).trans hv23) (hF.ev rfl) (by omega) (by omega)) ?_; clear hF a; intro a hF
    refine wq hF rfl rfl rfl (fun w_ hB_ => r_load1 sc24 (hF.ev rfl) (cellB (hS.ext hB_).old (hc23 0 _ rfl))) ?_; clear hF a; intro a hF
    refine wq_call hF rfl rfl rfl (fun w_ hB_ => r_call2 en24 (hF.ev rfl) (hF.ev rfl)) (fun w_ hB_ => eqIntS_c ((hS.ext hB_).rd hr19) ((hS.ext hB_).rd hr23)) ?_; clear hF a; intro a hF
    refine wq hF rfl rfl rfl (fun w_ hB_ => r_not (hF.ev rfl)) ?_; clear hF a; intro a hF
    refine wpQuiet_nil ?_; intro w1 hB_; replace hS := hS.ext hB_; clear hB_
    refine hK10 _ _ ?_
    first | refine wc_dec (hF.ev rfl) (fun c26 => ?_) (fun c26 => ?_) | refine wc_ndec (hF.ev rfl) (fun c26 => ?_) (fun c26 => ?_) | refine wc_b (hF.ev rfl) (fun c26 => ?_) (fun c26 => ?_)
    ·
      refine ws fun K11 hK11 => ?_
      refine wl_mvs (A := [_]) hF rfl ?_; clear hF a; intro a hF
      refine wl_nil (hK11 _ _ ?_)
      refine wp_ret ?_
      try simp only [Exit.then, Exit.inBlock, ↓reduceIte]
      refine ret1 rfl hF rfl ⟨?_, hS.old⟩
      first | exact eq_len c10 | exact eq_at hx hy c26 | exact eq_all htk hk hlen (by omega)
    refine wp_skip ?_
    simp only [Exit.then, Exit.inBlock, ↓reduceIte]
    refine hK9 _ _ ?_
    refine wp_region_lit ?_
    refine wl_mvs (A := [_]) hF rfl ?_; clear hF a; intro a hF
    refine wl hF rfl rfl rfl (r_add (hF.ev rfl) ec) ?_; clear hF a; intro a hF
    refine wl_mvs (A := [_]) hF rfl ?_; clear hF a; intro a hF
    refine wl_nil ?_
    try simp only [Exit.then, Exit.inBlock, ↓reduceIte]
    exact ⟨k + 1, ⟨by omega, hlen, take_next htk hx hy c26, hS, (((hF.nil.keep hF (t := 1) rfl).keep hF (t := 0) rfl).keepE hF (t := 5) rfl (wk (by omega)))⟩, by omega⟩
  refine wp_exit ?_
  simp only [Exit.then, Exit.inBlock, ↓reduceIte]
  refine hK5 _ _ ?_
  refine ws fun K12 hK12 => ?_
  refine wl_mvs (A := [_]) hF rfl ?_; clear hF a; intro a hF
  refine wl_nil (hK12 _ _ ?_)
  refine wp_ret ?_
  try simp only [Exit.then, Exit.inBlock, ↓reduceIte]
  refine ret1 rfl hF rfl ⟨?_, hS.old⟩
  first | exact eq_len c10 | exact eq_at hx hy c26 | exact eq_all htk hk hlen (by omega)

def _root_.Go.Proofs.Yteldnoimmjihoaa.Sl.Model.size (m : Model) : Nat := m.values.length + (m.snapshots.length + crow List.length m.snapshots)
def _root_.Go.Proofs.Yteldnoimmjihoaa.Sl.Model.cnt (m : Model) : Nat := m.values.length + crow List.length m.snapshots
def _root_.Go.Proofs.Yteldnoimmjihoaa.Sl.Model.mark (k0 : Int) (m : Model) : Model := ⟨marks k0 m.values.length, mrow (fun k x => marks k x.length) List.length (k0 + m.values.length) m.snapshots⟩

set_option maxHeartbeats 4000000 in
set_option maxRecDepth 20000 in
theorem szModel_c {W : World} {m : Model} {cs : List Value} {left : Int} (hm : modelEK.K W m cs) (h0 : 0 ≤ left) (h1 : left ≤ 1048576) : Calls Try.prog 8 #[.agg cs.toArray, vi left] W (Ret fun v w' => (∃ r : Int, v = vi r ∧ -1 ≤ r ∧ r ≤ left ∧ (0 ≤ r → (m.size : Int) ≤ left - r)) ∧ Below W.heap.size W w') := by
  refine calls_fr Try.func8 rfl Try.ntmps8 rfl ?_
  intro a hF
  obtain ⟨v0, v1, rfl, r0, r1⟩ := hm
  have hS := Sep.refl W
  refine ws fun K1 hK1 => ?_
  refine wl_box (cs := [_, _]) hF hS rfl (hF.ev rfl) rfl ?_; clear hF a; intro g1 w1 a hS_ hB_ hF; replace hS := hS_; clear hS_ hB_
  refine wl_mvs (A := [_]) hF rfl ?_; clear hF a; intro a hF
  refine wl_nil (hK1 _ _ ?_)
  refine ws fun K2 hK2 => ?_
  refine wl hF rfl rfl rfl (r_field fo27_0 (hF.ev rfl)) ?_; clear hF a; intro a hF
  refine wl hF rfl rfl rfl (r_load1 sc24 (hF.ev rfl) (hS.box (i := 0) rfl rfl)) ?_; clear hF a; intro a hF
  refine wl_mvs (A := [_]) hF rfl ?_; clear hF a; intro a hF
  refine wl_call hF rfl rfl rfl (r_call2 en41 (hF.ev rfl) (hF.ev rfl)) (szIntS_c (hS.rd r0) (by omega) (by omega)) ?_; clear hF a; rintro v w2 a ⟨⟨r8, rfl, e1_8, e2_8, e3_8⟩, hB_⟩ hF; replace hS := hS.ext hB_; clear hB_
  refine wl_mvs (A := [_]) hF rfl ?_; clear hF a; intro a hF
  refine wl_nil (hK2 _ _ ?_)
  refine wp_seq_k fun K3 hK3 => ?_
  refine ws fun K4 hK4 => ?_
  refine wl_mvs (A := [_]) hF rfl ?_; clear hF a; intro a hF
  refine wl hF rfl rfl rfl (r_lss (hF.ev rfl) ec) ?_; clear hF a; intro a hF
  refine wl_nil (hK4 _ _ ?_)
  first | refine wc_dec (hF.ev rfl) (fun c10 => ?_) (fun c10 => ?_) | refine wc_ndec (hF.ev rfl) (fun c10 => ?_) (fun c10 => ?_) | refine wc_b (hF.ev rfl) (fun c10 => ?_) (fun c10 => ?_)
  ·
    refine ws fun K5 hK5 => ?_
    refine wl_mvs (A := [_]) hF rfl ?_; clear hF a; intro a hF
    refine wl_nil (hK5 _ _ ?_)
    refine wp_ret ?_
    try simp only [Exit.then, Exit.inBlock, ↓reduceIte]
    first | exact ret1 rfl hF rfl ⟨⟨-1, rfl, by omega, by omega, by omega⟩, hS.old⟩ | exact ret1 rfl hF rfl ⟨⟨_, rfl, by omega, by omega, fun h => by unfold Model.size; have q1 := e3_8 (by omega); have q2 := e3_14 h; omega⟩, hS.old⟩
  refine wp_skip ?_
  refine hK3 _ _ ?_
  refine ws fun K6 hK6 => ?_
  refine wl hF rfl rfl rfl (r_field fo27_1 (hF.ev rfl)) ?_; clear hF a; intro a hF
  refine wl hF rfl rfl rfl (r_load1 sc25 (hF.ev rfl) (hS.box (i := 0) rfl rfl)) ?_; clear hF a; intro a hF
  refine wl_mvs (A := [_]) hF rfl ?_; clear hF a; intro a hF
  refine wl_call hF rfl rfl rfl (r_call2 en42 (hF.ev rfl) (hF.ev rfl)) (szIntSS_c (hS.rd r1) (by omega) (by omega)) ?_; clear hF a; rintro v w3 a ⟨⟨r14, rfl, e1_14, e2_14, e3_14⟩, hB_⟩ hF; replace hS := hS.ext hB_; clear hB_
  refine wl_mvs (A := [_]) hF rfl ?_; clear hF a; intro a hF
  refine wl_nil (hK6 _ _ ?_)
  refine wp_seq_k fun K7 hK7 => ?_
  refine ws fun K8 hK8 => ?_
  refine wl_mvs (A := [_]) hF rfl ?_; clear hF a; intro a hF
  refine wl hF rfl rfl rfl (r_lss (hF.ev rfl) ec) ?_; clear hF a; intro a hF
  refine wl_nil (hK8 _ _ ?_)
  first | refine wc_dec (hF.ev rfl) (fun c16 => ?_) (fun c16 => ?_) | refine wc_ndec (hF.ev rfl) (fun c16 => ?_) (fun c16 => ?_) | refine wc_b (hF.ev rfl) (fun c16 => ?_) (fun c16 => ?_)
  ·
    refine ws fun K9 hK9 => ?_
    refine wl_mvs (A := [_]) hF rfl ?_; clear hF a; intro a hF
    refine wl_nil (hK9 _ _ ?_)
    refine wp_ret ?_
    try simp only [Exit.then, Exit.inBlock, ↓reduceIte]
    first | exact ret1 rfl hF rfl ⟨⟨-1, rfl, by omega, by omega, by omega⟩, hS.old⟩ | exact ret1 rfl hF rfl ⟨⟨_, rfl, by omega, by omega, fun h => by unfold Model.size; have q1 := e3_8 (by omega); have q2 := e3_14 h; omega⟩, hS.old⟩
  refine wp_skip ?_
  refine hK7 _ _ ?_
  refine ws fun K10 hK10 => ?_
  refine wl_mvs (A := [_, _]) hF rfl ?_; clear hF a; intro a hF
  refine wl_nil (hK10 _ _ ?_)
  refine wp_ret ?_
  try simp only [Exit.then, Exit.inBlock, ↓reduceIte]
  first | exact ret1 rfl hF rfl ⟨⟨-1, rfl, by omega, by omega, by omega⟩, hS.old⟩ | exact ret1 rfl hF rfl ⟨⟨_, rfl, by omega, by omega, fun h => by unfold Model.size; have q1 := e3_8 (by omega); have q2 := e3_14 h; omega⟩, hS.old⟩

set_option maxHeartbeats 4000000 in
set_option maxRecDepth 20000 in
theorem toModel_c {W : World} {m : Model} {cs : List Value} (hm : modelEK.K W m cs) (hz : m.size ≤ 1048576) : Calls Try.prog 11 #[.agg cs.toArray] W (Ret (Mk W (fun vs => .agg (modelEK.cells m vs).toArray) (fun vs => [Part modelEK m vs]))) := by
  refine calls_fr Try.func11 rfl Try.ntmps11 rfl ?_
  intro a hF
  obtain ⟨v0, v1, rfl, r0, r1⟩ := hm
  unfold Model.size at hz
  have hS := Sep.refl W
  have hz1 : ∀ x ∈ m.snapshots, x.length ≤ 1099511627776 := fun x hx => by
    obtain ⟨i, hi⟩ := List.mem_iff_getElem?.1 hx
    have := crow_le1 (c := List.length) hi
    omega
  refine ws fun K1 hK1 => ?_
  refine wl_box (cs := [_, _]) hF hS rfl (hF.ev rfl) rfl ?_; clear hF a; intro g1 w1 a hS_ hB_ hF; replace hS := hS_; clear hS_ hB_
  refine wl_alloc hF hS rfl zr35 ?_; clear hF a; intro g2 w2 a hS_ hB_ hF; replace hS := hS_; clear hS_ hB_
  refine wl_nil (hK1 _ _ ?_)
  refine ws fun K2 hK2 => ?_
  refine wl_alloc hF hS rfl zr35 ?_; clear hF a; intro g3 w3 a hS_ hB_ hF; replace hS := hS_; clear hS_ hB_
  refine wl_nil (hK2 _ _ ?_)
  refine ws fun K3 hK3 => ?_
  refine wl hF rfl rfl rfl (r_field fo27_0 (hF.ev rfl)) ?_; clear hF a; intro a hF
  refine wl hF rfl rfl rfl (r_load1 sc24 (hF.ev rfl) (hS.box (i := 2) rfl rfl)) ?_; clear hF a; intro a hF
  refine wl_mk hF hS rfl rfl rfl (r_call1 en29 (hF.ev rfl)) (toIntS_c (hS.rd r0) (by omega)) ?_; clear hF a; rintro s6 w4 a hS_ hF; replace hS := hS_; clear hS_; dsimp only [List.cons_append, List.nil_append] at hS
  refine wl hF rfl rfl rfl (r_field fo35_0 (hF.ev rfl)) ?_; clear hF a; intro a hF
  refine wl_store hF hS (i := 1) rfl sz24 (hF.ev rfl) (hF.ev rfl) rfl rfl ?_; intro w5 hS_; replace hS := hS_; clear hS_; dsimp only [List.set, Nat.reduceAdd] at hS
  refine wl_nil (hK3 _ _ ?_)
  refine ws fun K4 hK4 => ?_
  refine wl hF rfl rfl rfl (r_field fo27_1 (hF.ev rfl)) ?_; clear hF a; intro a hF
  refine wl hF rfl rfl rfl (r_load1 sc25 (hF.ev rfl) (hS.box (i := 3) rfl rfl)) ?_; clear hF a; intro a hF
  refine wl_mk hF hS rfl rfl rfl (r_call1 en45 (hF.ev rfl)) (toIntSS_c (hS.rd r1) (by omega) hz1) ?_; clear hF a; rintro s10 w6 a hS_ hF; replace hS := hS_; clear hS_; dsimp only [List.cons_append, List.nil_append] at hS
  refine wl hF rfl rfl rfl (r_field fo35_1 (hF.ev rfl)) ?_; clear hF a; intro a hF
  refine wl_store hF hS (i := 2) rfl sz25 (hF.ev rfl) (hF.ev rfl) rfl rfl ?_; intro w7 hS_; replace hS := hS_; clear hS_; dsimp only [List.set, Nat.reduceAdd] at hS
  refine wl_nil (hK4 _ _ ?_)
  refine ws fun K5 hK5 => ?_
  refine wl hF rfl rfl rfl (r_loadn ag35 (hF.ev rfl) (hS.box_rd (i := 2) rfl) sz35) ?_; clear hF a; intro a hF
  refine wl_storew hF hS (i := 3) rfl (hF.ev rfl) (hF.ev rfl) sz35 rfl rfl ?_; intro w8 hS_; replace hS := hS_; clear hS_; dsimp only [List.set, Nat.reduceAdd] at hS
  refine wl_nil (hK5 _ _ ?_)
  refine wp_ret ?_
  try simp only [Exit.then, Exit.inBlock, ↓reduceIte]
  exact ret1c rfl ag35 hF hS (i := 3) rfl sz35 rfl ⟨[s6, s10], rfl, hS.part_of [1, 0] (by decide) rfl⟩

set_option maxHeartbeats 4000000 in
set_option maxRecDepth 20000 in
theorem eqModel_c {W : World} {x y : Model} {cs ds : List Value} (hx : modelEK.K W x cs) (hy : modelEK.K W y ds) : Calls Try.prog 14 #[.agg cs.toArray, .agg ds.toArray] W (Ret fun v w' => v = .bool (decide (x = y)) ∧ Below W.heap.size W w') := by
  refine calls_fr Try.func14 rfl Try.ntmps14 rfl ?_
  intro a hF
  obtain ⟨v0, v1, rfl, r0, r1⟩ := hx
  obtain ⟨u0, u1, rfl, q0, q1⟩ := hy
  have hS := Sep.refl W
  refine ws fun K1 hK1 => ?_
  refine wl_box (cs := [_, _]) hF hS rfl (hF.ev rfl) rfl ?_; clear hF a; intro g1 w1 a hS_ hB_ hF; replace hS := hS_; clear hS_ hB_
  refine wl_box (cs := [_, _]) hF hS rfl (hF.ev rfl) rfl ?_; clear hF a; intro g2 w2 a hS_ hB_ hF; replace hS := hS_; clear hS_ hB_
  refine wl_mvs (A := [_]) hF rfl ?_; clear hF a; intro a hF
  refine wl_nil (hK1 _ _ ?_)
  refine wp_seq_k fun K2 hK2 => ?_
  refine ws fun K3 hK3 => ?_
  refine wl hF rfl rfl rfl (r_field fo35_0 (hF.ev rfl)) ?_; clear hF a; intro a hF
  refine wl hF rfl rfl rfl (r_load1 sc24 (hF.ev rfl) (hS.box (i := 1) rfl rfl)) ?_; clear hF a; intro a hF
  refine wl hF rfl rfl rfl (r_field fo35_0 (hF.ev rfl)) ?_; clear hF a; intro a hF
  refine wl hF rfl rfl rfl (r_load1 sc24 (hF.ev rfl) (hS.box (i := 0) rfl rfl)) ?_; clear hF a; intro a hF
  refine wl_call hF rfl rfl rfl (r_call2 en24 (hF.ev rfl) (hF.ev rfl)) (eqIntS_c (hS.rd r0) (hS.rd q0)) ?_; clear hF a; rintro v w3 a ⟨rfl, hB_⟩ hF; replace hS := hS.ext hB_; clear hB_
  refine wl hF rfl rfl rfl (r_not (hF.ev rfl)) ?_; clear hF a; intro a hF
  refine wl_nil (hK3 _ _ ?_)
  first | refine wc_dec (hF.ev rfl) (fun c10 => ?_) (fun c10 => ?_) | refine wc_ndec (hF.ev rfl) (fun c10 => ?_) (fun c10 => ?_) | refine wc_b (hF.ev rfl) (fun c10 => ?_) (fun c10 => ?_)
  ·
    refine ws fun K4 hK4 => ?_
    refine wl_mvs (A := [_]) hF rfl ?_; clear hF a; intro a hF
    refine wl_nil (hK4 _ _ ?_)
    refine wp_ret ?_
    try simp only [Exit.then, Exit.inBlock, ↓reduceIte]
    refine ret1 rfl hF rfl ⟨congrArg Value.bool (Eq.symm ?_), hS.old⟩
    first | exact decide_eq_false (fun e => by subst e; first | exact c10 rfl | exact c16 rfl) | exact decide_eq_true (by cases x; cases y; simp only [Model.mk.injEq]; exact ⟨c10, c16⟩)
  refine wp_skip ?_
  refine hK2 _ _ ?_
  refine wp_seq_k fun K5 hK5 => ?_
  refine ws fun K6 hK6 => ?_
  refine wl hF rfl rfl rfl (r_field fo35_1 (hF.ev rfl)) ?_; clear hF a; intro a hF
  refine wl hF rfl rfl rfl (r_load1 sc25 (hF.ev rfl) (hS.box (i := 1) rfl rfl)) ?_; clear hF a; intro a hF
  refine wl hF rfl rfl rfl (r_field fo35_1 (hF.ev rfl)) ?_; clear hF a; intro a hF
  refine wl hF rfl rfl rfl (r_load1 sc25 (hF.ev rfl) (hS.box (i := 0) rfl rfl)) ?_; clear hF a; intro a hF
  refine wl_call hF rfl rfl rfl (r_call2 en51 (hF.ev rfl) (hF.ev rfl)) (eqIntSS_c (hS.rd r1) (hS.rd q1)) ?_; clear hF a; rintro v w4 a ⟨rfl, hB_⟩ hF; replace hS := hS.ext hB_; clear hB_
  refine wl hF rfl rfl rfl (r_not (hF.ev rfl)) ?_; clear hF a; intro a hF
  refine wl_nil (hK6 _ _ ?_)
  first | refine wc_dec (hF.ev rfl) (fun c16 => ?_) (fun c16 => ?_) | refine wc_ndec (hF.ev rfl) (fun c16 => ?_) (fun c16 => ?_) | refine wc_b (hF.ev rfl) (fun c16 => ?_) (fun c16 => ?_)
  ·
    refine ws fun K7 hK7 => ?_
    refine wl_mvs (A := [_]) hF rfl ?_; clear hF a; intro a hF
    refine wl_nil (hK7 _ _ ?_)
    refine wp_ret ?_
    try simp only [Exit.then, Exit.inBlock, ↓reduceIte]
    refine ret1 rfl hF rfl ⟨congrArg Value.bool (Eq.symm ?_), hS.old⟩
    first | exact decide_eq_false (fun e => by subst e; first | exact c10 rfl | exact c16 rfl) | exact decide_eq_true (by cases x; cases y; simp only [Model.mk.injEq]; exact ⟨c10, c16⟩)
  refine wp_skip ?_
  refine hK5 _ _ ?_
  refine ws fun K8 hK8 => ?_
  refine wl_mvs (A := [_]) hF rfl ?_; clear hF a; intro a hF
  refine wl_nil (hK8 _ _ ?_)
  refine wp_ret ?_
  try simp only [Exit.then, Exit.inBlock, ↓reduceIte]
  refine ret1 rfl hF rfl ⟨congrArg Value.bool (Eq.symm ?_), hS.old⟩
  first | exact decide_eq_false (fun e => by subst e; first | exact c10 rfl | exact c16 rfl) | exact decide_eq_true (by cases x; cases y; simp only [Model.mk.injEq]; exact ⟨c10, c16⟩)

set_option maxHeartbeats 4000000 in
set_option maxRecDepth 20000 in
theorem markModel_c {W w : World} {l : List Res} {m : Model} {vs : List Slv} {k0 : Int} (hS : Sep W (Part modelEK m vs :: l) w) (h0 : 0 ≤ k0) (h1 : k0 + m.cnt < 9223372036854775807) : Calls Try.prog 15 #[.agg (modelEK.cells m vs).toArray, vi k0] w (Ret fun v w' => v = vi (k0 + m.cnt) ∧ Sep W (Part modelEK (m.mark k0) vs :: l) w') := by
  refine calls_fr Try.func15 rfl Try.ntmps15 rfl ?_
  intro a hF
  unfold Model.cnt at *
  replace hS : Sep W (Own intEK (sv (vs.getD 0 (none, 0, 0))) m.values :: Own (sliceEK intEK) (sv (vs.getD 1 (none, 0, 0))) m.snapshots :: l) w := hS.part_open
  refine ws fun K1 hK1 => ?_
  refine wl_box (cs := [_, _]) hF hS rfl (hF.ev rfl) rfl ?_; clear hF a; intro g1 w1 a hS_ hB_ hF; replace hS := hS_; clear hS_ hB_
  refine wl_mvs (A := [_]) hF rfl ?_; clear hF a; intro a hF
  refine wl_nil (hK1 _ _ ?_)
  refine ws fun K2 hK2 => ?_
  refine wl hF rfl rfl rfl (r_field fo35_0 (hF.ev rfl)) ?_; clear hF a; intro a hF
  refine wl hF rfl rfl rfl (r_load1 sc24 (hF.ev rfl) (hS.box (i := 0) rfl rfl)) ?_; clear hF a; intro a hF
  refine wl_mvs (A := [_]) hF rfl ?_; clear hF a; intro a hF
  refine wl_call hF rfl rfl rfl (r_call2 en26 (hF.ev rfl) (hF.ev rfl)) (markIntS_c hS (q := 1) rfl (by omega) (by omega)) ?_; clear hF a; rintro v w2 a ⟨rfl, hS_⟩ hF; replace hS := hS_; clear hS_; dsimp only [List.set] at hS
  refine wl_mvs (A := [_]) hF rfl ?_; clear hF a; intro a hF
  refine wl_nil (hK2 _ _ ?_)
  refine ws fun K3 hK3 => ?_
  refine wl hF rfl rfl rfl (r_field fo35_1 (hF.ev rfl)) ?_; clear hF a; intro a hF
  refine wl hF rfl rfl rfl (r_load1 sc25 (hF.ev rfl) (hS.box (i := 0) rfl rfl)) ?_; clear hF a; intro a hF
  refine wl_mvs (A := [_]) hF rfl ?_; clear hF a; intro a hF
  refine wl_call hF rfl rfl rfl (r_call2 en52 (hF.ev rfl) (hF.ev rfl)) (markIntSS_c hS (q := 2) rfl (by omega) (by omega)) ?_; clear hF a; rintro v w3 a ⟨rfl, hS_⟩ hF; replace hS := hS_; clear hS_; dsimp only [List.set] at hS
  refine wl_mvs (A := [_]) hF rfl ?_; clear hF a; intro a hF
  refine wl_nil (hK3 _ _ ?_)
  refine ws fun K4 hK4 => ?_
  refine wl_mvs (A := [_, _]) hF rfl ?_; clear hF a; intro a hF
  refine wl_nil (hK4 _ _ ?_)
  refine wp_ret ?_
  try simp only [Exit.then, Exit.inBlock, ↓reduceIte]
  refine ret1 rfl hF rfl ⟨by congr 1; omega, hS.tail.part_mk rfl⟩

set_option maxHeartbeats 4000000 in
set_option maxRecDepth 20000 in
theorem heldModel_c {W : World} {m : Model} {cs : List Value} {k0 : Int} (hm : modelEK.K W (m.mark k0) cs) (h0 : 0 ≤ k0) (h1 : k0 + m.cnt < 9223372036854775807) : Calls Try.prog 16 #[.agg cs.toArray, vi k0] W (Ret fun v w' => v = vi (k0 + m.cnt) ∧ Below W.heap.size W w') := by
  refine calls_fr Try.func16 rfl Try.ntmps16 rfl ?_
  intro a hF
  obtain ⟨v0, v1, rfl, r0, r1⟩ := hm
  unfold Model.cnt at *
  have hS := Sep.refl W
  refine ws fun K1 hK1 => ?_
  refine wl_box (cs := [_, _]) hF hS rfl (hF.ev rfl) rfl ?_; clear hF a; intro g1 w1 a hS_ hB_ hF; replace hS := hS_; clear hS_ hB_
  refine wl_mvs (A := [_]) hF rfl ?_; clear hF a; intro a hF
  refine wl_nil (hK1 _ _ ?_)
  refine ws fun K2 hK2 => ?_
  refine wl hF rfl rfl rfl (r_field fo35_0 (hF.ev rfl)) ?_; clear hF a; intro a hF
  refine wl hF rfl rfl rfl (r_load1 sc24 (hF.ev rfl) (hS.box (i := 0) rfl rfl)) ?_; clear hF a; intro a hF
  refine wl_mvs (A := [_]) hF rfl ?_; clear hF a; intro a hF
  refine wl_call hF rfl rfl rfl (r_call2 en27 (hF.ev rfl) (hF.ev rfl)) (heldIntS_c (n := m.values.length) (k0 := k0) (hS.rd r0) (by omega) (by omega)) ?_; clear hF a; rintro v w2 a ⟨rfl, hB_⟩ hF; replace hS := hS.ext hB_; clear hB_
  refine wl_mvs (A := [_]) hF rfl ?_; clear hF a; intro a hF
  refine wl_nil (hK2 _ _ ?_)
  refine wp_seq_k fun K3 hK3 => ?_
  refine ws fun K4 hK4 => ?_
  refine wl_mvs (A := [_]) hF rfl ?_; clear hF a; intro a hF
  refine wl hF rfl rfl rfl (r_lss (hF.ev rfl) ec) ?_; clear hF a; intro a hF
  refine wl_nil (hK4 _ _ ?_)
  first | refine wc_dec (hF.ev rfl) (fun c10 => ?_) (fun c10 => ?_) | refine wc_ndec (hF.ev rfl) (fun c10 => ?_) (fun c10 => ?_) | refine wc_b (hF.ev rfl) (fun c10 => ?_) (fun c10 => ?_)
  · exfalso; first | omega | exact (c10 rfl).elim | (simp_all; done)
  refine wp_skip ?_
  refine hK3 _ _ ?_
  refine ws fun K5 hK5 => ?_
  refine wl hF rfl rfl rfl (r_field fo35_1 (hF.ev rfl)) ?_; clear hF a; intro a hF
  refine wl hF rfl rfl rfl (r_load1 sc25 (hF.ev rfl) (hS.box (i := 0) rfl rfl)) ?_; clear hF a; intro a hF
  refine wl_mvs (A := [_]) hF rfl ?_; clear hF a; intro a hF
  refine wl_call hF rfl rfl rfl (r_call2 en53 (hF.ev rfl) (hF.ev rfl)) (heldIntSS_c (xs := m.snapshots) (hS.rd r1) (by omega) (by omega)) ?_; clear hF a; rintro v w3 a ⟨rfl, hB_⟩ hF; replace hS := hS.ext hB_; clear hB_
  refine wl_mvs (A := [_]) hF rfl ?_; clear hF a; intro a hF
  refine wl_nil (hK5 _ _ ?_)
  refine wp_seq_k fun K6 hK6 => ?_
  refine ws fun K7 hK7 => ?_
  refine wl_mvs (A := [_]) hF rfl ?_; clear hF a; intro a hF
  refine wl hF rfl rfl rfl (r_lss (hF.ev rfl) ec) ?_; clear hF a; intro a hF
  refine wl_nil (hK7 _ _ ?_)
  first | refine wc_dec (hF.ev rfl) (fun c16 => ?_) (fun c16 => ?_) | refine wc_ndec (hF.ev rfl) (fun c16 => ?_) (fun c16 => ?_) | refine wc_b (hF.ev rfl) (fun c16 => ?_) (fun c16 => ?_)
  · exfalso; first | omega | exact (c16 rfl).elim | (simp_all; done)
  refine wp_skip ?_
  refine hK6 _ _ ?_
  refine ws fun K8 hK8 => ?_
  refine wl_mvs (A := [_, _]) hF rfl ?_; clear hF a; intro a hF
  refine wl_nil (hK8 _ _ ?_)
  refine wp_ret ?_
  try simp only [Exit.then, Exit.inBlock, ↓reduceIte]
  exact ret1 rfl hF rfl ⟨by congr 1; omega, hS.old⟩

end Go.Proofs.Yteldnoimmjihoaa.Wk
