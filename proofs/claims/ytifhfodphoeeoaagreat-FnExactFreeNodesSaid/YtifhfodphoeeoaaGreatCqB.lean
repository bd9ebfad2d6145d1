/- Lemmas for the row of RwFr. -/
import Derived.Test.YtifhfodphoeeoaaGreatCqA
namespace Go.Proofs.YtifhfodphoeeoaaGreat.Wk
open Go Go.RowKit Sl
set_option linter.unusedVariables false
set_option linter.unusedSimpArgs false
set_option maxRecDepth 20000
/-- handles, as the reference reads them -/
def isHandle (h : Int) : Bool := decide (1 < h) && decide (0 < h / 2 % 64) && decide (h / 2 / 64 ≤ 9999)
def indexOf (h : Int) : Int := if isHandle h = true then h / 2 % 64 - 1 else -1
def genOf (h : Int) : Int := if isHandle h = true then h / 2 / 64 else -1
def isMarked (h : Int) : Bool := decide (h = 1) || (isHandle h && decide (h % 2 = 1))
def unmarked (h : Int) : Int := if isMarked h = true then h - 1 else h
def isNode (c : Config) (h : Int) : Bool := isHandle h && decide (indexOf h < c.capacity)
def isLink (c : Config) (h : Int) : Bool := decide (h = 0) || (isNode c h && !isMarked h)
def zeroOk (c : Config) (h : Int) : Bool := decide (unmarked h = 0) || isNode c (unmarked h)
section
variable {h : Int}
theorem isHandle_iff : isHandle h = true ↔ 1 < h ∧ 0 < h / 2 % 64 ∧ h / 2 / 64 ≤ 9999 := by
  simp only [isHandle, Bool.and_eq_true, decide_eq_true_eq, and_assoc]
theorem half_pos (h0 : 0 ≤ h) (h1 : int64 h) : IntKind.i64.wrap (h.tdiv 2) = h / 2 := by
  unfold int64 at h1
  rw [Int.tdiv_eq_ediv_of_nonneg h0, w64_id (by omega) (by omega)]
theorem q64_pos (h0 : 0 ≤ h) (h1 : int64 h) : IntKind.i64.wrap (h.tdiv 64) = h / 64 := by
  unfold int64 at h1
  rw [Int.tdiv_eq_ediv_of_nonneg h0, w64_id (by omega) (by omega)]
theorem rem_pos (m : Int) (h0 : 0 ≤ h) : h.tmod m = h % m := Int.tmod_eq_emod_of_nonneg h0
theorem int64_half (h1 : int64 h) (h0 : 0 ≤ h) : int64 (h / 2) := by unfold int64 at *; omega
theorem isMarked_unmarked : isMarked (unmarked h) = false := by
  unfold unmarked
  split
  · rename_i hm
    unfold isMarked at hm ⊢
    simp only [Bool.or_eq_true, Bool.and_eq_true, decide_eq_true_eq, isHandle_iff, Bool.or_eq_false_iff, decide_eq_false_iff_not, Bool.and_eq_false_iff] at hm ⊢
    omega
  · rename_i hm; simpa using hm
theorem isLink_unmarked {c : Config} : isLink c (unmarked h) = zeroOk c h := by simp [isLink, zeroOk, isMarked_unmarked]
theorem isLink_zero {c : Config} : isLink c h = (zeroOk c h && !isMarked h) := by
  unfold zeroOk unmarked isLink
  split
  · rename_i hm
    have : ¬ h = 0 := by
      intro e; subst e; revert hm; decide
    simp [hm, this]
  · rename_i hm
    have hm' : isMarked h = false := by simpa using hm
    simp [hm']
theorem unmark_wrap (hm : isMarked h = true) (h1 : int64 h) : IntKind.i64.wrap (h - 1) = h - 1 := by
  unfold isMarked at hm
  simp only [Bool.or_eq_true, Bool.and_eq_true, decide_eq_true_eq, isHandle_iff] at hm
  unfold int64 at h1
  exact w64_id (by omega) (by omega)
theorem int64_unmarked (h1 : int64 h) : int64 (unmarked h) := by
  unfold unmarked
  split
  · rename_i hm
    unfold isMarked at hm
    simp only [Bool.or_eq_true, Bool.and_eq_true, decide_eq_true_eq, isHandle_iff] at hm
    unfold int64 at *; omega
  · exact h1
end
set_option maxHeartbeats 4000000 in
set_option maxRecDepth 20000 in
theorem specIsHandle_c {W : World} {h : Int} (h1 : int64 h) : Calls Tryz.prog 143 #[vi h] W (Ret fun v w' => v = .bool (isHandle h) ∧ Below W.heap.size W w') := by
  refine calls_fr Tryz.func143 rfl Tryz.ntmps143 rfl ?_
  intro a hF
  have hS := Sep.refl W
  refine ws fun K1 hK1 => ?_
  refine wl_mvs (A := [_]) hF rfl ?_; clear hF a; intro a hF
  refine wl_nil (hK1 _ _ ?_)
  refine ws fun K2 hK2 => ?_
  refine wl_mvs (A := [_]) hF rfl ?_; clear hF a; intro a hF
  refine wl hF rfl rfl rfl (r_quo (by first | decide | omega) (hF.ev rfl) ec) ?_; clear hF a; intro a hF
  refine wl_mvs (A := [_]) hF rfl ?_; clear hF a; intro a hF
  refine wl_nil (hK2 _ _ ?_)
  refine ws fun K3 hK3 => ?_
  refine wl_mvs (A := [_]) hF rfl ?_; clear hF a; intro a hF
  refine wl hF rfl rfl rfl (r_gtr (hF.ev rfl) ec) ?_; clear hF a; intro a hF
  refine wl_mvs (A := [_]) hF rfl ?_; clear hF a; intro a hF
  apply wl_and (A := [_, _, _, _]) (pk := 12) hF hS (tc := 8) rfl
  ·
    intro hg8 a hF; try simp only [zb1, zb2, zb3, zb4, zb5, zb6, zb7, zb8] at hg8
    refine wl_mvs (A := [_]) hF rfl ?_; clear hF a; intro a hF
    refine wl_take hF rfl rfl rfl rfl ?_
    refine wl hF rfl rfl rfl (r_rem (by first | decide | omega) (hF.ev rfl) ec) ?_; clear hF a; intro a hF
    refine wl_take hF rfl rfl rfl rfl ?_
    refine wl hF rfl rfl rfl (r_gtr (hF.ev rfl) ec) ?_; clear hF a; intro a hF
    refine wl hF rfl rfl rfl (r_pick_t (hF.ev rfl) (hF.ev rfl)) ?_; clear hF a; intro a hF
    exact wl_nil ⟨rfl, (Fr.pre (A := [_, _, _, _]) hF rfl).keep hF (t := 12) rfl, hS⟩
  ·
    intro hg8 a hF; try simp only [zb1, zb2, zb3, zb4, zb5, zb6, zb7, zb8] at hg8
    refine wl_mvs (A := [_, _, _]) hF rfl ?_; clear hF a; intro a hF
    refine wl hF rfl rfl rfl (r_pick_f (hF.ev rfl) ec) ?_; clear hF a; intro a hF
    exact wl_nil ⟨rfl, (Fr.pre (A := [_, _, _, _]) hF rfl).keep hF (t := 12) rfl, hS⟩
  clear hF a hS; intro a w1 hF hS
  refine wl_mvs (A := [_]) hF rfl ?_; clear hF a; intro a hF
  apply wl_and (A := [_, _, _, _]) (pk := 17) hF hS (tc := 13) rfl
  ·
    intro hg13 a hF; try simp only [zb1, zb2, zb3, zb4, zb5, zb6, zb7, zb8] at hg13
    refine wl_mvs (A := [_]) hF rfl ?_; clear hF a; intro a hF
    refine wl_take hF rfl rfl rfl rfl ?_
    refine wl hF rfl rfl rfl (r_quo (by first | decide | omega) (hF.ev rfl) ec) ?_; clear hF a; intro a hF
    refine wl_take hF rfl rfl rfl rfl ?_
    refine wl hF rfl rfl rfl (r_leq (hF.ev rfl) ec) ?_; clear hF a; intro a hF
    refine wl hF rfl rfl rfl (r_pick_t (hF.ev rfl) (hF.ev rfl)) ?_; clear hF a; intro a hF
    exact wl_nil ⟨rfl, (Fr.pre (A := [_, _, _, _]) hF rfl).keep hF (t := 17) rfl, hS⟩
  ·
    intro hg13 a hF; try simp only [zb1, zb2, zb3, zb4, zb5, zb6, zb7, zb8] at hg13
    refine wl_mvs (A := [_, _, _]) hF rfl ?_; clear hF a; intro a hF
    refine wl hF rfl rfl rfl (r_pick_f (hF.ev rfl) ec) ?_; clear hF a; intro a hF
    exact wl_nil ⟨rfl, (Fr.pre (A := [_, _, _, _]) hF rfl).keep hF (t := 17) rfl, hS⟩
  clear hF a hS; intro a w2 hF hS
  refine wl_mvs (A := [_]) hF rfl ?_; clear hF a; intro a hF
  refine wl_nil (hK3 _ _ ?_)
  refine wp_ret ?_
  try simp only [Exit.then, Exit.inBlock, ↓reduceIte]
  refine ret1 rfl hF rfl ⟨congrArg Value.bool ?_, hS.old⟩
  by_cases h0 : 0 ≤ h
  · rw [half_pos h0 h1, rem_pos _ (by omega), q64_pos (by omega) (int64_half h1 h0)]; rfl
  · unfold isHandle; rw [decide_eq_false (show ¬ 1 < h by omega)]; rfl
set_option maxHeartbeats 4000000 in
set_option maxRecDepth 20000 in
theorem specIndexOf_c {W : World} {h : Int} (h1 : int64 h) : Calls Tryz.prog 104 #[vi h] W (Ret fun v w' => v = vi (indexOf h) ∧ Below W.heap.size W w') := by
  refine calls_fr Tryz.func104 rfl Tryz.ntmps104 rfl ?_
  intro a hF
  have hS := Sep.refl W
  refine ws fun K1 hK1 => ?_
  refine wl_mvs (A := [_]) hF rfl ?_; clear hF a; intro a hF
  refine wl_nil (hK1 _ _ ?_)
  refine wp_seq_k fun K2 hK2 => ?_
  refine ws fun K3 hK3 => ?_
  refine wl_mvs (A := [_]) hF rfl ?_; clear hF a; intro a hF
  refine wl_call hF rfl rfl rfl (r_call1 en143 (hF.ev rfl)) (specIsHandle_c h1) ?_; clear hF a; rintro v w1 a ⟨rfl, hB_⟩ hF; replace hS := hS.ext hB_; clear hB_
  refine wl hF rfl rfl rfl (r_not (hF.ev rfl)) ?_; clear hF a; intro a hF
  refine wl_nil (hK3 _ _ ?_)
  refine wc_fx (t := 5) hF rfl ?_ ?_ <;> clear hF <;> intro c5 hF <;> try simp only [zb1, zb2, zb3, zb4, zb5, zb6, zb7, zb8] at c5
  ·
    refine ws fun K4 hK4 => ?_
    refine wl_mvs (A := [_]) hF rfl ?_; clear hF a; intro a hF
    refine wl_nil (hK4 _ _ ?_)
    refine wp_ret ?_
    try simp only [Exit.then, Exit.inBlock, ↓reduceIte]
    refine ret1 rfl hF rfl ⟨?_, hS.old⟩
    unfold indexOf; rw [c5]
    first | rfl | (have hi := isHandle_iff.1 c5; have h1u := h1; unfold int64 at h1u; rw [if_pos rfl, half_pos (by omega) h1, rem_pos _ (by omega), w64_id (by omega) (by omega)])
  refine wp_skip ?_
  refine hK2 _ _ ?_
  refine ws fun K5 hK5 => ?_
  refine wl_mvs (A := [_]) hF rfl ?_; clear hF a; intro a hF
  refine wl hF rfl rfl rfl (r_quo (by first | decide | omega) (hF.ev rfl) ec) ?_; clear hF a; intro a hF
  refine wl hF rfl rfl rfl (r_rem (by first | decide | omega) (hF.ev rfl) ec) ?_; clear hF a; intro a hF
  refine wl hF rfl rfl rfl (r_sub (hF.ev rfl) ec) ?_; clear hF a; intro a hF
  refine wl_mvs (A := [_]) hF rfl ?_; clear hF a; intro a hF
  refine wl_nil (hK5 _ _ ?_)
  refine wp_ret ?_
  try simp only [Exit.then, Exit.inBlock, ↓reduceIte]
  refine ret1 rfl hF rfl ⟨?_, hS.old⟩
  unfold indexOf; rw [c5]
  first | rfl | (have hi := isHandle_iff.1 c5; have h1u := h1; unfold int64 at h1u; rw [if_pos rfl, half_pos (by omega) h1, rem_pos _ (by omega), w64_id (by omega) (by omega)])
set_option maxHeartbeats 4000000 in
set_option maxRecDepth 20000 in
theorem specIsMarked_c {W : World} {h : Int} (h1 : int64 h) : Calls Tryz.prog 93 #[vi h] W (Ret fun v w' => v = .bool (isMarked h) ∧ Below W.heap.size W w') := by
  refine calls_fr Tryz.func93 rfl Tryz.ntmps93 rfl ?_
  intro a hF
  have hS := Sep.refl W
  refine ws fun K1 hK1 => ?_
  refine wl_mvs (A := [_]) hF rfl ?_; clear hF a; intro a hF
  refine wl_nil (hK1 _ _ ?_)
  refine ws fun K2 hK2 => ?_
  refine wl_mvs (A := [_]) hF rfl ?_; clear hF a; intro a hF
  refine wl hF rfl rfl rfl (r_eql (hF.ev rfl) ec) ?_; clear hF a; intro a hF
  refine wl_mvs (A := [_]) hF rfl ?_; clear hF a; intro a hF
  apply wl_or (A := [_, _, _, _, _, _, _, _]) (pk := 13) hF hS (tc := 5) rfl
  ·
    intro hg5 a hF; try simp only [zb1, zb2, zb3, zb4, zb5, zb6, zb7, zb8] at hg5
    refine wl_mvs (A := [_]) hF rfl ?_; clear hF a; intro a hF
    refine wl_take hF rfl rfl rfl rfl ?_
    refine wl_call hF rfl rfl rfl (r_call1 en143 (hF.ev rfl)) (specIsHandle_c h1) ?_; clear hF a; rintro v w1 a ⟨rfl, hB_⟩ hF; replace hS := hS.ext hB_; clear hB_
    refine wl_mvs (A := [_]) hF rfl ?_; clear hF a; intro a hF
    apply wl_and (A := [_, _, _, _]) (pk := 12) hF hS (tc := 8) rfl
    ·
      intro hg8 a hF; try simp only [zb1, zb2, zb3, zb4, zb5, zb6, zb7, zb8] at hg8
      refine wl_mvs (A := [_]) hF rfl ?_; clear hF a; intro a hF
      refine wl_take hF rfl rfl rfl rfl ?_
      refine wl hF rfl rfl rfl (r_rem (by first | decide | omega) (hF.ev rfl) ec) ?_; clear hF a; intro a hF
      refine wl_take hF rfl rfl rfl rfl ?_
      refine wl hF rfl rfl rfl (r_eql (hF.ev rfl) ec) ?_; clear hF a; intro a hF
      refine wl_take hF rfl rfl rfl rfl ?_
      refine wl hF rfl rfl rfl (r_pick_t (hF.ev rfl) (hF.ev rfl)) ?_; clear hF a; intro a hF
      exact wl_nil ⟨rfl, (Fr.pre (A := [_, _, _, _]) hF rfl).keep hF (t := 12) rfl, hS⟩
    ·
      intro hg8 a hF; try simp only [zb1, zb2, zb3, zb4, zb5, zb6, zb7, zb8] at hg8
      refine wl_mvs (A := [_, _, _]) hF rfl ?_; clear hF a; intro a hF
      refine wl_take hF rfl rfl rfl rfl ?_
      refine wl hF rfl rfl rfl (r_pick_f (hF.ev rfl) ec) ?_; clear hF a; intro a hF
      exact wl_nil ⟨rfl, (Fr.pre (A := [_, _, _, _]) hF rfl).keep hF (t := 12) rfl, hS⟩
    intro a w2 hF hS
    refine wl hF rfl rfl rfl (r_pick_f (hF.ev rfl) (hF.ev rfl)) ?_; clear hF a; intro a hF
    exact wl_nil ⟨rfl, (Fr.pre (A := [_, _, _, _, _]) hF rfl).keep hF (t := 13) rfl, hS⟩
  ·
    intro hg5 a hF; try simp only [zb1, zb2, zb3, zb4, zb5, zb6, zb7, zb8] at hg5
    refine wl_mvs (A := [_, _, _, _, _, _, _]) hF rfl ?_; clear hF a; intro a hF
    refine wl hF rfl rfl rfl (r_pick_t (hF.ev rfl) ec) ?_; clear hF a; intro a hF
    exact wl_nil ⟨rfl, (Fr.pre (A := [_, _, _, _, _, _, _, _]) hF rfl).keep hF (t := 13) rfl, hS⟩
  clear hF a hS; intro a w3 hF hS
  refine wl_mvs (A := [_]) hF rfl ?_; clear hF a; intro a hF
  refine wl_nil (hK2 _ _ ?_)
  refine wp_ret ?_
  try simp only [Exit.then, Exit.inBlock, ↓reduceIte]
  refine ret1 rfl hF rfl ⟨congrArg Value.bool ?_, hS.old⟩
  by_cases h0 : 0 ≤ h
  · rw [rem_pos _ h0]; rfl
  · have e : isHandle h = false := by rw [Bool.eq_false_iff]; intro e; rw [isHandle_iff] at e; omega
    unfold isMarked; rw [e, Bool.false_and, Bool.false_and]
set_option maxHeartbeats 4000000 in
set_option maxRecDepth 20000 in
theorem specUnmarked_c {W : World} {h : Int} (h1 : int64 h) : Calls Tryz.prog 87 #[vi h] W (Ret fun v w' => v = vi (unmarked h) ∧ Below W.heap.size W w') := by
  refine calls_fr Tryz.func87 rfl Tryz.ntmps87 rfl ?_
  intro a hF
  have hS := Sep.refl W
  refine ws fun K1 hK1 => ?_
  refine wl_mvs (A := [_]) hF rfl ?_; clear hF a; intro a hF
  refine wl_nil (hK1 _ _ ?_)
  refine wp_seq_k fun K2 hK2 => ?_
  refine ws fun K3 hK3 => ?_
  refine wl_mvs (A := [_]) hF rfl ?_; clear hF a; intro a hF
  refine wl_call hF rfl rfl rfl (r_call1 en93 (hF.ev rfl)) (specIsMarked_c h1) ?_; clear hF a; rintro v w1 a ⟨rfl, hB_⟩ hF; replace hS := hS.ext hB_; clear hB_
  refine wl_nil (hK3 _ _ ?_)
  refine wc_fx (t := 4) hF rfl ?_ ?_ <;> clear hF <;> intro c4 hF <;> try simp only [zb1, zb2, zb3, zb4, zb5, zb6, zb7, zb8] at c4
  ·
    refine ws fun K4 hK4 => ?_
    refine wl_mvs (A := [_]) hF rfl ?_; clear hF a; intro a hF
    refine wl hF rfl rfl rfl (r_sub (hF.ev rfl) ec) ?_; clear hF a; intro a hF
    refine wl_mvs (A := [_]) hF rfl ?_; clear hF a; intro a hF
    refine wl_nil (hK4 _ _ ?_)
    refine wp_ret ?_
    try simp only [Exit.then, Exit.inBlock, ↓reduceIte]
    refine ret1 rfl hF rfl ⟨?_, hS.old⟩
    unfold unmarked; rw [c4]
    first | rfl | (rw [if_pos rfl, unmark_wrap c4 h1])
  refine wp_skip ?_
  refine hK2 _ _ ?_
  refine ws fun K5 hK5 => ?_
  refine wl_mvs (A := [_, _]) hF rfl ?_; clear hF a; intro a hF
  refine wl_nil (hK5 _ _ ?_)
  refine wp_ret ?_
  try simp only [Exit.then, Exit.inBlock, ↓reduceIte]
  refine ret1 rfl hF rfl ⟨?_, hS.old⟩
  unfold unmarked; rw [c4]
  first | rfl | (rw [if_pos rfl, unmark_wrap c4 h1])
set_option maxHeartbeats 4000000 in
set_option maxRecDepth 20000 in
theorem parts_c {W : World} {h : Int} (h1 : int64 h) : Calls Tryz.prog 148 #[vi h] W (Ret fun v w' => v = .tuple #[vi (indexOf h), vi (genOf h), .bool (isHandle h)] ∧ Below W.heap.size W w') := by
  refine calls_fr Tryz.func148 rfl Tryz.ntmps148 rfl ?_
  intro a hF
  have hS := Sep.refl W
  refine ws fun K1 hK1 => ?_
  refine wl_mvs (A := [_, _, _]) hF rfl ?_; clear hF a; intro a hF
  refine wl_nil (hK1 _ _ ?_)
  refine wp_seq_k fun K2 hK2 => ?_
  refine ws fun K3 hK3 => ?_
  refine wl_mvs (A := [_]) hF rfl ?_; clear hF a; intro a hF
  refine wl hF rfl rfl rfl (r_lss (hF.ev rfl) ec) ?_; clear hF a; intro a hF
  refine wl_nil (hK3 _ _ ?_)
  refine wc_fx (t := 7) hF rfl ?_ ?_ <;> clear hF <;> intro c7 hF <;> try simp only [zb1, zb2, zb3, zb4, zb5, zb6, zb7, zb8] at c7
  ·
    refine ws fun K4 hK4 => ?_
    refine wl_mvs (A := [_, _, _]) hF rfl ?_; clear hF a; intro a hF
    refine wl_nil (hK4 _ _ ?_)
    refine wp_ret ?_
    try simp only [Exit.then, Exit.inBlock, ↓reduceIte]
    first
      | (have e : isHandle h = false := by rw [Bool.eq_false_iff]; intro e; rw [isHandle_iff] at e; omega
         exact ret3 rfl hF rfl rfl rfl ⟨by unfold indexOf genOf; rw [e]; rfl, hS.old⟩)
      | (have e : isHandle h = true := by rw [isHandle_iff]; omega
         refine ret3 rfl hF rfl rfl rfl ⟨?_, hS.old⟩
         unfold indexOf genOf; rw [e, if_pos rfl, if_pos rfl]
         rw [hw3, hw4, show (h / 2 - 1) % 64 = h / 2 % 64 - 1 by omega, show (h / 2 - 1) / 64 = h / 2 / 64 by omega])
  have hw1 := half_pos (by omega) h1
  have h1u := h1; unfold int64 at h1u
  have hw2 : IntKind.i64.wrap (h / 2 - 1) = h / 2 - 1 := w64_id (by omega) (by omega)
  have hw3 := rem_pos (h := h / 2 - 1) 64 (by omega)
  have hw4 := q64_pos (h := h / 2 - 1) (by omega) (by unfold int64; omega)
  refine wp_skip ?_
  refine hK2 _ _ ?_
  refine ws fun K5 hK5 => ?_
  refine wl_mvs (A := [_]) hF rfl ?_; clear hF a; intro a hF
  refine wl hF rfl rfl rfl (r_quo (by first | decide | omega) (hF.ev rfl) ec) ?_; clear hF a; intro a hF
  refine wl hF rfl rfl rfl (r_sub (hF.ev rfl) ec) ?_; clear hF a; intro a hF
  refine wl_mvs (A := [_]) hF rfl ?_; clear hF a; intro a hF
  refine wl_nil (hK5 _ _ ?_)
  refine wp_seq_k fun K6 hK6 => ?_
  refine ws fun K7 hK7 => ?_
  refine wl_mvs (A := [_]) hF rfl ?_; clear hF a; intro a hF
  refine wl hF rfl rfl rfl (r_rem (by first | decide | omega) (hF.ev rfl) ec) ?_; clear hF a; intro a hF
  refine wl hF rfl rfl rfl (r_gtr (hF.ev rfl) ec) ?_; clear hF a; intro a hF
  refine wl_mvs (A := [_]) hF rfl ?_; clear hF a; intro a hF
  apply wl_or (A := [_, _, _, _]) (pk := 18) hF hS (tc := 14) rfl
  ·
    intro hg14 a hF; try simp only [zb1, zb2, zb3, zb4, zb5, zb6, zb7, zb8] at hg14
    refine wl_mvs (A := [_]) hF rfl ?_; clear hF a; intro a hF
    refine wl_take hF rfl rfl rfl rfl ?_
    refine wl hF rfl rfl rfl (r_quo (by first | decide | omega) (hF.ev rfl) ec) ?_; clear hF a; intro a hF
    refine wl_take hF rfl rfl rfl rfl ?_
    refine wl hF rfl rfl rfl (r_gtr (hF.ev rfl) ec) ?_; clear hF a; intro a hF
    refine wl hF rfl rfl rfl (r_pick_f (hF.ev rfl) (hF.ev rfl)) ?_; clear hF a; intro a hF
    exact wl_nil ⟨rfl, (Fr.pre (A := [_, _, _, _]) hF rfl).keep hF (t := 18) rfl, hS⟩
  ·
    intro hg14 a hF; try simp only [zb1, zb2, zb3, zb4, zb5, zb6, zb7, zb8] at hg14
    refine wl_mvs (A := [_, _, _]) hF rfl ?_; clear hF a; intro a hF
    refine wl hF rfl rfl rfl (r_pick_t (hF.ev rfl) ec) ?_; clear hF a; intro a hF
    exact wl_nil ⟨rfl, (Fr.pre (A := [_, _, _, _]) hF rfl).keep hF (t := 18) rfl, hS⟩
  clear hF a hS; intro a w1 hF hS
  refine wl_nil (hK7 _ _ ?_)
  refine wc_fx (t := 18) hF rfl ?_ ?_ <;> clear hF <;> intro c18 hF <;> try simp only [zb1, zb2, zb3, zb4, zb5, zb6, zb7, zb8] at c18
  ·
    rw [hw1, hw2, hw3, hw4] at c18
    refine ws fun K8 hK8 => ?_
    refine wl_mvs (A := [_, _, _]) hF rfl ?_; clear hF a; intro a hF
    refine wl_nil (hK8 _ _ ?_)
    refine wp_ret ?_
    try simp only [Exit.then, Exit.inBlock, ↓reduceIte]
    first
      | (have e : isHandle h = false := by rw [Bool.eq_false_iff]; intro e; rw [isHandle_iff] at e; omega
         exact ret3 rfl hF rfl rfl rfl ⟨by unfold indexOf genOf; rw [e]; rfl, hS.old⟩)
      | (have e : isHandle h = true := by rw [isHandle_iff]; omega
         refine ret3 rfl hF rfl rfl rfl ⟨?_, hS.old⟩
         unfold indexOf genOf; rw [e, if_pos rfl, if_pos rfl]
         rw [hw3, hw4, show (h / 2 - 1) % 64 = h / 2 % 64 - 1 by omega, show (h / 2 - 1) / 64 = h / 2 / 64 by omega])
  rw [hw1, hw2, hw3, hw4] at c18
  rw [hw1, hw2, hw3, hw4] at hF
  refine wp_skip ?_
  refine hK6 _ _ ?_
  refine ws fun K9 hK9 => ?_
  refine wl_mvs (A := [_]) hF rfl ?_; clear hF a; intro a hF
  refine wl hF rfl rfl rfl (r_rem (by first | decide | omega) (hF.ev rfl) ec) ?_; clear hF a; intro a hF
  refine wl_mvs (A := [_]) hF rfl ?_; clear hF a; intro a hF
  refine wl hF rfl rfl rfl (r_quo (by first | decide | omega) (hF.ev rfl) ec) ?_; clear hF a; intro a hF
  refine wl_mvs (A := [_, _, _]) hF rfl ?_; clear hF a; intro a hF
  refine wl_nil (hK9 _ _ ?_)
  refine wp_ret ?_
  try simp only [Exit.then, Exit.inBlock, ↓reduceIte]
  first
    | (have e : isHandle h = false := by rw [Bool.eq_false_iff]; intro e; rw [isHandle_iff] at e; omega
       exact ret3 rfl hF rfl rfl rfl ⟨by unfold indexOf genOf; rw [e]; rfl, hS.old⟩)
    | (have e : isHandle h = true := by rw [isHandle_iff]; omega
       refine ret3 rfl hF rfl rfl rfl ⟨?_, hS.old⟩
       unfold indexOf genOf; rw [e, if_pos rfl, if_pos rfl]
       rw [hw3, hw4, show (h / 2 - 1) % 64 = h / 2 % 64 - 1 by omega, show (h / 2 - 1) / 64 = h / 2 / 64 by omega])
set_option maxHeartbeats 4000000 in
set_option maxRecDepth 20000 in
theorem implIsHandle_c {W : World} {h : Int} (h1 : int64 h) : Calls Tryz.prog 146 #[vi h] W (Ret fun v w' => v = .bool (isHandle h) ∧ Below W.heap.size W w') := by
  refine calls_fr Tryz.func146 rfl Tryz.ntmps146 rfl ?_
  intro a hF
  have hS := Sep.refl W
  refine ws fun K1 hK1 => ?_
  refine wl_mvs (A := [_]) hF rfl ?_; clear hF a; intro a hF
  refine wl_nil (hK1 _ _ ?_)
  refine ws fun K2 hK2 => ?_
  refine wl_mvs (A := [_]) hF rfl ?_; clear hF a; intro a hF
  refine wl_call hF rfl rfl rfl (r_call1 en148 (hF.ev rfl)) (parts_c h1) ?_; clear hF a; rintro v w1 a ⟨rfl, hB_⟩ hF; replace hS := hS.ext hB_; clear hB_
  refine wl_mvs (A := [_]) hF rfl ?_; clear hF a; intro a hF
  refine wl hF rfl rfl rfl (r_extract (hF.ev rfl) rfl) ?_; clear hF a; intro a hF
  refine wl hF rfl rfl rfl (r_extract (hF.ev rfl) rfl) ?_; clear hF a; intro a hF
  refine wl hF rfl rfl rfl (r_extract (hF.ev rfl) rfl) ?_; clear hF a; intro a hF
  refine wl_mvs (A := [_, _, _]) hF rfl ?_; clear hF a; intro a hF
  refine wl_nil (hK2 _ _ ?_)
  refine ws fun K3 hK3 => ?_
  refine wl_mvs (A := [_, _]) hF rfl ?_; clear hF a; intro a hF
  refine wl_nil (hK3 _ _ ?_)
  refine wp_ret ?_
  try simp only [Exit.then, Exit.inBlock, ↓reduceIte]
  exact ret1 rfl hF rfl ⟨rfl, hS.old⟩
set_option maxHeartbeats 4000000 in
set_option maxRecDepth 20000 in
theorem implIndexOf_c {W : World} {h : Int} (h1 : int64 h) : Calls Tryz.prog 107 #[vi h] W (Ret fun v w' => v = vi (indexOf h) ∧ Below W.heap.size W w') := by
  refine calls_fr Tryz.func107 rfl Tryz.ntmps107 rfl ?_
  intro a hF
  have hS := Sep.refl W
  refine ws fun K1 hK1 => ?_
  refine wl_mvs (A := [_]) hF rfl ?_; clear hF a; intro a hF
  refine wl_nil (hK1 _ _ ?_)
  refine ws fun K2 hK2 => ?_
  refine wl_mvs (A := [_]) hF rfl ?_; clear hF a; intro a hF
  refine wl_call hF rfl rfl rfl (r_call1 en148 (hF.ev rfl)) (parts_c h1) ?_; clear hF a; rintro v w1 a ⟨rfl, hB_⟩ hF; replace hS := hS.ext hB_; clear hB_
  refine wl_mvs (A := [_]) hF rfl ?_; clear hF a; intro a hF
  refine wl hF rfl rfl rfl (r_extract (hF.ev rfl) rfl) ?_; clear hF a; intro a hF
  refine wl hF rfl rfl rfl (r_extract (hF.ev rfl) rfl) ?_; clear hF a; intro a hF
  refine wl hF rfl rfl rfl (r_extract (hF.ev rfl) rfl) ?_; clear hF a; intro a hF
  refine wl_mvs (A := [_, _, _]) hF rfl ?_; clear hF a; intro a hF
  refine wl_nil (hK2 _ _ ?_)
  refine ws fun K3 hK3 => ?_
  refine wl_mvs (A := [_, _]) hF rfl ?_; clear hF a; intro a hF
  refine wl_nil (hK3 _ _ ?_)
  refine wp_ret ?_
  try simp only [Exit.then, Exit.inBlock, ↓reduceIte]
  exact ret1 rfl hF rfl ⟨rfl, hS.old⟩
set_option maxHeartbeats 4000000 in
set_option maxRecDepth 20000 in
theorem implIsMarked_c {W : World} {h : Int} (h1 : int64 h) : Calls Tryz.prog 102 #[vi h] W (Ret fun v w' => v = .bool (isMarked h) ∧ Below W.heap.size W w') := by
  refine calls_fr Tryz.func102 rfl Tryz.ntmps102 rfl ?_
  intro a hF
  have hS := Sep.refl W
  refine ws fun K1 hK1 => ?_
  refine wl_mvs (A := [_]) hF rfl ?_; clear hF a; intro a hF
  refine wl_nil (hK1 _ _ ?_)
  refine ws fun K2 hK2 => ?_
  refine wl_mvs (A := [_]) hF rfl ?_; clear hF a; intro a hF
  refine wl hF rfl rfl rfl (r_eql (hF.ev rfl) ec) ?_; clear hF a; intro a hF
  refine wl_mvs (A := [_]) hF rfl ?_; clear hF a; intro a hF
  apply wl_or (A := [_, _, _, _, _, _, _, _]) (pk := 13) hF hS (tc := 5) rfl
  ·
    intro hg5 a hF; try simp only [zb1, zb2, zb3, zb4, zb5, zb6, zb7, zb8] at hg5
    refine wl_mvs (A := [_]) hF rfl ?_; clear hF a; intro a hF
    refine wl_take hF rfl rfl rfl rfl ?_
    refine wl_call hF rfl rfl rfl (r_call1 en146 (hF.ev rfl)) (implIsHandle_c h1) ?_; clear hF a; rintro v w1 a ⟨rfl, hB_⟩ hF; replace hS := hS.ext hB_; clear hB_
    refine wl_mvs (A := [_]) hF rfl ?_; clear hF a; intro a hF
    apply wl_and (A := [_, _, _, _]) (pk := 12) hF hS (tc := 8) rfl
    ·
      intro hg8 a hF; try simp only [zb1, zb2, zb3, zb4, zb5, zb6, zb7, zb8] at hg8
      refine wl_mvs (A := [_]) hF rfl ?_; clear hF a; intro a hF
      refine wl_take hF rfl rfl rfl rfl ?_
      refine wl hF rfl rfl rfl (r_rem (by first | decide | omega) (hF.ev rfl) ec) ?_; clear hF a; intro a hF
      refine wl_take hF rfl rfl rfl rfl ?_
      refine wl hF rfl rfl rfl (r_eql (hF.ev rfl) ec) ?_; clear hF a; intro a hF
      refine wl_take hF rfl rfl rfl rfl ?_
      refine wl hF rfl rfl rfl (r_pick_t (hF.ev rfl) (hF.ev rfl)) ?_; clear hF a; intro a hF
      exact wl_nil ⟨rfl, (Fr.pre (A := [_, _, _, _]) hF rfl).keep hF (t := 12) rfl, hS⟩
    ·
      intro hg8 a hF; try simp only [zb1, zb2, zb3, zb4, zb5, zb6, zb7, zb8] at hg8
      refine wl_mvs (A := [_, _, _]) hF rfl ?_; clear hF a; intro a hF
      refine wl_take hF rfl rfl rfl rfl ?_
      refine wl hF rfl rfl rfl (r_pick_f (hF.ev rfl) ec) ?_; clear hF a; intro a hF
      exact wl_nil ⟨rfl, (Fr.pre (A := [_, _, _, _]) hF rfl).keep hF (t := 12) rfl, hS⟩
    intro a w2 hF hS
    refine wl hF rfl rfl rfl (r_pick_f (hF.ev rfl) (hF.ev rfl)) ?_; clear hF a; intro a hF
    exact wl_nil ⟨rfl, (Fr.pre (A := [_, _, _, _, _]) hF rfl).keep hF (t := 13) rfl, hS⟩
  ·
    intro hg5 a hF; try simp only [zb1, zb2, zb3, zb4, zb5, zb6, zb7, zb8] at hg5
    refine wl_mvs (A := [_, _, _, _, _, _, _]) hF rfl ?_; clear hF a; intro a hF
    refine wl hF rfl rfl rfl (r_pick_t (hF.ev rfl) ec) ?_; clear hF a; intro a hF
    exact wl_nil ⟨rfl, (Fr.pre (A := [_, _, _, _, _, _, _, _]) hF rfl).keep hF (t := 13) rfl, hS⟩
  clear hF a hS; intro a w3 hF hS
  refine wl_mvs (A := [_]) hF rfl ?_; clear hF a; intro a hF
  refine wl_nil (hK2 _ _ ?_)
  refine wp_ret ?_
  try simp only [Exit.then, Exit.inBlock, ↓reduceIte]
  refine ret1 rfl hF rfl ⟨congrArg Value.bool ?_, hS.old⟩
  by_cases h0 : 0 ≤ h
  · rw [rem_pos _ h0]; rfl
  · have e : isHandle h = false := by rw [Bool.eq_false_iff]; intro e; rw [isHandle_iff] at e; omega
    unfold isMarked; rw [e, Bool.false_and, Bool.false_and]
set_option maxHeartbeats 4000000 in
set_option maxRecDepth 20000 in
theorem implUnmarked_c {W : World} {h : Int} (h1 : int64 h) : Calls Tryz.prog 95 #[vi h] W (Ret fun v w' => v = vi (unmarked h) ∧ Below W.heap.size W w') := by
  refine calls_fr Tryz.func95 rfl Tryz.ntmps95 rfl ?_
  intro a hF
  have hS := Sep.refl W
  refine ws fun K1 hK1 => ?_
  refine wl_mvs (A := [_]) hF rfl ?_; clear hF a; intro a hF
  refine wl_nil (hK1 _ _ ?_)
  refine wp_seq_k fun K2 hK2 => ?_
  refine ws fun K3 hK3 => ?_
  refine wl_mvs (A := [_]) hF rfl ?_; clear hF a; intro a hF
  refine wl_call hF rfl rfl rfl (r_call1 en102 (hF.ev rfl)) (implIsMarked_c h1) ?_; clear hF a; rintro v w1 a ⟨rfl, hB_⟩ hF; replace hS := hS.ext hB_; clear hB_
  refine wl_nil (hK3 _ _ ?_)
  refine wc_fx (t := 4) hF rfl ?_ ?_ <;> clear hF <;> intro c4 hF <;> try simp only [zb1, zb2, zb3, zb4, zb5, zb6, zb7, zb8] at c4
  ·
    refine ws fun K4 hK4 => ?_
    refine wl_mvs (A := [_]) hF rfl ?_; clear hF a; intro a hF
    refine wl hF rfl rfl rfl (r_sub (hF.ev rfl) ec) ?_; clear hF a; intro a hF
    refine wl_mvs (A := [_]) hF rfl ?_; clear hF a; intro a hF
    refine wl_nil (hK4 _ _ ?_)
    refine wp_ret ?_
    try simp only [Exit.then, Exit.inBlock, ↓reduceIte]
    refine ret1 rfl hF rfl ⟨?_, hS.old⟩
    unfold unmarked; rw [c4]
    first | rfl | (rw [if_pos rfl, unmark_wrap c4 h1])
  refine wp_skip ?_
  refine hK2 _ _ ?_
  refine ws fun K5 hK5 => ?_
  refine wl_mvs (A := [_, _]) hF rfl ?_; clear hF a; intro a hF
  refine wl_nil (hK5 _ _ ?_)
  refine wp_ret ?_
  try simp only [Exit.then, Exit.inBlock, ↓reduceIte]
  refine ret1 rfl hF rfl ⟨?_, hS.old⟩
  unfold unmarked; rw [c4]
  first | rfl | (rw [if_pos rfl, unmark_wrap c4 h1])
end Go.Proofs.YtifhfodphoeeoaaGreat.Wk
namespace Go.Proofs.YtifhfodphoeeoaaGreat.Wk
open Go Go.RowKit Sl
set_option linter.unusedVariables false
set_option linter.unusedSimpArgs false
set_option maxRecDepth 20000
set_option maxHeartbeats 4000000 in
set_option maxRecDepth 20000 in
theorem szEntryS_c {W : World} {va : Value} {xs : List Entry} {left : Int} (ha : entryEK.Rd W va xs) (h0 : 0 ≤ left) (h1 : left ≤ 1048576) : Calls Tryz.prog 130 #[va, vi left] W (Ret fun v w' => (∃ r : Int, v = vi r ∧ -1 ≤ r ∧ r ≤ left ∧ (0 ≤ r → (xs.length : Int) ≤ left - r)) ∧ Below W.heap.size W w') := by
  refine calls_fr Tryz.func130 rfl Tryz.ntmps130 rfl ?_
  intro a hF
  obtain ⟨A_a, q_a, rfl, hq_a, hn_a⟩ := ha.sl; unfold maxLen at hn_a
  have hS := Sep.refl W
  have e : IntKind.i64.wrap (left - xs.length) = left - xs.length := w64_id (by omega) (by omega)
  refine ws fun K1 hK1 => ?_
  refine wl_mvs (A := [_]) hF rfl ?_; clear hF a; intro a hF
  refine wl_nil (hK1 _ _ ?_)
  refine ws fun K2 hK2 => ?_
  refine wl_mvs (A := [_, _]) hF rfl ?_; clear hF a; intro a hF
  refine wl hF rfl rfl rfl (r_len ul73 (hF.ev rfl)) ?_; clear hF a; intro a hF
  refine wl hF rfl rfl rfl (r_sub (hF.ev rfl) (hF.ev rfl)) ?_; clear hF a; intro a hF
  refine wl_mvs (A := [_]) hF rfl ?_; clear hF a; intro a hF
  refine wl_nil (hK2 _ _ ?_)
  refine wp_seq_k fun K3 hK3 => ?_
  refine ws fun K4 hK4 => ?_
  refine wl_mvs (A := [_]) hF rfl ?_; clear hF a; intro a hF
  refine wl hF rfl rfl rfl (r_lss (hF.ev rfl) ec) ?_; clear hF a; intro a hF
  refine wl_nil (hK4 _ _ ?_)
  first | refine wc_dec (hF.ev rfl) (fun c10 => ?_) (fun c10 => ?_) | refine wc_ndec (hF.ev rfl) (fun c10 => ?_) (fun c10 => ?_) | refine wc_b (hF.ev rfl) (fun c10 => ?_) (fun c10 => ?_)
  ·
    refine ws fun K5 hK5 => ?_
    refine wl_mvs (A := [_]) hF rfl ?_; clear hF a; intro a hF
    refine wl_nil (hK5 _ _ ?_)
    refine wp_ret ?_
    try simp only [Exit.then, Exit.inBlock, ↓reduceIte]
    rw [e] at c10
    first | exact ret1 rfl hF rfl ⟨⟨-1, rfl, by omega, by omega, by omega⟩, hS.old⟩ | exact ret1 rfl hF rfl ⟨⟨_, congrArg vi e, by omega, by omega, by omega⟩, hS.old⟩
  refine wp_skip ?_
  refine hK3 _ _ ?_
  refine ws fun K6 hK6 => ?_
  refine wl_mvs (A := [_, _]) hF rfl ?_; clear hF a; intro a hF
  refine wl_nil (hK6 _ _ ?_)
  refine wp_ret ?_
  try simp only [Exit.then, Exit.inBlock, ↓reduceIte]
  rw [e] at c10
  first | exact ret1 rfl hF rfl ⟨⟨-1, rfl, by omega, by omega, by omega⟩, hS.old⟩ | exact ret1 rfl hF rfl ⟨⟨_, congrArg vi e, by omega, by omega, by omega⟩, hS.old⟩
set_option maxHeartbeats 4000000 in
set_option maxRecDepth 20000 in
theorem toEntry_c {W : World} (x : Entry) : Calls Tryz.prog 177 #[.agg x.enc.toArray] W (Ret fun v w' => v = .agg x.enc.toArray ∧ Below W.heap.size W w') := by
  refine calls_fr Tryz.func177 rfl Tryz.ntmps177 rfl ?_
  intro a hF
  have hS := Sep.refl W
  refine ws fun K1 hK1 => ?_
  refine wl_box (cs := [_, _, _, _]) hF hS rfl (hF.ev rfl) rfl ?_; clear hF a; intro g1 w1 a hS_ hB_ hF; replace hS := hS_; clear hS_ hB_
  refine wl_alloc hF hS rfl zr100 ?_; clear hF a; intro g2 w2 a hS_ hB_ hF; replace hS := hS_; clear hS_ hB_
  refine wl_nil (hK1 _ _ ?_)
  refine ws fun K2 hK2 => ?_
  refine wl_alloc hF hS rfl zr100 ?_; clear hF a; intro g3 w3 a hS_ hB_ hF; replace hS := hS_; clear hS_ hB_
  refine wl_nil (hK2 _ _ ?_)
  refine ws fun K3 hK3 => ?_
  refine wl hF rfl rfl rfl (r_field fo144_0 (hF.ev rfl)) ?_; clear hF a; intro a hF
  refine wl hF rfl rfl rfl (r_load1 sc3 (hF.ev rfl) (hS.box (i := 2) rfl rfl)) ?_; clear hF a; intro a hF
  refine wl hF rfl rfl rfl (r_field fo100_0 (hF.ev rfl)) ?_; clear hF a; intro a hF
  refine wl_store hF hS (i := 0) rfl sz3 (hF.ev rfl) (hF.ev rfl) rfl rfl ?_; intro w4 hS_; replace hS := hS_; clear hS_; dsimp only [List.set, Nat.reduceAdd] at hS
  refine wl_nil (hK3 _ _ ?_)
  refine ws fun K4 hK4 => ?_
  refine wl hF rfl rfl rfl (r_field fo144_1 (hF.ev rfl)) ?_; clear hF a; intro a hF
  refine wl hF rfl rfl rfl (r_load1 sc3 (hF.ev rfl) (hS.box (i := 2) rfl rfl)) ?_; clear hF a; intro a hF
  refine wl hF rfl rfl rfl (r_field fo100_1 (hF.ev rfl)) ?_; clear hF a; intro a hF
  refine wl_store hF hS (i := 0) rfl sz3 (hF.ev rfl) (hF.ev rfl) rfl rfl ?_; intro w5 hS_; replace hS := hS_; clear hS_; dsimp only [List.set, Nat.reduceAdd] at hS
  refine wl_nil (hK4 _ _ ?_)
  refine ws fun K5 hK5 => ?_
  refine wl hF rfl rfl rfl (r_field fo144_2 (hF.ev rfl)) ?_; clear hF a; intro a hF
  refine wl hF rfl rfl rfl (r_load1 sc3 (hF.ev rfl) (hS.box (i := 2) rfl rfl)) ?_; clear hF a; intro a hF
  refine wl hF rfl rfl rfl (r_field fo100_2 (hF.ev rfl)) ?_; clear hF a; intro a hF
  refine wl_store hF hS (i := 0) rfl sz3 (hF.ev rfl) (hF.ev rfl) rfl rfl ?_; intro w6 hS_; replace hS := hS_; clear hS_; dsimp only [List.set, Nat.reduceAdd] at hS
  refine wl_nil (hK5 _ _ ?_)
  refine ws fun K6 hK6 => ?_
  refine wl hF rfl rfl rfl (r_field fo144_3 (hF.ev rfl)) ?_; clear hF a; intro a hF
  refine wl hF rfl rfl rfl (r_load1 sc3 (hF.ev rfl) (hS.box (i := 2) rfl rfl)) ?_; clear hF a; intro a hF
  refine wl hF rfl rfl rfl (r_field fo100_3 (hF.ev rfl)) ?_; clear hF a; intro a hF
  refine wl_store hF hS (i := 0) rfl sz3 (hF.ev rfl) (hF.ev rfl) rfl rfl ?_; intro w7 hS_; replace hS := hS_; clear hS_; dsimp only [List.set, Nat.reduceAdd] at hS
  refine wl_nil (hK6 _ _ ?_)
  refine ws fun K7 hK7 => ?_
  refine wl hF rfl rfl rfl (r_loadn ag100 (hF.ev rfl) (hS.box_rd (i := 0) rfl) sz100) ?_; clear hF a; intro a hF
  refine wl_storew hF hS (i := 1) rfl (hF.ev rfl) (hF.ev rfl) sz100 rfl rfl ?_; intro w8 hS_; replace hS := hS_; clear hS_; dsimp only [List.set, Nat.reduceAdd] at hS
  refine wl_nil (hK7 _ _ ?_)
  refine wp_ret ?_
  try simp only [Exit.then, Exit.inBlock, ↓reduceIte]
  exact ret1c rfl ag100 hF hS (i := 1) rfl sz100 rfl ⟨rfl, hS.old⟩
set_option maxHeartbeats 4000000 in
set_option maxRecDepth 20000 in
theorem toEntryS_c {W : World} {va : Value} {xs : List Entry} (ha : entryEK.Rd W va xs) (hz : xs.length ≤ 1099511627776)  : Calls Tryz.prog 134 #[va] W (Ret (Mk W (fun s : Slv => sv s) (fun s => [Own (entryEK) (sv s) xs]))) := by
  refine calls_fr Tryz.func134 rfl Tryz.ntmps134 rfl ?_
  intro a hF
  obtain ⟨A_a, q_a, rfl, hq_a, hn_a⟩ := ha.sl; unfold maxLen at hn_a
  have hS := Sep.refl W
  refine ws fun K1 hK1 => ?_
  refine wl_mvs (A := [_]) hF rfl ?_; clear hF a; intro a hF
  refine wl_nil (hK1 _ _ ?_)
  refine ws fun K2 hK2 => ?_
  refine wl_mvs (A := [_]) hF rfl ?_; clear hF a; intro a hF
  refine wl hF rfl rfl rfl (r_len ul73 (hF.ev rfl)) ?_; clear hF a; intro a hF
  refine wl_make (entryEK) ⟨0, 0, 0, 0⟩ [] hF hS rfl mk51 rfl (fun _ => Sat.nil _ _) (hF.ev rfl) (by omega) (by unfold maxLen; omega) ?_; clear hF a; intro gm_7 w1 a hS_ hF; replace hS := hS_; clear hS_
  refine wl_mvs (A := [_]) hF rfl ?_; clear hF a; intro a hF
  refine wl_nil (hK2 _ _ ?_)
  refine wp_seq_k fun K3 hK3 => ?_
  refine ws fun K4 hK4 => ?_
  refine wl_mvs (A := [_]) hF rfl ?_; clear hF a; intro a hF
  refine wl_nil (hK4 _ _ ?_)
  refine wp_block ?_
  refine wp_loop_g (σ := Nat) (fun k a w => k ≤ xs.length ∧ Sep W [Own (entryEK) (.slice (some ⟨gm_7, 0, none⟩) xs.length xs.length) (xs.take k ++ List.replicate (xs.length - k) (⟨0, 0, 0, 0⟩))] w ∧ Fr 23 [(4, vi k), (3, .slice (some ⟨gm_7, 0, none⟩) xs.length xs.length), (0, .slice A_a xs.length q_a)] a) (fun k => xs.length - k) 0 ?_ ?_
  · refine ⟨Nat.zero_le _, ?_, (((hF.nil.keep hF (t := 0) rfl).keep hF (t := 3) rfl).keep hF (t := 4) rfl)⟩
    rw [List.take_zero, List.nil_append, Nat.sub_zero]; exact hS
  clear hF hS a
  rintro k a w ⟨hk, hS, hF⟩
  refine wp_seq_k fun K5 hK5 => ?_
  refine ws fun K6 hK6 => ?_
  refine wl_mvs (A := [_, _]) hF rfl ?_; clear hF a; intro a hF
  refine wl hF rfl rfl rfl (r_len ul73 (hF.ev rfl)) ?_; clear hF a; intro a hF
  refine wl hF rfl rfl rfl (r_lss (hF.ev rfl) (hF.ev rfl)) ?_; clear hF a; intro a hF
  refine wl_nil (hK6 _ _ ?_)
  first | refine wc_dec (hF.ev rfl) (fun c11 => ?_) (fun c11 => ?_) | refine wc_ndec (hF.ev rfl) (fun c11 => ?_) (fun c11 => ?_) | refine wc_b (hF.ev rfl) (fun c11 => ?_) (fun c11 => ?_)
  ·
    have hlt : k < xs.length := by omega
    obtain ⟨x, hx⟩ : ∃ x, xs[k]? = some x := ⟨_, List.getElem?_eq_getElem hlt⟩
    obtain ⟨y, hy⟩ : ∃ y, (xs.take k ++ List.replicate (xs.length - k) (⟨0, 0, 0, 0⟩))[k]? = some y := ⟨_, List.getElem?_eq_getElem (by simp; omega)⟩
    refine wp_skip ?_
    refine hK5 _ _ ?_
    refine wp_seq_k fun K7 hK7 => ?_
    refine wp_block ?_
    refine wp_region_lit ?_
    refine wl_mvs (A := [_, _, _, _]) hF rfl ?_; clear hF a; intro a hF
    obtain ⟨g18, o18, m18, q18, hv18, hm18, hl18, hc18⟩ := Rd.idxF (hS.rd ha) hx
    refine wl hF rfl rfl rfl (r_index sl73 ((hF.ev rfl).trans hv18) (hF.ev rfl) (by omega) (by omega)) ?_; clear hF a; intro a hF
    refine wl hF rfl rfl rfl (r_loadn ag144 (hF.ev rfl) (hc18) sz144) ?_; clear hF a; intro a hF
    refine wl_call hF rfl rfl rfl (r_call1 en177 (hF.ev rfl)) (toEntry_c x) ?_; clear hF a; rintro v w2 a ⟨rfl, hB_⟩ hF; replace hS := hS.ext hB_; clear hB_
    have hl21 : k < xs.length := hlt
    have hv21 : Value.slice (some ⟨gm_7, 0, none⟩) xs.length xs.length = _ := rfl
    refine wl hF rfl rfl rfl (r_index sl51 ((hF.ev rfl).trans hv21) (hF.ev rfl) (by omega) (by omega)) ?_; clear hF a; intro a hF
    replace hS : Sep W (Part entryEK x [] :: _) _ := hS.many_nil; refine wl_oput (q := 0) (i := k) hF hS rfl rfl hy sz100 (hF.ev rfl) rfl (hF.ev rfl) rfl ?_; intro w3 hS_; replace hS := hS_; clear hS_; dsimp only [List.set] at hS; rw [fill_set hx] at hS
    refine wl_nil ?_
    simp only [Exit.then, Exit.inBlock, ↓reduceIte]
    refine hK7 _ _ ?_
    refine wp_region_lit ?_
    refine wl_mvs (A := [_]) hF rfl ?_; clear hF a; intro a hF
    refine wl hF rfl rfl rfl (r_add (hF.ev rfl) ec) ?_; clear hF a; intro a hF
    refine wl_mvs (A := [_]) hF rfl ?_; clear hF a; intro a hF
    refine wl_nil ?_
    try simp only [Exit.then, Exit.inBlock, ↓reduceIte]
    exact ⟨k + 1, ⟨by omega, hS, (((hF.nil.keep hF (t := 0) rfl).keep hF (t := 3) rfl).keepE hF (t := 4) rfl (wk (by omega)))⟩, by omega⟩
  refine wp_exit ?_
  simp only [Exit.then, Exit.inBlock, ↓reduceIte]
  refine hK3 _ _ ?_
  refine ws fun K8 hK8 => ?_
  refine wl_mvs (A := [_, _]) hF rfl ?_; clear hF a; intro a hF
  refine wl_nil (hK8 _ _ ?_)
  refine wp_ret ?_
  try simp only [Exit.then, Exit.inBlock, ↓reduceIte]
  obtain rfl : k = xs.length := by omega
  refine ret1 rfl hF rfl ?_
  rw [Nat.sub_self, List.replicate_zero, List.append_nil, List.take_length] at hS; exact hS.mkS rfl
def _root_.Go.Proofs.YtifhfodphoeeoaaGreat.Sl.Thread.size (t : Sl.Thread) : Nat := t.found.length + t.free.length + t.buffer.length + t.work.length + t.limbo.length
set_option maxHeartbeats 4000000 in
set_option maxRecDepth 20000 in
theorem szThread_c {W : World} {t : Sl.Thread} {cs : List Value} {left : Int} (hm : threadEK.K W t cs) (h0 : 0 ≤ left) (h1 : left ≤ 1048576) : Calls Tryz.prog 65 #[.agg cs.toArray, vi left] W (Ret fun v w' => (∃ r : Int, v = vi r ∧ -1 ≤ r ∧ r ≤ left ∧ (0 ≤ r → (t.size : Int) ≤ left - r)) ∧ Below W.heap.size W w') := by
  refine calls_fr Tryz.func65 rfl Tryz.ntmps65 rfl ?_
  intro a hF
  obtain ⟨v0, v1, v2, v3, v4, rfl, r0, r1, r2, r3, r4⟩ := hm
  have hS := Sep.refl W
  refine ws fun K1 hK1 => ?_
  refine wl_box (cs := [_, _, _, _, _, _, _, _, _, _, _, _, _, _, _, _, _, _, _]) hF hS rfl (hF.ev rfl) rfl ?_; clear hF a; intro g1 w1 a hS_ hB_ hF; replace hS := hS_; clear hS_ hB_
  refine wl_mvs (A := [_]) hF rfl ?_; clear hF a; intro a hF
  refine wl_nil (hK1 _ _ ?_)
  refine ws fun K2 hK2 => ?_
  refine wl hF rfl rfl rfl (r_field fo75_11 (hF.ev rfl)) ?_; clear hF a; intro a hF
  refine wl hF rfl rfl rfl (r_load1 sc24 (hF.ev rfl) (hS.box (i := 0) rfl rfl)) ?_; clear hF a; intro a hF
  refine wl_mvs (A := [_]) hF rfl ?_; clear hF a; intro a hF
  refine wl_call hF rfl rfl rfl (r_call2 en29 (hF.ev rfl) (hF.ev rfl)) (szIntS_c (hS.rd r0) (by omega) (by omega)) ?_; clear hF a; rintro v w2 a ⟨⟨r8, rfl, e1_8, e2_8, e3_8⟩, hB_⟩ hF; replace hS := hS.ext hB_; clear hB_
  refine wl_mvs (A := [_]) hF rfl ?_; clear hF a; intro a hF
  refine wl_nil (hK2 _ _ ?_)
  refine wp_seq_k fun K3 hK3 => ?_
  refine ws fun K4 hK4 => ?_
  refine wl_mvs (A := [_]) hF rfl ?_; clear hF a; intro a hF
  refine wl hF rfl rfl rfl (r_lss (hF.ev rfl) ec) ?_; clear hF a; intro a hF
  refine wl_nil (hK4 _ _ ?_)
  first | refine wc_dec (hF.ev rfl) (fun c10 => ?_) (fun c10 => ?_) | refine wc_ndec (hF.ev rfl) (fun c10 => ?_) (fun c10 => ?_) | refine wc_b (hF.ev rfl) (fun c10 => ?_) (fun c10 => ?_)
  ·
    refine ws fun K5 hK5 => ?_
    refine wl_mvs (A := [_]) hF rfl ?_; clear hF a; intro a hF
    refine wl_nil (hK5 _ _ ?_)
    refine wp_ret ?_
    try simp only [Exit.then, Exit.inBlock, ↓reduceIte]
    first | exact ret1 rfl hF rfl ⟨⟨-1, rfl, by omega, by omega, by omega⟩, hS.old⟩ | exact ret1 rfl hF rfl ⟨⟨_, rfl, by omega, by omega, fun h => by unfold Sl.Thread.size; omega⟩, hS.old⟩
  refine wp_skip ?_
  refine hK3 _ _ ?_
  refine ws fun K6 hK6 => ?_
  refine wl hF rfl rfl rfl (r_field fo75_12 (hF.ev rfl)) ?_; clear hF a; intro a hF
  refine wl hF rfl rfl rfl (r_load1 sc24 (hF.ev rfl) (hS.box (i := 0) rfl rfl)) ?_; clear hF a; intro a hF
  refine wl_mvs (A := [_]) hF rfl ?_; clear hF a; intro a hF
  refine wl_call hF rfl rfl rfl (r_call2 en29 (hF.ev rfl) (hF.ev rfl)) (szIntS_c (hS.rd r1) (by omega) (by omega)) ?_; clear hF a; rintro v w3 a ⟨⟨r14, rfl, e1_14, e2_14, e3_14⟩, hB_⟩ hF; replace hS := hS.ext hB_; clear hB_
  refine wl_mvs (A := [_]) hF rfl ?_; clear hF a; intro a hF
  refine wl_nil (hK6 _ _ ?_)
  refine wp_seq_k fun K7 hK7 => ?_
  refine ws fun K8 hK8 => ?_
  refine wl_mvs (A := [_]) hF rfl ?_; clear hF a; intro a hF
  refine wl hF rfl rfl rfl (r_lss (hF.ev rfl) ec) ?_; clear hF a; intro a hF
  refine wl_nil (hK8 _ _ ?_)
  first | refine wc_dec (hF.ev rfl) (fun c16 => ?_) (fun c16 => ?_) | refine wc_ndec (hF.ev rfl) (fun c16 => ?_) (fun c16 => ?_) | refine wc_b (hF.ev rfl) (fun c16 => ?_) (fun c16 => ?_)
  ·
    refine ws fun K9 hK9 => ?_
    refine wl_mvs (A := [_]) hF rfl ?_; clear hF a; intro a hF
    refine wl_nil (hK9 _ _ ?_)
    refine wp_ret ?_
    try simp only [Exit.then, Exit.inBlock, ↓reduceIte]
    first | exact ret1 rfl hF rfl ⟨⟨-1, rfl, by omega, by omega, by omega⟩, hS.old⟩ | exact ret1 rfl hF rfl ⟨⟨_, rfl, by omega, by omega, fun h => by unfold Sl.Thread.size; omega⟩, hS.old⟩
  refine wp_skip ?_
  refine hK7 _ _ ?_
  refine ws fun K10 hK10 => ?_
  refine wl hF rfl rfl rfl (r_field fo75_13 (hF.ev rfl)) ?_; clear hF a; intro a hF
  refine wl hF rfl rfl rfl (r_load1 sc73 (hF.ev rfl) (hS.box (i := 0) rfl rfl)) ?_; clear hF a; intro a hF
  refine wl_mvs (A := [_]) hF rfl ?_; clear hF a; intro a hF
  refine wl_call hF rfl rfl rfl (r_call2 en130 (hF.ev rfl) (hF.ev rfl)) (szEntryS_c (hS.rd r2) (by omega) (by omega)) ?_; clear hF a; rintro v w4 a ⟨⟨r20, rfl, e1_20, e2_20, e3_20⟩, hB_⟩ hF; replace hS := hS.ext hB_; clear hB_
  refine wl_mvs (A := [_]) hF rfl ?_; clear hF a; intro a hF
  refine wl_nil (hK10 _ _ ?_)
  refine wp_seq_k fun K11 hK11 => ?_
  refine ws fun K12 hK12 => ?_
  refine wl_mvs (A := [_]) hF rfl ?_; clear hF a; intro a hF
  refine wl hF rfl rfl rfl (r_lss (hF.ev rfl) ec) ?_; clear hF a; intro a hF
  refine wl_nil (hK12 _ _ ?_)
  first | refine wc_dec (hF.ev rfl) (fun c22 => ?_) (fun c22 => ?_) | refine wc_ndec (hF.ev rfl) (fun c22 => ?_) (fun c22 => ?_) | refine wc_b (hF.ev rfl) (fun c22 => ?_) (fun c22 => ?_)
  ·
    refine ws fun K13 hK13 => ?_
    refine wl_mvs (A := [_]) hF rfl ?_; clear hF a; intro a hF
    refine wl_nil (hK13 _ _ ?_)
    refine wp_ret ?_
    try simp only [Exit.then, Exit.inBlock, ↓reduceIte]
    first | exact ret1 rfl hF rfl ⟨⟨-1, rfl, by omega, by omega, by omega⟩, hS.old⟩ | exact ret1 rfl hF rfl ⟨⟨_, rfl, by omega, by omega, fun h => by unfold Sl.Thread.size; omega⟩, hS.old⟩
  refine wp_skip ?_
  refine hK11 _ _ ?_
  refine ws fun K14 hK14 => ?_
  refine wl hF rfl rfl rfl (r_field fo75_14 (hF.ev rfl)) ?_; clear hF a; intro a hF
  refine wl hF rfl rfl rfl (r_load1 sc73 (hF.ev rfl) (hS.box (i := 0) rfl rfl)) ?_; clear hF a; intro a hF
  refine wl_mvs (A := [_]) hF rfl ?_; clear hF a; intro a hF
  refine wl_call hF rfl rfl rfl (r_call2 en130 (hF.ev rfl) (hF.ev rfl)) (szEntryS_c (hS.rd r3) (by omega) (by omega)) ?_; clear hF a; rintro v w5 a ⟨⟨r26, rfl, e1_26, e2_26, e3_26⟩, hB_⟩ hF; replace hS := hS.ext hB_; clear hB_
  refine wl_mvs (A := [_]) hF rfl ?_; clear hF a; intro a hF
  refine wl_nil (hK14 _ _ ?_)
  refine wp_seq_k fun K15 hK15 => ?_
  refine ws fun K16 hK16 => ?_
  refine wl_mvs (A := [_]) hF rfl ?_; clear hF a; intro a hF
  refine wl hF rfl rfl rfl (r_lss (hF.ev rfl) ec) ?_; clear hF a; intro a hF
  refine wl_nil (hK16 _ _ ?_)
  first | refine wc_dec (hF.ev rfl) (fun c28 => ?_) (fun c28 => ?_) | refine wc_ndec (hF.ev rfl) (fun c28 => ?_) (fun c28 => ?_) | refine wc_b (hF.ev rfl) (fun c28 => ?_) (fun c28 => ?_)
  ·
    refine ws fun K17 hK17 => ?_
    refine wl_mvs (A := [_]) hF rfl ?_; clear hF a; intro a hF
    refine wl_nil (hK17 _ _ ?_)
    refine wp_ret ?_
    try simp only [Exit.then, Exit.inBlock, ↓reduceIte]
    first | exact ret1 rfl hF rfl ⟨⟨-1, rfl, by omega, by omega, by omega⟩, hS.old⟩ | exact ret1 rfl hF rfl ⟨⟨_, rfl, by omega, by omega, fun h => by unfold Sl.Thread.size; omega⟩, hS.old⟩
  refine wp_skip ?_
  refine hK15 _ _ ?_
  refine ws fun K18 hK18 => ?_
  refine wl hF rfl rfl rfl (r_field fo75_15 (hF.ev rfl)) ?_; clear hF a; intro a hF
  refine wl hF rfl rfl rfl (r_load1 sc24 (hF.ev rfl) (hS.box (i := 0) rfl rfl)) ?_; clear hF a; intro a hF
  refine wl_mvs (A := [_]) hF rfl ?_; clear hF a; intro a hF
  refine wl_call hF rfl rfl rfl (r_call2 en29 (hF.ev rfl) (hF.ev rfl)) (szIntS_c (hS.rd r4) (by omega) (by omega)) ?_; clear hF a; rintro v w6 a ⟨⟨r32, rfl, e1_32, e2_32, e3_32⟩, hB_⟩ hF; replace hS := hS.ext hB_; clear hB_
  refine wl_mvs (A := [_]) hF rfl ?_; clear hF a; intro a hF
  refine wl_nil (hK18 _ _ ?_)
  refine wp_seq_k fun K19 hK19 => ?_
  refine ws fun K20 hK20 => ?_
  refine wl_mvs (A := [_]) hF rfl ?_; clear hF a; intro a hF
  refine wl hF rfl rfl rfl (r_lss (hF.ev rfl) ec) ?_; clear hF a; intro a hF
  refine wl_nil (hK20 _ _ ?_)
  first | refine wc_dec (hF.ev rfl) (fun c34 => ?_) (fun c34 => ?_) | refine wc_ndec (hF.ev rfl) (fun c34 => ?_) (fun c34 => ?_) | refine wc_b (hF.ev rfl) (fun c34 => ?_) (fun c34 => ?_)
  ·
    refine ws fun K21 hK21 => ?_
    refine wl_mvs (A := [_]) hF rfl ?_; clear hF a; intro a hF
    refine wl_nil (hK21 _ _ ?_)
    refine wp_ret ?_
    try simp only [Exit.then, Exit.inBlock, ↓reduceIte]
    first | exact ret1 rfl hF rfl ⟨⟨-1, rfl, by omega, by omega, by omega⟩, hS.old⟩ | exact ret1 rfl hF rfl ⟨⟨_, rfl, by omega, by omega, fun h => by unfold Sl.Thread.size; omega⟩, hS.old⟩
  refine wp_skip ?_
  refine hK19 _ _ ?_
  refine ws fun K22 hK22 => ?_
  refine wl_mvs (A := [_, _]) hF rfl ?_; clear hF a; intro a hF
  refine wl_nil (hK22 _ _ ?_)
  refine wp_ret ?_
  try simp only [Exit.then, Exit.inBlock, ↓reduceIte]
  first | exact ret1 rfl hF rfl ⟨⟨-1, rfl, by omega, by omega, by omega⟩, hS.old⟩ | exact ret1 rfl hF rfl ⟨⟨_, rfl, by omega, by omega, fun h => by unfold Sl.Thread.size; omega⟩, hS.old⟩
set_option maxHeartbeats 4000000 in
set_option maxRecDepth 20000 in
theorem toThread_c {W : World} {t : Sl.Thread} {cs : List Value} (hm : threadEK.K W t cs) (hz : t.size ≤ 1048576) : Calls Tryz.prog 72 #[.agg cs.toArray] W (Ret (Mk W (fun vs => .agg (threadEK.cells t vs).toArray) (fun vs => [Part threadEK t vs]))) := by
  refine calls_fr Tryz.func72 rfl Tryz.ntmps72 rfl ?_
  intro a hF
  obtain ⟨v0, v1, v2, v3, v4, rfl, r0, r1, r2, r3, r4⟩ := hm
  unfold Sl.Thread.size at hz
  have hS := Sep.refl W
  refine ws fun K1 hK1 => ?_
  refine wl_box (cs := [_, _, _, _, _, _, _, _, _, _, _, _, _, _, _, _, _, _, _]) hF hS rfl (hF.ev rfl) rfl ?_; clear hF a; intro g1 w1 a hS_ hB_ hF; replace hS := hS_; clear hS_ hB_
  refine wl_alloc hF hS rfl zr53 ?_; clear hF a; intro g2 w2 a hS_ hB_ hF; replace hS := hS_; clear hS_ hB_
  refine wl_nil (hK1 _ _ ?_)
  refine ws fun K2 hK2 => ?_
  refine wl_alloc hF hS rfl zr53 ?_; clear hF a; intro g3 w3 a hS_ hB_ hF; replace hS := hS_; clear hS_ hB_
  refine wl_nil (hK2 _ _ ?_)
  refine ws fun K3 hK3 => ?_
  refine wl hF rfl rfl rfl (r_field fo75_0 (hF.ev rfl)) ?_; clear hF a; intro a hF
  refine wl hF rfl rfl rfl (r_load1 sc3 (hF.ev rfl) (hS.box (i := 2) rfl rfl)) ?_; clear hF a; intro a hF
  refine wl hF rfl rfl rfl (r_field fo53_0 (hF.ev rfl)) ?_; clear hF a; intro a hF
  refine wl_store hF hS (i := 0) rfl sz3 (hF.ev rfl) (hF.ev rfl) rfl rfl ?_; intro w4 hS_; replace hS := hS_; clear hS_; dsimp only [List.set, Nat.reduceAdd] at hS
  refine wl_nil (hK3 _ _ ?_)
  refine ws fun K4 hK4 => ?_
  refine wl hF rfl rfl rfl (r_field fo75_1 (hF.ev rfl)) ?_; clear hF a; intro a hF
  refine wl hF rfl rfl rfl (r_loadn ag71 (hF.ev rfl) (hS.boxn (vs := [_, _, _]) (i := 2) (m := 3) rfl rfl) sz71) ?_; clear hF a; intro a hF
  refine wl_call hF rfl rfl rfl (r_call1 en132 (hF.ev rfl)) (toOp_c _) ?_; clear hF a; rintro v w5 a ⟨rfl, hB_⟩ hF; replace hS := hS.ext hB_; clear hB_
  refine wl hF rfl rfl rfl (r_field fo53_1 (hF.ev rfl)) ?_; clear hF a; intro a hF
  refine wl_storen (cs' := [_, _, _, _, _, _, _, _, _, _, _, _, _, _, _, _, _, _, _]) hF hS (i := 0) rfl (hF.ev rfl) (hF.ev rfl) sz48 ⟨rfl, rfl⟩ rfl rfl ?_; intro w6 hS_; replace hS := hS_; clear hS_; dsimp only [List.set] at hS
  refine wl_nil (hK4 _ _ ?_)
  refine ws fun K5 hK5 => ?_
  refine wl hF rfl rfl rfl (r_field fo75_2 (hF.ev rfl)) ?_; clear hF a; intro a hF
  refine wl hF rfl rfl rfl (r_loadn ag72 (hF.ev rfl) (hS.boxn (vs := [_, _]) (i := 2) (m := 2) rfl rfl) sz72) ?_; clear hF a; intro a hF
  refine wl_call hF rfl rfl rfl (r_call1 en133 (hF.ev rfl)) (toResult_c _) ?_; clear hF a; rintro v w7 a ⟨rfl, hB_⟩ hF; replace hS := hS.ext hB_; clear hB_
  refine wl hF rfl rfl rfl (r_field fo53_2 (hF.ev rfl)) ?_; clear hF a; intro a hF
  refine wl_storen (cs' := [_, _, _, _, _, _, _, _, _, _, _, _, _, _, _, _, _, _, _]) hF hS (i := 0) rfl (hF.ev rfl) (hF.ev rfl) sz50 ⟨rfl, rfl⟩ rfl rfl ?_; intro w8 hS_; replace hS := hS_; clear hS_; dsimp only [List.set] at hS
  refine wl_nil (hK5 _ _ ?_)
  refine ws fun K6 hK6 => ?_
  refine wl hF rfl rfl rfl (r_field fo75_3 (hF.ev rfl)) ?_; clear hF a; intro a hF
  refine wl hF rfl rfl rfl (r_load1 sc3 (hF.ev rfl) (hS.box (i := 2) rfl rfl)) ?_; clear hF a; intro a hF
  refine wl hF rfl rfl rfl (r_field fo53_3 (hF.ev rfl)) ?_; clear hF a; intro a hF
  refine wl_store hF hS (i := 0) rfl sz3 (hF.ev rfl) (hF.ev rfl) rfl rfl ?_; intro w9 hS_; replace hS := hS_; clear hS_; dsimp only [List.set, Nat.reduceAdd] at hS
  refine wl_nil (hK6 _ _ ?_)
  refine ws fun K7 hK7 => ?_
  refine wl hF rfl rfl rfl (r_field fo75_4 (hF.ev rfl)) ?_; clear hF a; intro a hF
  refine wl hF rfl rfl rfl (r_load1 sc3 (hF.ev rfl) (hS.box (i := 2) rfl rfl)) ?_; clear hF a; intro a hF
  refine wl hF rfl rfl rfl (r_field fo53_4 (hF.ev rfl)) ?_; clear hF a; intro a hF
  refine wl_store hF hS (i := 0) rfl sz3 (hF.ev rfl) (hF.ev rfl) rfl rfl ?_; intro w10 hS_; replace hS := hS_; clear hS_; dsimp only [List.set, Nat.reduceAdd] at hS
  refine wl_nil (hK7 _ _ ?_)
  refine ws fun K8 hK8 => ?_
  refine wl hF rfl rfl rfl (r_field fo75_5 (hF.ev rfl)) ?_; clear hF a; intro a hF
  refine wl hF rfl rfl rfl (r_load1 sc3 (hF.ev rfl) (hS.box (i := 2) rfl rfl)) ?_; clear hF a; intro a hF
  refine wl hF rfl rfl rfl (r_field fo53_5 (hF.ev rfl)) ?_; clear hF a; intro a hF
  refine wl_store hF hS (i := 0) rfl sz3 (hF.ev rfl) (hF.ev rfl) rfl rfl ?_; intro w11 hS_; replace hS := hS_; clear hS_; dsimp only [List.set, Nat.reduceAdd] at hS
  refine wl_nil (hK8 _ _ ?_)
  refine ws fun K9 hK9 => ?_
  refine wl hF rfl rfl rfl (r_field fo75_6 (hF.ev rfl)) ?_; clear hF a; intro a hF
  refine wl hF rfl rfl rfl (r_load1 sc3 (hF.ev rfl) (hS.box (i := 2) rfl rfl)) ?_; clear hF a; intro a hF
  refine wl hF rfl rfl rfl (r_field fo53_6 (hF.ev rfl)) ?_; clear hF a; intro a hF
  refine wl_store hF hS (i := 0) rfl sz3 (hF.ev rfl) (hF.ev rfl) rfl rfl ?_; intro w12 hS_; replace hS := hS_; clear hS_; dsimp only [List.set, Nat.reduceAdd] at hS
  refine wl_nil (hK9 _ _ ?_)
  refine ws fun K10 hK10 => ?_
  refine wl hF rfl rfl rfl (r_field fo75_7 (hF.ev rfl)) ?_; clear hF a; intro a hF
  refine wl hF rfl rfl rfl (r_load1 sc3 (hF.ev rfl) (hS.box (i := 2) rfl rfl)) ?_; clear hF a; intro a hF
  refine wl hF rfl rfl rfl (r_field fo53_7 (hF.ev rfl)) ?_; clear hF a; intro a hF
  refine wl_store hF hS (i := 0) rfl sz3 (hF.ev rfl) (hF.ev rfl) rfl rfl ?_; intro w13 hS_; replace hS := hS_; clear hS_; dsimp only [List.set, Nat.reduceAdd] at hS
  refine wl_nil (hK10 _ _ ?_)
  refine ws fun K11 hK11 => ?_
  refine wl hF rfl rfl rfl (r_field fo75_8 (hF.ev rfl)) ?_; clear hF a; intro a hF
  refine wl hF rfl rfl rfl (r_load1 sc3 (hF.ev rfl) (hS.box (i := 2) rfl rfl)) ?_; clear hF a; intro a hF
  refine wl hF rfl rfl rfl (r_field fo53_8 (hF.ev rfl)) ?_; clear hF a; intro a hF
  refine wl_store hF hS (i := 0) rfl sz3 (hF.ev rfl) (hF.ev rfl) rfl rfl ?_; intro w14 hS_; replace hS := hS_; clear hS_; dsimp only [List.set, Nat.reduceAdd] at hS
  refine wl_nil (hK11 _ _ ?_)
  refine ws fun K12 hK12 => ?_
  refine wl hF rfl rfl rfl (r_field fo75_9 (hF.ev rfl)) ?_; clear hF a; intro a hF
  refine wl hF rfl rfl rfl (r_load1 sc3 (hF.ev rfl) (hS.box (i := 2) rfl rfl)) ?_; clear hF a; intro a hF
  refine wl hF rfl rfl rfl (r_field fo53_9 (hF.ev rfl)) ?_; clear hF a; intro a hF
  refine wl_store hF hS (i := 0) rfl sz3 (hF.ev rfl) (hF.ev rfl) rfl rfl ?_; intro w15 hS_; replace hS := hS_; clear hS_; dsimp only [List.set, Nat.reduceAdd] at hS
  refine wl_nil (hK12 _ _ ?_)
  refine ws fun K13 hK13 => ?_
  refine wl hF rfl rfl rfl (r_field fo75_10 (hF.ev rfl)) ?_; clear hF a; intro a hF
  refine wl hF rfl rfl rfl (r_load1 sc3 (hF.ev rfl) (hS.box (i := 2) rfl rfl)) ?_; clear hF a; intro a hF
  refine wl hF rfl rfl rfl (r_field fo53_10 (hF.ev rfl)) ?_; clear hF a; intro a hF
  refine wl_store hF hS (i := 0) rfl sz3 (hF.ev rfl) (hF.ev rfl) rfl rfl ?_; intro w16 hS_; replace hS := hS_; clear hS_; dsimp only [List.set, Nat.reduceAdd] at hS
  refine wl_nil (hK13 _ _ ?_)
  refine ws fun K14 hK14 => ?_
  refine wl hF rfl rfl rfl (r_field fo75_11 (hF.ev rfl)) ?_; clear hF a; intro a hF
  refine wl hF rfl rfl rfl (r_load1 sc24 (hF.ev rfl) (hS.box (i := 2) rfl rfl)) ?_; clear hF a; intro a hF
  refine wl_mk hF hS rfl rfl rfl (r_call1 en36 (hF.ev rfl)) (toIntS_c (hS.rd r0) (by omega)) ?_; clear hF a; rintro s41 w17 a hS_ hF; replace hS := hS_; clear hS_; dsimp only [List.cons_append, List.nil_append] at hS
  refine wl hF rfl rfl rfl (r_field fo53_11 (hF.ev rfl)) ?_; clear hF a; intro a hF
  refine wl_store hF hS (i := 1) rfl sz24 (hF.ev rfl) (hF.ev rfl) rfl rfl ?_; intro w18 hS_; replace hS := hS_; clear hS_; dsimp only [List.set, Nat.reduceAdd] at hS
  refine wl_nil (hK14 _ _ ?_)
  refine ws fun K15 hK15 => ?_
  refine wl hF rfl rfl rfl (r_field fo75_12 (hF.ev rfl)) ?_; clear hF a; intro a hF
  refine wl hF rfl rfl rfl (r_load1 sc24 (hF.ev rfl) (hS.box (i := 3) rfl rfl)) ?_; clear hF a; intro a hF
  refine wl_mk hF hS rfl rfl rfl (r_call1 en36 (hF.ev rfl)) (toIntS_c (hS.rd r1) (by omega)) ?_; clear hF a; rintro s45 w19 a hS_ hF; replace hS := hS_; clear hS_; dsimp only [List.cons_append, List.nil_append] at hS
  refine wl hF rfl rfl rfl (r_field fo53_12 (hF.ev rfl)) ?_; clear hF a; intro a hF
  refine wl_store hF hS (i := 2) rfl sz24 (hF.ev rfl) (hF.ev rfl) rfl rfl ?_; intro w20 hS_; replace hS := hS_; clear hS_; dsimp only [List.set, Nat.reduceAdd] at hS
  refine wl_nil (hK15 _ _ ?_)
  refine ws fun K16 hK16 => ?_
  refine wl hF rfl rfl rfl (r_field fo75_13 (hF.ev rfl)) ?_; clear hF a; intro a hF
  refine wl hF rfl rfl rfl (r_load1 sc73 (hF.ev rfl) (hS.box (i := 4) rfl rfl)) ?_; clear hF a; intro a hF
  refine wl_mk hF hS rfl rfl rfl (r_call1 en134 (hF.ev rfl)) (toEntryS_c (hS.rd r2) (by omega)) ?_; clear hF a; rintro s49 w21 a hS_ hF; replace hS := hS_; clear hS_; dsimp only [List.cons_append, List.nil_append] at hS
  refine wl hF rfl rfl rfl (r_field fo53_13 (hF.ev rfl)) ?_; clear hF a; intro a hF
  refine wl_store hF hS (i := 3) rfl sz51 (hF.ev rfl) (hF.ev rfl) rfl rfl ?_; intro w22 hS_; replace hS := hS_; clear hS_; dsimp only [List.set, Nat.reduceAdd] at hS
  refine wl_nil (hK16 _ _ ?_)
  refine ws fun K17 hK17 => ?_
  refine wl hF rfl rfl rfl (r_field fo75_14 (hF.ev rfl)) ?_; clear hF a; intro a hF
  refine wl hF rfl rfl rfl (r_load1 sc73 (hF.ev rfl) (hS.box (i := 5) rfl rfl)) ?_; clear hF a; intro a hF
  refine wl_mk hF hS rfl rfl rfl (r_call1 en134 (hF.ev rfl)) (toEntryS_c (hS.rd r3) (by omega)) ?_; clear hF a; rintro s53 w23 a hS_ hF; replace hS := hS_; clear hS_; dsimp only [List.cons_append, List.nil_append] at hS
  refine wl hF rfl rfl rfl (r_field fo53_14 (hF.ev rfl)) ?_; clear hF a; intro a hF
  refine wl_store hF hS (i := 4) rfl sz51 (hF.ev rfl) (hF.ev rfl) rfl rfl ?_; intro w24 hS_; replace hS := hS_; clear hS_; dsimp only [List.set, Nat.reduceAdd] at hS
  refine wl_nil (hK17 _ _ ?_)
  refine ws fun K18 hK18 => ?_
  refine wl hF rfl rfl rfl (r_field fo75_15 (hF.ev rfl)) ?_; clear hF a; intro a hF
  refine wl hF rfl rfl rfl (r_load1 sc24 (hF.ev rfl) (hS.box (i := 6) rfl rfl)) ?_; clear hF a; intro a hF
  refine wl_mk hF hS rfl rfl rfl (r_call1 en36 (hF.ev rfl)) (toIntS_c (hS.rd r4) (by omega)) ?_; clear hF a; rintro s57 w25 a hS_ hF; replace hS := hS_; clear hS_; dsimp only [List.cons_append, List.nil_append] at hS
  refine wl hF rfl rfl rfl (r_field fo53_15 (hF.ev rfl)) ?_; clear hF a; intro a hF
  refine wl_store hF hS (i := 5) rfl sz24 (hF.ev rfl) (hF.ev rfl) rfl rfl ?_; intro w26 hS_; replace hS := hS_; clear hS_; dsimp only [List.set, Nat.reduceAdd] at hS
  refine wl_nil (hK18 _ _ ?_)
  refine ws fun K19 hK19 => ?_
  refine wl hF rfl rfl rfl (r_loadn ag53 (hF.ev rfl) (hS.box_rd (i := 5) rfl) sz53) ?_; clear hF a; intro a hF
  refine wl_storew hF hS (i := 6) rfl (hF.ev rfl) (hF.ev rfl) sz53 rfl rfl ?_; intro w27 hS_; replace hS := hS_; clear hS_; dsimp only [List.set, Nat.reduceAdd] at hS
  refine wl_nil (hK19 _ _ ?_)
  refine wp_ret ?_
  try simp only [Exit.then, Exit.inBlock, ↓reduceIte]
  exact ret1c rfl ag53 hF hS (i := 6) rfl sz53 rfl ⟨[s41, s45, s49, s53, s57], rfl, hS.part_of [4, 3, 2, 1, 0] (by decide) rfl⟩
set_option maxHeartbeats 4000000 in
set_option maxRecDepth 20000 in
theorem eqThread_c {W : World} {x y : Sl.Thread} {cs ds : List Value} (hx : threadEK.K W x cs) (hy : threadEK.K W y ds) : Calls Tryz.prog 84 #[.agg cs.toArray, .agg ds.toArray] W (Ret fun v w' => v = .bool (decide (x = y)) ∧ Below W.heap.size W w') := by
  refine calls_fr Tryz.func84 rfl Tryz.ntmps84 rfl ?_
  intro a hF
  obtain ⟨v0, v1, v2, v3, v4, rfl, r0, r1, r2, r3, r4⟩ := hx
  obtain ⟨u0, u1, u2, u3, u4, rfl, q0, q1, q2, q3, q4⟩ := hy
  have hS := Sep.refl W
  refine ws fun K1 hK1 => ?_
  refine wl_box (cs := [_, _, _, _, _, _, _, _, _, _, _, _, _, _, _, _, _, _, _]) hF hS rfl (hF.ev rfl) rfl ?_; clear hF a; intro g1 w1 a hS_ hB_ hF; replace hS := hS_; clear hS_ hB_
  refine wl_box (cs := [_, _, _, _, _, _, _, _, _, _, _, _, _, _, _, _, _, _, _]) hF hS rfl (hF.ev rfl) rfl ?_; clear hF a; intro g2 w2 a hS_ hB_ hF; replace hS := hS_; clear hS_ hB_
  refine wl_mvs (A := [_]) hF rfl ?_; clear hF a; intro a hF
  refine wl_nil (hK1 _ _ ?_)
  refine wp_seq_k fun K2 hK2 => ?_
  refine ws fun K3 hK3 => ?_
  refine wl hF rfl rfl rfl (r_field fo53_0 (hF.ev rfl)) ?_; clear hF a; intro a hF
  refine wl hF rfl rfl rfl (r_load1 sc3 (hF.ev rfl) (hS.box (i := 1) rfl rfl)) ?_; clear hF a; intro a hF
  refine wl hF rfl rfl rfl (r_field fo53_0 (hF.ev rfl)) ?_; clear hF a; intro a hF
  refine wl hF rfl rfl rfl (r_load1 sc3 (hF.ev rfl) (hS.box (i := 0) rfl rfl)) ?_; clear hF a; intro a hF
  refine wl hF rfl rfl rfl (r_neq (hF.ev rfl) (hF.ev rfl)) ?_; clear hF a; intro a hF
  refine wl_nil (hK3 _ _ ?_)
  first | refine wc_dec (hF.ev rfl) (fun c9 => ?_) (fun c9 => ?_) | refine wc_ndec (hF.ev rfl) (fun c9 => ?_) (fun c9 => ?_) | refine wc_b (hF.ev rfl) (fun c9 => ?_) (fun c9 => ?_)
  ·
    refine ws fun K4 hK4 => ?_
    refine wl_mvs (A := [_]) hF rfl ?_; clear hF a; intro a hF
    refine wl_nil (hK4 _ _ ?_)
    refine wp_ret ?_
    try simp only [Exit.then, Exit.inBlock, ↓reduceIte]
    refine ret1 rfl hF rfl ⟨congrArg Value.bool (Eq.symm ?_), hS.old⟩
    first | exact decide_eq_false (fun e => by subst e; first | exact c9 rfl | exact c15 rfl | exact c21 rfl | exact c26 rfl | exact c31 rfl | exact c36 rfl | exact c41 rfl | exact c46 rfl | exact c51 rfl | exact c56 rfl | exact c61 rfl | exact c67 rfl | exact c73 rfl | exact c79 rfl | exact c85 rfl | exact c91 rfl) | exact decide_eq_true (by cases x; cases y; simp only [Sl.Thread.mk.injEq]; exact ⟨c9, c15, c21, c26, c31, c36, c41, c46, c51, c56, c61, c67, c73, c79, c85, c91⟩)
  refine wp_skip ?_
  refine hK2 _ _ ?_
  refine wp_seq_k fun K5 hK5 => ?_
  refine ws fun K6 hK6 => ?_
  refine wl hF rfl rfl rfl (r_field fo53_1 (hF.ev rfl)) ?_; clear hF a; intro a hF
  refine wl hF rfl rfl rfl (r_loadn ag48 (hF.ev rfl) (hS.boxn (vs := [_, _, _]) (i := 1) (m := 3) rfl rfl) sz48) ?_; clear hF a; intro a hF
  refine wl hF rfl rfl rfl (r_field fo53_1 (hF.ev rfl)) ?_; clear hF a; intro a hF
  refine wl hF rfl rfl rfl (r_loadn ag48 (hF.ev rfl) (hS.boxn (vs := [_, _, _]) (i := 0) (m := 3) rfl rfl) sz48) ?_; clear hF a; intro a hF
  refine wl_call hF rfl rfl rfl (r_call2 en140 (hF.ev rfl) (hF.ev rfl)) (eqOp_c (x := x.op) (y := y.op)) ?_; clear hF a; rintro v w3 a ⟨rfl, hB_⟩ hF; replace hS := hS.ext hB_; clear hB_
  refine wl hF rfl rfl rfl (r_not (hF.ev rfl)) ?_; clear hF a; intro a hF
  refine wl_nil (hK6 _ _ ?_)
  first | refine wc_dec (hF.ev rfl) (fun c15 => ?_) (fun c15 => ?_) | refine wc_ndec (hF.ev rfl) (fun c15 => ?_) (fun c15 => ?_) | refine wc_b (hF.ev rfl) (fun c15 => ?_) (fun c15 => ?_)
  ·
    refine ws fun K7 hK7 => ?_
    refine wl_mvs (A := [_]) hF rfl ?_; clear hF a; intro a hF
    refine wl_nil (hK7 _ _ ?_)
    refine wp_ret ?_
    try simp only [Exit.then, Exit.inBlock, ↓reduceIte]
    refine ret1 rfl hF rfl ⟨congrArg Value.bool (Eq.symm ?_), hS.old⟩
    first | exact decide_eq_false (fun e => by subst e; first | exact c9 rfl | exact c15 rfl | exact c21 rfl | exact c26 rfl | exact c31 rfl | exact c36 rfl | exact c41 rfl | exact c46 rfl | exact c51 rfl | exact c56 rfl | exact c61 rfl | exact c67 rfl | exact c73 rfl | exact c79 rfl | exact c85 rfl | exact c91 rfl) | exact decide_eq_true (by cases x; cases y; simp only [Sl.Thread.mk.injEq]; exact ⟨c9, c15, c21, c26, c31, c36, c41, c46, c51, c56, c61, c67, c73, c79, c85, c91⟩)
  refine wp_skip ?_
  refine hK5 _ _ ?_
  refine wp_seq_k fun K8 hK8 => ?_
  refine ws fun K9 hK9 => ?_
  refine wl hF rfl rfl rfl (r_field fo53_2 (hF.ev rfl)) ?_; clear hF a; intro a hF
  refine wl hF rfl rfl rfl (r_loadn ag50 (hF.ev rfl) (hS.boxn (vs := [_, _]) (i := 1) (m := 2) rfl rfl) sz50) ?_; clear hF a; intro a hF
  refine wl hF rfl rfl rfl (r_field fo53_2 (hF.ev rfl)) ?_; clear hF a; intro a hF
  refine wl hF rfl rfl rfl (r_loadn ag50 (hF.ev rfl) (hS.boxn (vs := [_, _]) (i := 0) (m := 2) rfl rfl) sz50) ?_; clear hF a; intro a hF
  refine wl_call hF rfl rfl rfl (r_call2 en141 (hF.ev rfl) (hF.ev rfl)) (eqResult_c (x := x.result) (y := y.result)) ?_; clear hF a; rintro v w4 a ⟨rfl, hB_⟩ hF; replace hS := hS.ext hB_; clear hB_
  refine wl hF rfl rfl rfl (r_not (hF.ev rfl)) ?_; clear hF a; intro a hF
  refine wl_nil (hK9 _ _ ?_)
  first | refine wc_dec (hF.ev rfl) (fun c21 => ?_) (fun c21 => ?_) | refine wc_ndec (hF.ev rfl) (fun c21 => ?_) (fun c21 => ?_) | refine wc_b (hF.ev rfl) (fun c21 => ?_) (fun c21 => ?_)
  ·
    refine ws fun K10 hK10 => ?_
    refine wl_mvs (A := [_]) hF rfl ?_; clear hF a; intro a hF
    refine wl_nil (hK10 _ _ ?_)
    refine wp_ret ?_
    try simp only [Exit.then, Exit.inBlock, ↓reduceIte]
    refine ret1 rfl hF rfl ⟨congrArg Value.bool (Eq.symm ?_), hS.old⟩
    first | exact decide_eq_false (fun e => by subst e; first | exact c9 rfl | exact c15 rfl | exact c21 rfl | exact c26 rfl | exact c31 rfl | exact c36 rfl | exact c41 rfl | exact c46 rfl | exact c51 rfl | exact c56 rfl | exact c61 rfl | exact c67 rfl | exact c73 rfl | exact c79 rfl | exact c85 rfl | exact c91 rfl) | exact decide_eq_true (by cases x; cases y; simp only [Sl.Thread.mk.injEq]; exact ⟨c9, c15, c21, c26, c31, c36, c41, c46, c51, c56, c61, c67, c73, c79, c85, c91⟩)
  refine wp_skip ?_
  refine hK8 _ _ ?_
  refine wp_seq_k fun K11 hK11 => ?_
  refine ws fun K12 hK12 => ?_
  refine wl hF rfl rfl rfl (r_field fo53_3 (hF.ev rfl)) ?_; clear hF a; intro a hF
  refine wl hF rfl rfl rfl (r_load1 sc3 (hF.ev rfl) (hS.box (i := 1) rfl rfl)) ?_; clear hF a; intro a hF
  refine wl hF rfl rfl rfl (r_field fo53_3 (hF.ev rfl)) ?_; clear hF a; intro a hF
  refine wl hF rfl rfl rfl (r_load1 sc3 (hF.ev rfl) (hS.box (i := 0) rfl rfl)) ?_; clear hF a; intro a hF
  refine wl hF rfl rfl rfl (r_neq (hF.ev rfl) (hF.ev rfl)) ?_; clear hF a; intro a hF
  refine wl_nil (hK12 _ _ ?_)
  first | refine wc_dec (hF.ev rfl) (fun c26 => ?_) (fun c26 => ?_) | refine wc_ndec (hF.ev rfl) (fun c26 => ?_) (fun c26 => ?_) | refine wc_b (hF.ev rfl) (fun c26 => ?_) (fun c26 => ?_)
  ·
    refine ws fun K13 hK13 => ?_
    refine wl_mvs (A := [_]) hF rfl ?_; clear hF a; intro a hF
    refine wl_nil (hK13 _ _ ?_)
    refine wp_ret ?_
    try simp only [Exit.then, Exit.inBlock, ↓reduceIte]
    refine ret1 rfl hF rfl ⟨congrArg Value.bool (Eq.symm ?_), hS.old⟩
    first | exact decide_eq_false (fun e => by subst e; first | exact c9 rfl | exact c15 rfl | exact c21 rfl | exact c26 rfl | exact c31 rfl | exact c36 rfl | exact c41 rfl | exact c46 rfl | exact c51 rfl | exact c56 rfl | exact c61 rfl | exact c67 rfl | exact c73 rfl | exact c79 rfl | exact c85 rfl | exact c91 rfl) | exact decide_eq_true (by cases x; cases y; simp only [Sl.Thread.mk.injEq]; exact ⟨c9, c15, c21, c26, c31, c36, c41, c46, c51, c56, c61, c67, c73, c79, c85, c91⟩)
  refine wp_skip ?_
  refine hK11 _ _ ?_
  refine wp_seq_k fun K14 hK14 => ?_
  refine ws fun K15 hK15 => ?_
  refine wl hF rfl rfl rfl (r_field fo53_4 (hF.ev rfl)) ?_; clear hF a; intro a hF
  refine wl hF rfl rfl rfl (r_load1 sc3 (hF.ev rfl) (hS.box (i := 1) rfl rfl)) ?_; clear hF a; intro a hF
  refine wl hF rfl rfl rfl (r_field fo53_4 (hF.ev rfl)) ?_; clear hF a; intro a hF
  refine wl hF rfl rfl rfl (r_load1 sc3 (hF.ev rfl) (hS.box (i := 0) rfl rfl)) ?_; clear hF a; intro a hF
  refine wl hF rfl rfl rfl (r_neq (hF.ev rfl) (hF.ev rfl)) ?_; clear hF a; intro a hF
  refine wl_nil (hK15 _ _ ?_)
  first | refine wc_dec (hF.ev rfl) (fun c31 => ?_) (fun c31 => ?_) | refine wc_ndec (hF.ev rfl) (fun c31 => ?_) (fun c31 => ?_) | refine wc_b (hF.ev rfl) (fun c31 => ?_) (fun c31 => ?_)
  ·
    refine ws fun K16 hK16 => ?_
    refine wl_mvs (A := [_]) hF rfl ?_; clear hF a; intro a hF
    refine wl_nil (hK16 _ _ ?_)
    refine wp_ret ?_
    try simp only [Exit.then, Exit.inBlock, ↓reduceIte]
    refine ret1 rfl hF rfl ⟨congrArg Value.bool (Eq.symm ?_), hS.old⟩
    first | exact decide_eq_false (fun e => by subst e; first | exact c9 rfl | exact c15 rfl | exact c21 rfl | exact c26 rfl | exact c31 rfl | exact c36 rfl | exact c41 rfl | exact c46 rfl | exact c51 rfl | exact c56 rfl | exact c61 rfl | exact c67 rfl | exact c73 rfl | exact c79 rfl | exact c85 rfl | exact c91 rfl) | exact decide_eq_true (by cases x; cases y; simp only [Sl.Thread.mk.injEq]; exact ⟨c9, c15, c21, c26, c31, c36, c41, c46, c51, c56, c61, c67, c73, c79, c85, c91⟩)
  refine wp_skip ?_
  refine hK14 _ _ ?_
  refine wp_seq_k fun K17 hK17 => ?_
  refine ws fun K18 hK18 => ?_
  refine wl hF rfl rfl rfl (r_field fo53_5 (hF.ev rfl)) ?_; clear hF a; intro a hF
  refine wl hF rfl rfl rfl (r_load1 sc3 (hF.ev rfl) (hS.box (i := 1) rfl rfl)) ?_; clear hF a; intro a hF
  refine wl hF rfl rfl rfl (r_field fo53_5 (hF.ev rfl)) ?_; clear hF a; intro a hF
  refine wl hF rfl rfl rfl (r_load1 sc3 (hF.ev rfl) (hS.box (i := 0) rfl rfl)) ?_; clear hF a; intro a hF
  refine wl hF rfl rfl rfl (r_neq (hF.ev rfl) (hF.ev rfl)) ?_; clear hF a; intro a hF
  refine wl_nil (hK18 _ _ ?_)
  first | refine wc_dec (hF.ev rfl) (fun c36 => ?_) (fun c36 => ?_) | refine wc_ndec (hF.ev rfl) (fun c36 => ?_) (fun c36 => ?_) | refine wc_b (hF.ev rfl) (fun c36 => ?_) (fun c36 => ?_)
  ·
    refine ws fun K19 hK19 => ?_
    refine wl_mvs (A := [_]) hF rfl ?_; clear hF a; intro a hF
    refine wl_nil (hK19 _ _ ?_)
    refine wp_ret ?_
    try simp only [Exit.then, Exit.inBlock, ↓reduceIte]
    refine ret1 rfl hF rfl ⟨congrArg Value.bool (Eq.symm ?_), hS.old⟩
    first | exact decide_eq_false (fun e => by subst e; first | exact c9 rfl | exact c15 rfl | exact c21 rfl | exact c26 rfl | exact c31 rfl | exact c36 rfl | exact c41 rfl | exact c46 rfl | exact c51 rfl | exact c56 rfl | exact c61 rfl | exact c67 rfl | exact c73 rfl | exact c79 rfl | exact c85 rfl | exact c91 rfl) | exact decide_eq_true (by cases x; cases y; simp only [Sl.Thread.mk.injEq]; exact ⟨c9, c15, c21, c26, c31, c36, c41, c46, c51, c56, c61, c67, c73, c79, c85, c91⟩)
  refine wp_skip ?_
  refine hK17 _ _ ?_
  refine wp_seq_k fun K20 hK20 => ?_
  refine ws fun K21 hK21 => ?_
  refine wl hF rfl rfl rfl (r_field fo53_6 (hF.ev rfl)) ?_; clear hF a; intro a hF
  refine wl hF rfl rfl rfl (r_load1 sc3 (hF.ev rfl) (hS.box (i := 1) rfl rfl)) ?_; clear hF a; intro a hF
  refine wl hF rfl rfl rfl (r_field fo53_6 (hF.ev rfl)) ?_; clear hF a; intro a hF
  refine wl hF rfl rfl rfl (r_load1 sc3 (hF.ev rfl) (hS.box (i := 0) rfl rfl)) ?_; clear hF a; intro a hF
  refine wl hF rfl rfl rfl (r_neq (hF.ev rfl) (hF.ev rfl)) ?_; clear hF a; intro a hF
  refine wl_nil (hK21 _ _ ?_)
  first | refine wc_dec (hF.ev rfl) (fun c41 => ?_) (fun c41 => ?_) | refine wc_ndec (hF.ev rfl) (fun c41 => ?_) (fun c41 => ?_) | refine wc_b (hF.ev rfl) (fun c41 => ?_) (fun c41 => ?_)
  ·
    refine ws fun K22 hK22 => ?_
    refine wl_mvs (A := [_]) hF rfl ?_; clear hF a; intro a hF
    refine wl_nil (hK22 _ _ ?_)
    refine wp_ret ?_
    try simp only [Exit.then, Exit.inBlock, ↓reduceIte]
    refine ret1 rfl hF rfl ⟨congrArg Value.bool (Eq.symm ?_), hS.old⟩
    first | exact decide_eq_false (fun e => by subst e; first | exact c9 rfl | exact c15 rfl | exact c21 rfl | exact c26 rfl | exact c31 rfl | exact c36 rfl | exact c41 rfl | exact c46 rfl | exact c51 rfl | exact c56 rfl | exact c61 rfl | exact c67 rfl | exact c73 rfl | exact c79 rfl | exact c85 rfl | exact c91 rfl) | exact decide_eq_true (by cases x; cases y; simp only [Sl.Thread.mk.injEq]; exact ⟨c9, c15, c21, c26, c31, c36, c41, c46, c51, c56, c61, c67, c73, c79, c85, c91⟩)
  refine wp_skip ?_
  refine hK20 _ _ ?_
  refine wp_seq_k fun K23 hK23 => ?_
  refine ws fun K24 hK24 => ?_
  refine wl hF rfl rfl rfl (r_field fo53_7 (hF.ev rfl)) ?_; clear hF a; intro a hF
  refine wl hF rfl rfl rfl (r_load1 sc3 (hF.ev rfl) (hS.box (i := 1) rfl rfl)) ?_; clear hF a; intro a hF
  refine wl hF rfl rfl rfl (r_field fo53_7 (hF.ev rfl)) ?_; clear hF a; intro a hF
  refine wl hF rfl rfl rfl (r_load1 sc3 (hF.ev rfl) (hS.box (i := 0) rfl rfl)) ?_; clear hF a; intro a hF
  refine wl hF rfl rfl rfl (r_neq (hF.ev rfl) (hF.ev rfl)) ?_; clear hF a; intro a hF
  refine wl_nil (hK24 _ _ ?_)
  first | refine wc_dec (hF.ev rfl) (fun c46 => ?_) (fun c46 => ?_) | refine wc_ndec (hF.ev rfl) (fun c46 => ?_) (fun c46 => ?_) | refine wc_b (hF.ev rfl) (fun c46 => ?_) (fun c46 => ?_)
  ·
    refine ws fun K25 hK25 => ?_
    refine wl_mvs (A := [_]) hF rfl ?_; clear hF a; intro a hF
    refine wl_nil (hK25 _ _ ?_)
    refine wp_ret ?_
    try simp only [Exit.then, Exit.inBlock, ↓reduceIte]
    refine ret1 rfl hF rfl ⟨congrArg Value.bool (Eq.symm ?_), hS.old⟩
    first | exact decide_eq_false (fun e => by subst e; first | exact c9 rfl | exact c15 rfl | exact c21 rfl | exact c26 rfl | exact c31 rfl | exact c36 rfl | exact c41 rfl | exact c46 rfl | exact c51 rfl | exact c56 rfl | exact c61 rfl | exact c67 rfl | exact c73 rfl | exact c79 rfl | exact c85 rfl | exact c91 rfl) | exact decide_eq_true (by cases x; cases y; simp only [Sl.Thread.mk.injEq]; exact ⟨c9, c15, c21, c26, c31, c36, c41, c46, c51, c56, c61, c67, c73, c79, c85, c91⟩)
  refine wp_skip ?_
  refine hK23 _ _ ?_
  refine wp_seq_k fun K26 hK26 => ?_
  refine ws fun K27 hK27 => ?_
  refine wl hF rfl rfl rfl (r_field fo53_8 (hF.ev rfl)) ?_; clear hF a; intro a hF
  refine wl hF rfl rfl rfl (r_load1 sc3 (hF.ev rfl) (hS.box (i := 1) rfl rfl)) ?_; clear hF a; intro a hF
  refine wl hF rfl rfl rfl (r_field fo53_8 (hF.ev rfl)) ?_; clear hF a; intro a hF
  refine wl hF rfl rfl rfl (r_load1 sc3 (hF.ev rfl) (hS.box (i := 0) rfl rfl)) ?_; clear hF a; intro a hF
  refine wl hF rfl rfl rfl (r_neq (hF.ev rfl) (hF.ev rfl)) ?_; clear hF a; intro a hF
  refine wl_nil (hK27 _ _ ?_)
  first | refine wc_dec (hF.ev rfl) (fun c51 => ?_) (fun c51 => ?_) | refine wc_ndec (hF.ev rfl) (fun c51 => ?_) (fun c51 => ?_) | refine wc_b (hF.ev rfl) (fun c51 => ?_) (fun c51 => ?_)
  ·
    refine ws fun K28 hK28 => ?_
    refine wl_mvs (A := [_]) hF rfl ?_; clear hF a; intro a hF
    refine wl_nil (hK28 _ _ ?_)
    refine wp_ret ?_
    try simp only [Exit.then, Exit.inBlock, ↓reduceIte]
    refine ret1 rfl hF rfl ⟨congrArg Value.bool (Eq.symm ?_), hS.old⟩
    first | exact decide_eq_false (fun e => by subst e; first | exact c9 rfl | exact c15 rfl | exact c21 rfl | exact c26 rfl | exact c31 rfl | exact c36 rfl | exact c41 rfl | exact c46 rfl | exact c51 rfl | exact c56 rfl | exact c61 rfl | exact c67 rfl | exact c73 rfl | exact c79 rfl | exact c85 rfl | exact c91 rfl) | exact decide_eq_true (by cases x; cases y; simp only [Sl.Thread.mk.injEq]; exact ⟨c9, c15, c21, c26, c31, c36, c41, c46, c51, c56, c61, c67, c73, c79, c85, c91⟩)
  refine wp_skip ?_
  refine hK26 _ _ ?_
  refine wp_seq_k fun K29 hK29 => ?_
  refine ws fun K30 hK30 => ?_
  refine wl hF rfl rfl rfl (r_field fo53_9 (hF.ev rfl)) ?_; clear hF a; intro a hF
  refine wl hF rfl rfl rfl (r_load1 sc3 (hF.ev rfl) (hS.box (i := 1) rfl rfl)) ?_; clear hF a; intro a hF
  refine wl hF rfl rfl rfl (r_field fo53_9 (hF.ev rfl)) ?_; clear hF a; intro a hF
  refine wl hF rfl rfl rfl (r_load1 sc3 (hF.ev rfl) (hS.box (i := 0) rfl rfl)) ?_; clear hF a; intro a hF
  refine wl hF rfl rfl rfl (r_neq (hF.ev rfl) (hF.ev rfl)) ?_; clear hF a; intro a hF
  refine wl_nil (hK30 _ _ ?_)
  first | refine wc_dec (hF.ev rfl) (fun c56 => ?_) (fun c56 => ?_) | refine wc_ndec (hF.ev rfl) (fun c56 => ?_) (fun c56 => ?_) | refine wc_b (hF.ev rfl) (fun c56 => ?_) (fun c56 => ?_)
  ·
    refine ws fun K31 hK31 => ?_
    refine wl_mvs (A := [_]) hF rfl ?_; clear hF a; intro a hF
    refine wl_nil (hK31 _ _ ?_)
    refine wp_ret ?_
    try simp only [Exit.then, Exit.inBlock, ↓reduceIte]
    refine ret1 rfl hF rfl ⟨congrArg Value.bool (Eq.symm ?_), hS.old⟩
    first | exact decide_eq_false (fun e => by subst e; first | exact c9 rfl | exact c15 rfl | exact c21 rfl | exact c26 rfl | exact c31 rfl | exact c36 rfl | exact c41 rfl | exact c46 rfl | exact c51 rfl | exact c56 rfl | exact c61 rfl | exact c67 rfl | exact c73 rfl | exact c79 rfl | exact c85 rfl | exact c91 rfl) | exact decide_eq_true (by cases x; cases y; simp only [Sl.Thread.mk.injEq]; exact ⟨c9, c15, c21, c26, c31, c36, c41, c46, c51, c56, c61, c67, c73, c79, c85, c91⟩)
  refine wp_skip ?_
  refine hK29 _ _ ?_
  refine wp_seq_k fun K32 hK32 => ?_
  refine ws fun K33 hK33 => ?_
  refine wl hF rfl rfl rfl (r_field fo53_10 (hF.ev rfl)) ?_; clear hF a; intro a hF
  refine wl hF rfl rfl rfl (r_load1 sc3 (hF.ev rfl) (hS.box (i := 1) rfl rfl)) ?_; clear hF a; intro a hF
  refine wl hF rfl rfl rfl (r_field fo53_10 (hF.ev rfl)) ?_; clear hF a; intro a hF
  refine wl hF rfl rfl rfl (r_load1 sc3 (hF.ev rfl) (hS.box (i := 0) rfl rfl)) ?_; clear hF a; intro a hF
  refine wl hF rfl rfl rfl (r_neq (hF.ev rfl) (hF.ev rfl)) ?_; clear hF a; intro a hF
  refine wl_nil (hK33 _ _ ?_)
  first | refine wc_dec (hF.ev rfl) (fun c61 => ?_) (fun c61 => ?_) | refine wc_ndec (hF.ev rfl) (fun c61 => ?_) (fun c61 => ?_) | refine wc_b (hF.ev rfl) (fun c61 => ?_) (fun c61 => ?_)
  ·
    refine ws fun K34 hK34 => ?_
    refine wl_mvs (A := [_]) hF rfl ?_; clear hF a; intro a hF
    refine wl_nil (hK34 _ _ ?_)
    refine wp_ret ?_
    try simp only [Exit.then, Exit.inBlock, ↓reduceIte]
    refine ret1 rfl hF rfl ⟨congrArg Value.bool (Eq.symm ?_), hS.old⟩
    first | exact decide_eq_false (fun e => by subst e; first | exact c9 rfl | exact c15 rfl | exact c21 rfl | exact c26 rfl | exact c31 rfl | exact c36 rfl | exact c41 rfl | exact c46 rfl | exact c51 rfl | exact c56 rfl | exact c61 rfl | exact c67 rfl | exact c73 rfl | exact c79 rfl | exact c85 rfl | exact c91 rfl) | exact decide_eq_true (by cases x; cases y; simp only [Sl.Thread.mk.injEq]; exact ⟨c9, c15, c21, c26, c31, c36, c41, c46, c51, c56, c61, c67, c73, c79, c85, c91⟩)
  refine wp_skip ?_
  refine hK32 _ _ ?_
  refine wp_seq_k fun K35 hK35 => ?_
  refine ws fun K36 hK36 => ?_
  refine wl hF rfl rfl rfl (r_field fo53_11 (hF.ev rfl)) ?_; clear hF a; intro a hF
  refine wl hF rfl rfl rfl (r_load1 sc24 (hF.ev rfl) (hS.box (i := 1) rfl rfl)) ?_; clear hF a; intro a hF
  refine wl hF rfl rfl rfl (r_field fo53_11 (hF.ev rfl)) ?_; clear hF a; intro a hF
  refine wl hF rfl rfl rfl (r_load1 sc24 (hF.ev rfl) (hS.box (i := 0) rfl rfl)) ?_; clear hF a; intro a hF
  refine wl_call hF rfl rfl rfl (r_call2 en26 (hF.ev rfl) (hF.ev rfl)) (eqIntS_c (hS.rd r0) (hS.rd q0)) ?_; clear hF a; rintro v w5 a ⟨rfl, hB_⟩ hF; replace hS := hS.ext hB_; clear hB_
  refine wl hF rfl rfl rfl (r_not (hF.ev rfl)) ?_; clear hF a; intro a hF
  refine wl_nil (hK36 _ _ ?_)
  first | refine wc_dec (hF.ev rfl) (fun c67 => ?_) (fun c67 => ?_) | refine wc_ndec (hF.ev rfl) (fun c67 => ?_) (fun c67 => ?_) | refine wc_b (hF.ev rfl) (fun c67 => ?_) (fun c67 => ?_)
  ·
    refine ws fun K37 hK37 => ?_
    refine wl_mvs (A := [_]) hF rfl ?_; clear hF a; intro a hF
    refine wl_nil (hK37 _ _ ?_)
    refine wp_ret ?_
    try simp only [Exit.then, Exit.inBlock, ↓reduceIte]
    refine ret1 rfl hF rfl ⟨congrArg Value.bool (Eq.symm ?_), hS.old⟩
    first | exact decide_eq_false (fun e => by subst e; first | exact c9 rfl | exact c15 rfl | exact c21 rfl | exact c26 rfl | exact c31 rfl | exact c36 rfl | exact c41 rfl | exact c46 rfl | exact c51 rfl | exact c56 rfl | exact c61 rfl | exact c67 rfl | exact c73 rfl | exact c79 rfl | exact c85 rfl | exact c91 rfl) | exact decide_eq_true (by cases x; cases y; simp only [Sl.Thread.mk.injEq]; exact ⟨c9, c15, c21, c26, c31, c36, c41, c46, c51, c56, c61, c67, c73, c79, c85, c91⟩)
  refine wp_skip ?_
  refine hK35 _ _ ?_
  refine wp_seq_k fun K38 hK38 => ?_
  refine ws fun K39 hK39 => ?_
  refine wl hF rfl rfl rfl (r_field fo53_12 (hF.ev rfl)) ?_; clear hF a; intro a hF
  refine wl hF rfl rfl rfl (r_load1 sc24 (hF.ev rfl) (hS.box (i := 1) rfl rfl)) ?_; clear hF a; intro a hF
  refine wl hF rfl rfl rfl (r_field fo53_12 (hF.ev rfl)) ?_; clear hF a; intro a hF
  refine wl hF rfl rfl rfl (r_load1 sc24 (hF.ev rfl) (hS.box (i := 0) rfl rfl)) ?_; clear hF a; intro a hF
  refine wl_call hF rfl rfl rfl (r_call2 en26 (hF.ev rfl) (hF.ev rfl)) (eqIntS_c (hS.rd r1) (hS.rd q1)) ?_; clear hF a; rintro v w6 a ⟨rfl, hB_⟩ hF; replace hS := hS.ext hB_; clear hB_
  refine wl hF rfl rfl rfl (r_not (hF.ev rfl)) ?_; clear hF a; intro a hF
  refine wl_nil (hK39 _ _ ?_)
  first | refine wc_dec (hF.ev rfl) (fun c73 => ?_) (fun c73 => ?_) | refine wc_ndec (hF.ev rfl) (fun c73 => ?_) (fun c73 => ?_) | refine wc_b (hF.ev rfl) (fun c73 => ?_) (fun c73 => ?_)
  ·
    refine ws fun K40 hK40 => ?_
    refine wl_mvs (A := [_]) hF rfl ?_; clear hF a; intro a hF
    refine wl_nil (hK40 _ _ ?_)
    refine wp_ret ?_
    try simp only [Exit.then, Exit.inBlock, ↓reduceIte]
    refine ret1 rfl hF rfl ⟨congrArg Value.bool (Eq.symm ?_), hS.old⟩
    first | exact decide_eq_false (fun e => by subst e; first | exact c9 rfl | exact c15 rfl | exact c21 rfl | exact c26 rfl | exact c31 rfl | exact c36 rfl | exact c41 rfl | exact c46 rfl | exact c51 rfl | exact c56 rfl | exact c61 rfl | exact c67 rfl | exact c73 rfl | exact c79 rfl | exact c85 rfl | exact c91 rfl) | exact decide_eq_true (by cases x; cases y; simp only [Sl.Thread.mk.injEq]; exact ⟨c9, c15, c21, c26, c31, c36, c41, c46, c51, c56, c61, c67, c73, c79, c85, c91⟩)
  refine wp_skip ?_
  refine hK38 _ _ ?_
  refine wp_seq_k fun K41 hK41 => ?_
  refine ws fun K42 hK42 => ?_
  refine wl hF rfl rfl rfl (r_field fo53_13 (hF.ev rfl)) ?_; clear hF a; intro a hF
  refine wl hF rfl rfl rfl (r_load1 sc51 (hF.ev rfl) (hS.box (i := 1) rfl rfl)) ?_; clear hF a; intro a hF
  refine wl hF rfl rfl rfl (r_field fo53_13 (hF.ev rfl)) ?_; clear hF a; intro a hF
  refine wl hF rfl rfl rfl (r_load1 sc51 (hF.ev rfl) (hS.box (i := 0) rfl rfl)) ?_; clear hF a; intro a hF
  refine wl_call hF rfl rfl rfl (r_call2 en142 (hF.ev rfl) (hF.ev rfl)) (eqEntryS_c (hS.rd r2) (hS.rd q2)) ?_; clear hF a; rintro v w7 a ⟨rfl, hB_⟩ hF; replace hS := hS.ext hB_; clear hB_
  refine wl hF rfl rfl rfl (r_not (hF.ev rfl)) ?_; clear hF a; intro a hF
  refine wl_nil (hK42 _ _ ?_)
  first | refine wc_dec (hF.ev rfl) (fun c79 => ?_) (fun c79 => ?_) | refine wc_ndec (hF.ev rfl) (fun c79 => ?_) (fun c79 => ?_) | refine wc_b (hF.ev rfl) (fun c79 => ?_) (fun c79 => ?_)
  ·
    refine ws fun K43 hK43 => ?_
    refine wl_mvs (A := [_]) hF rfl ?_; clear hF a; intro a hF
    refine wl_nil (hK43 _ _ ?_)
    refine wp_ret ?_
    try simp only [Exit.then, Exit.inBlock, ↓reduceIte]
    refine ret1 rfl hF rfl ⟨congrArg Value.bool (Eq.symm ?_), hS.old⟩
    first | exact decide_eq_false (fun e => by subst e; first | exact c9 rfl | exact c15 rfl | exact c21 rfl | exact c26 rfl | exact c31 rfl | exact c36 rfl | exact c41 rfl | exact c46 rfl | exact c51 rfl | exact c56 rfl | exact c61 rfl | exact c67 rfl | exact c73 rfl | exact c79 rfl | exact c85 rfl | exact c91 rfl) | exact decide_eq_true (by cases x; cases y; simp only [Sl.Thread.mk.injEq]; exact ⟨c9, c15, c21, c26, c31, c36, c41, c46, c51, c56, c61, c67, c73, c79, c85, c91⟩)
  refine wp_skip ?_
  refine hK41 _ _ ?_
  refine wp_seq_k fun K44 hK44 => ?_
  refine ws fun K45 hK45 => ?_
  refine wl hF rfl rfl rfl (r_field fo53_14 (hF.ev rfl)) ?_; clear hF a; intro a hF
  refine wl hF rfl rfl rfl (r_load1 sc51 (hF.ev rfl) (hS.box (i := 1) rfl rfl)) ?_; clear hF a; intro a hF
  refine wl hF rfl rfl rfl (r_field fo53_14 (hF.ev rfl)) ?_; clear hF a; intro a hF
  refine wl hF rfl rfl rfl (r_load1 sc51 (hF.ev rfl) (hS.box (i := 0) rfl rfl)) ?_; clear hF a; intro a hF
  refine wl_call hF rfl rfl rfl (r_call2 en142 (hF.ev rfl) (hF.ev rfl)) (eqEntryS_c (hS.rd r3) (hS.rd q3)) ?_; clear hF a; rintro v w8 a ⟨rfl, hB_⟩ hF; replace hS := hS.ext hB_; clear hB_
  refine wl hF rfl rfl rfl (r_not (hF.ev rfl)) ?_; clear hF a; intro a hF
  refine wl_nil (hK45 _ _ ?_)
  first | refine wc_dec (hF.ev rfl) (fun c85 => ?_) (fun c85 => ?_) | refine wc_ndec (hF.ev rfl) (fun c85 => ?_) (fun c85 => ?_) | refine wc_b (hF.ev rfl) (fun c85 => ?_) (fun c85 => ?_)
  ·
    refine ws fun K46 hK46 => ?_
    refine wl_mvs (A := [_]) hF rfl ?_; clear hF a; intro a hF
    refine wl_nil (hK46 _ _ ?_)
    refine wp_ret ?_
    try simp only [Exit.then, Exit.inBlock, ↓reduceIte]
    refine ret1 rfl hF rfl ⟨congrArg Value.bool (Eq.symm ?_), hS.old⟩
    first | exact decide_eq_false (fun e => by subst e; first | exact c9 rfl | exact c15 rfl | exact c21 rfl | exact c26 rfl | exact c31 rfl | exact c36 rfl | exact c41 rfl | exact c46 rfl | exact c51 rfl | exact c56 rfl | exact c61 rfl | exact c67 rfl | exact c73 rfl | exact c79 rfl | exact c85 rfl | exact c91 rfl) | exact decide_eq_true (by cases x; cases y; simp only [Sl.Thread.mk.injEq]; exact ⟨c9, c15, c21, c26, c31, c36, c41, c46, c51, c56, c61, c67, c73, c79, c85, c91⟩)
  refine wp_skip ?_
  refine hK44 _ _ ?_
  refine wp_seq_k fun K47 hK47 => ?_
  refine ws fun K48 hK48 => ?_
  refine wl hF rfl rfl rfl (r_field fo53_15 (hF.ev rfl)) ?_; clear hF a; intro a hF
  refine wl hF rfl rfl rfl (r_load1 sc24 (hF.ev rfl) (hS.box (i := 1) rfl rfl)) ?_; clear hF a; intro a hF
  refine wl hF rfl rfl rfl (r_field fo53_15 (hF.ev rfl)) ?_; clear hF a; intro a hF
  refine wl hF rfl rfl rfl (r_load1 sc24 (hF.ev rfl) (hS.box (i := 0) rfl rfl)) ?_; clear hF a; intro a hF
  refine wl_call hF rfl rfl rfl (r_call2 en26 (hF.ev rfl) (hF.ev rfl)) (eqIntS_c (hS.rd r4) (hS.rd q4)) ?_; clear hF a; rintro v w9 a ⟨rfl, hB_⟩ hF; replace hS := hS.ext hB_; clear hB_
  refine wl hF rfl rfl rfl (r_not (hF.ev rfl)) ?_; clear hF a; intro a hF
  refine wl_nil (hK48 _ _ ?_)
  first | refine wc_dec (hF.ev rfl) (fun c91 => ?_) (fun c91 => ?_) | refine wc_ndec (hF.ev rfl) (fun c91 => ?_) (fun c91 => ?_) | refine wc_b (hF.ev rfl) (fun c91 => ?_) (fun c91 => ?_)
  ·
    refine ws fun K49 hK49 => ?_
    refine wl_mvs (A := [_]) hF rfl ?_; clear hF a; intro a hF
    refine wl_nil (hK49 _ _ ?_)
    refine wp_ret ?_
    try simp only [Exit.then, Exit.inBlock, ↓reduceIte]
    refine ret1 rfl hF rfl ⟨congrArg Value.bool (Eq.symm ?_), hS.old⟩
    first | exact decide_eq_false (fun e => by subst e; first | exact c9 rfl | exact c15 rfl | exact c21 rfl | exact c26 rfl | exact c31 rfl | exact c36 rfl | exact c41 rfl | exact c46 rfl | exact c51 rfl | exact c56 rfl | exact c61 rfl | exact c67 rfl | exact c73 rfl | exact c79 rfl | exact c85 rfl | exact c91 rfl) | exact decide_eq_true (by cases x; cases y; simp only [Sl.Thread.mk.injEq]; exact ⟨c9, c15, c21, c26, c31, c36, c41, c46, c51, c56, c61, c67, c73, c79, c85, c91⟩)
  refine wp_skip ?_
  refine hK47 _ _ ?_
  refine ws fun K50 hK50 => ?_
  refine wl_mvs (A := [_]) hF rfl ?_; clear hF a; intro a hF
  refine wl_nil (hK50 _ _ ?_)
  refine wp_ret ?_
  try simp only [Exit.then, Exit.inBlock, ↓reduceIte]
  refine ret1 rfl hF rfl ⟨congrArg Value.bool (Eq.symm ?_), hS.old⟩
  first | exact decide_eq_false (fun e => by subst e; first | exact c9 rfl | exact c15 rfl | exact c21 rfl | exact c26 rfl | exact c31 rfl | exact c36 rfl | exact c41 rfl | exact c46 rfl | exact c51 rfl | exact c56 rfl | exact c61 rfl | exact c67 rfl | exact c73 rfl | exact c79 rfl | exact c85 rfl | exact c91 rfl) | exact decide_eq_true (by cases x; cases y; simp only [Sl.Thread.mk.injEq]; exact ⟨c9, c15, c21, c26, c31, c36, c41, c46, c51, c56, c61, c67, c73, c79, c85, c91⟩)
end Go.Proofs.YtifhfodphoeeoaaGreat.Wk
namespace Go.Proofs.YtifhfodphoeeoaaGreat.Wk
open Go Go.RowKit Sl
set_option linter.unusedVariables false
set_option linter.unusedSimpArgs false
set_option maxRecDepth 20000
/-- what IsOp asks -/
def _root_.Go.Proofs.YtifhfodphoeeoaaGreat.Sl.Op.ok (o : Sl.Op) : Prop := ((o.kind = 1 ∨ o.kind = 4 ∨ o.kind = 5) ∧ o.key = 0 ∧ o.value = 0) ∨ (o.kind = 2 ∧ (0 ≤ o.key ∧ o.key ≤ 9) ∧ o.value = 0) ∨ (o.kind = 3 ∧ (0 ≤ o.key ∧ o.key ≤ 9) ∧ (0 ≤ o.value ∧ o.value ≤ 99))
instance (o : Sl.Op) : Decidable o.ok := by unfold Sl.Op.ok; infer_instance
def cellCount (c : Config) : Int := if c.ok then 2 + 3 * c.threads + c.keys + 3 * c.capacity else 0
def headCell (c : Config) (k : Int) : Int := if c.ok ∧ (0 ≤ k ∧ k ≤ c.keys - 1) then 2 + 3 * c.threads + k else -1
def nodeCell (c : Config) (i f : Int) : Int := if c.ok ∧ (0 ≤ i ∧ i ≤ c.capacity - 1) ∧ (0 ≤ f ∧ f ≤ 2) then 2 + 3 * c.threads + c.keys + 3 * i + f else -1
def isEntry (e : Entry) : Bool := isHandle e.handle && !isMarked e.handle && decide (0 ≤ e.key ∧ e.key ≤ 9) && decide (1 ≤ e.low ∧ e.low ≤ e.high) && decide (e.high ≤ 99)
def pcs : List Int := [0, 1, 2, 3, 4, 5, 10, 11, 12, 13, 14, 15, 16, 17, 18, 19, 20, 21, 30, 31, 32, 33, 34, 35, 36, 37, 38, 39, 40, 41, 42, 43, 44, 45, 46, 47, 50, 60, 61, 62, 63, 70, 80]
theorem wm1 {n : Int} (h0 : 0 ≤ n) (h1 : n ≤ 100) : IntKind.i64.wrap (n - 1) = n - 1 := w64_id (by omega) (by omega)
def pcNames : List ByteArray := [⟨#[105, 100, 108, 101]⟩, ⟨#[98, 101, 103, 105, 110, 32, 108, 111, 97, 100]⟩, ⟨#[98, 101, 103, 105, 110, 32, 97, 110, 110, 111, 117, 110, 99, 101]⟩, ⟨#[98, 101, 103, 105, 110, 32, 99, 104, 101, 99, 107]⟩, ⟨#[98, 101, 103, 105, 110, 32, 116, 105, 99, 107]⟩, ⟨#[98, 101, 103, 105, 110, 32, 99, 108, 101, 97, 114]⟩, ⟨#[119, 97, 108, 107, 32, 104, 101, 97, 100]⟩, ⟨#[119, 97, 108, 107, 32, 103, 117, 97, 114, 100]⟩, ⟨#[119, 97, 108, 107, 32, 99, 104, 101, 99, 107]⟩, ⟨#[119, 97, 108, 107, 32, 110, 101, 120, 116]⟩, ⟨#[119, 97, 108, 107, 32, 117, 110, 108, 105, 110, 107]⟩, ⟨#[119, 97, 108, 107, 32, 115, 104, 105, 102, 116]⟩, ⟨#[114, 101, 97, 100, 32, 115, 116, 97, 109, 112]⟩, ⟨#[114, 101, 97, 100, 32, 99, 108, 111, 99, 107]⟩, ⟨#[114, 101, 97, 100, 32, 104, 101, 108, 112]⟩, ⟨#[114, 101, 97, 100, 32, 118, 97, 108, 117, 101]⟩, ⟨#[114, 101, 97, 100, 32, 99, 108, 101, 97, 114]⟩, ⟨#[114, 101, 97, 100, 32, 100, 111, 110, 101]⟩, ⟨#[119, 114, 105, 116, 101, 32, 97, 114, 101, 110, 97]⟩, ⟨#[119, 114, 105, 116, 101, 32, 116, 97, 107, 101]⟩, ⟨#[119, 114, 105, 116, 101, 32, 118, 97, 108, 117, 101]⟩, ⟨#[119, 114, 105, 116, 101, 32, 114, 101, 115, 101, 116]⟩, ⟨#[119, 114, 105, 116, 101, 32, 103, 117, 97, 114, 100]⟩, ⟨#[119, 114, 105, 116, 101, 32, 104, 101, 97, 100]⟩, ⟨#[119, 114, 105, 116, 101, 32, 104, 97, 122, 97, 114, 100]⟩, ⟨#[119, 114, 105, 116, 101, 32, 99, 104, 101, 99, 107]⟩, ⟨#[119, 114, 105, 116, 101, 32, 115, 116, 97, 109, 112]⟩, ⟨#[119, 114, 105, 116, 101, 32, 99, 108, 111, 99, 107]⟩, ⟨#[119, 114, 105, 116, 101, 32, 104, 101, 108, 112]⟩, ⟨#[119, 114, 105, 116, 101, 32, 108, 105, 110, 107]⟩, ⟨#[119, 114, 105, 116, 101, 32, 112, 117, 98, 108, 105, 115, 104]⟩, ⟨#[119, 114, 105, 116, 101, 32, 111, 119, 110, 32, 99, 108, 111, 99, 107]⟩, ⟨#[119, 114, 105, 116, 101, 32, 111, 119, 110, 32, 115, 116, 97, 109, 112]⟩, ⟨#[119, 114, 105, 116, 101, 32, 114, 101, 116, 105, 114, 101]⟩, ⟨#[119, 114, 105, 116, 101, 32, 99, 108, 101, 97, 114]⟩, ⟨#[119, 114, 105, 116, 101, 32, 100, 111, 110, 101]⟩, ⟨#[115, 99, 97, 110, 32, 97, 110, 110, 111, 117, 110, 99, 101, 100]⟩, ⟨#[109, 97, 114, 107, 32, 108, 111, 97, 100]⟩, ⟨#[109, 97, 114, 107, 32, 115, 119, 97, 112]⟩, ⟨#[102, 108, 117, 115, 104, 32, 99, 108, 101, 97, 114]⟩, ⟨#[102, 108, 117, 115, 104, 32, 100, 111, 110, 101]⟩, ⟨#[115, 99, 97, 110, 32, 104, 97, 122, 97, 114, 100, 115]⟩, ⟨#[101, 110, 100, 32, 99, 108, 101, 97, 114]⟩]
theorem pcNames_ne {s : ByteArray} (h : s ∈ pcNames) : (s.data.toList == []) = false := by
  have : ∀ s ∈ pcNames, (s.data.toList == []) = false := by decide
  exact this s h
section
variable {α : Type} {xs : List α} {p : α → Bool} {x : α} {k : Nat}
theorem any_next (h : (xs.take k).any p = false) (hx : xs[k]? = some x) (hp : p x = false) : (xs.take (k + 1)).any p = false := by
  rw [List.take_add_one, hx, List.any_append, h]; simp [hp]
theorem any_at (hx : xs[k]? = some x) (hp : p x = true) : xs.any p = true := List.any_eq_true.2 ⟨x, List.mem_of_getElem? hx, hp⟩
theorem any_all (h : (xs.take k).any p = false) (hk : k ≤ xs.length) (h1 : ¬ (k : Int) < xs.length) : xs.any p = false := by
  have : k = xs.length := by omega
  subst this
  rwa [List.take_length] at h
end
set_option maxHeartbeats 4000000 in
set_option maxRecDepth 20000 in
theorem l1In_c {W : World} (x lo hi : Int) : Calls Tryz.prog 67 #[vi x, vi lo, vi hi] W (Ret fun v w' => v = .bool (decide (lo ≤ x ∧ x ≤ hi)) ∧ Below W.heap.size W w') := by
  refine calls_fr Tryz.func67 rfl Tryz.ntmps67 rfl ?_
  intro a hF
  have hS := Sep.refl W
  refine ws fun K1 hK1 => ?_
  refine wl_mvs (A := [_]) hF rfl ?_; clear hF a; intro a hF
  refine wl_nil (hK1 _ _ ?_)
  refine ws fun K2 hK2 => ?_
  refine wl_mvs (A := [_, _]) hF rfl ?_; clear hF a; intro a hF
  refine wl hF rfl rfl rfl (r_geq (hF.ev rfl) (hF.ev rfl)) ?_; clear hF a; intro a hF
  refine wl_mvs (A := [_]) hF rfl ?_; clear hF a; intro a hF
  revert hF; intro hF0; refine bsplit (t := 10) hF0 rfl (fun b10 hF => ?_) (fun b10 hF => ?_)
  ·
    clear hF0
    try simp only [decide_eq_true_eq, decide_eq_false_iff_not, Bool.not_eq_true', Bool.not_eq_false'] at b10
    refine wl_mvs (A := [_, _]) hF rfl ?_; clear hF a; intro a hF
    refine wl_take hF rfl rfl rfl rfl ?_
    refine wl hF rfl rfl rfl (r_leq (hF.ev rfl) (hF.ev rfl)) ?_; clear hF a; intro a hF
    refine wl hF rfl rfl rfl (r_pick_t (hF.ev rfl) (hF.ev rfl)) ?_; clear hF a; intro a hF
    refine wl_mvs (A := [_]) hF rfl ?_; clear hF a; intro a hF
    refine wl_nil (hK2 _ _ ?_)
    refine wp_ret ?_
    try simp only [Exit.then, Exit.inBlock, ↓reduceIte]
    refine ret1 rfl hF rfl ⟨?_, hS.old⟩
    first | exact congrArg Value.bool (decide_eq_decide.2 (by omega)) | exact (congrArg Value.bool (decide_eq_false (by omega))).symm | exact (congrArg Value.bool (decide_eq_true (by omega))).symm
  clear hF0
  try simp only [decide_eq_true_eq, decide_eq_false_iff_not, Bool.not_eq_true', Bool.not_eq_false'] at b10
  refine wl_mvs (A := [_, _, _]) hF rfl ?_; clear hF a; intro a hF
  refine wl hF rfl rfl rfl (r_pick_f (hF.ev rfl) ec) ?_; clear hF a; intro a hF
  refine wl_mvs (A := [_]) hF rfl ?_; clear hF a; intro a hF
  refine wl_nil (hK2 _ _ ?_)
  refine wp_ret ?_
  try simp only [Exit.then, Exit.inBlock, ↓reduceIte]
  refine ret1 rfl hF rfl ⟨?_, hS.old⟩
  first | exact congrArg Value.bool (decide_eq_decide.2 (by omega)) | exact (congrArg Value.bool (decide_eq_false (by omega))).symm | exact (congrArg Value.bool (decide_eq_true (by omega))).symm
set_option maxHeartbeats 4000000 in
set_option maxRecDepth 20000 in
theorem in_c {W : World} (x lo hi : Int) : Calls Tryz.prog 75 #[vi x, vi lo, vi hi] W (Ret fun v w' => v = .bool (decide (lo ≤ x ∧ x ≤ hi)) ∧ Below W.heap.size W w') := by
  refine calls_fr Tryz.func75 rfl Tryz.ntmps75 rfl ?_
  intro a hF
  have hS := Sep.refl W
  refine ws fun K1 hK1 => ?_
  refine wl_mvs (A := [_]) hF rfl ?_; clear hF a; intro a hF
  refine wl_nil (hK1 _ _ ?_)
  refine ws fun K2 hK2 => ?_
  refine wl_mvs (A := [_, _]) hF rfl ?_; clear hF a; intro a hF
  refine wl hF rfl rfl rfl (r_geq (hF.ev rfl) (hF.ev rfl)) ?_; clear hF a; intro a hF
  refine wl_mvs (A := [_]) hF rfl ?_; clear hF a; intro a hF
  revert hF; intro hF0; refine bsplit (t := 10) hF0 rfl (fun b10 hF => ?_) (fun b10 hF => ?_)
  ·
    clear hF0
    try simp only [decide_eq_true_eq, decide_eq_false_iff_not, Bool.not_eq_true', Bool.not_eq_false'] at b10
    refine wl_mvs (A := [_, _]) hF rfl ?_; clear hF a; intro a hF
    refine wl_take hF rfl rfl rfl rfl ?_
    refine wl hF rfl rfl rfl (r_leq (hF.ev rfl) (hF.ev rfl)) ?_; clear hF a; intro a hF
    refine wl hF rfl rfl rfl (r_pick_t (hF.ev rfl) (hF.ev rfl)) ?_; clear hF a; intro a hF
    refine wl_mvs (A := [_]) hF rfl ?_; clear hF a; intro a hF
    refine wl_nil (hK2 _ _ ?_)
    refine wp_ret ?_
    try simp only [Exit.then, Exit.inBlock, ↓reduceIte]
    refine ret1 rfl hF rfl ⟨?_, hS.old⟩
    first | exact congrArg Value.bool (decide_eq_decide.2 (by omega)) | exact (congrArg Value.bool (decide_eq_false (by omega))).symm | exact (congrArg Value.bool (decide_eq_true (by omega))).symm
  clear hF0
  try simp only [decide_eq_true_eq, decide_eq_false_iff_not, Bool.not_eq_true', Bool.not_eq_false'] at b10
  refine wl_mvs (A := [_, _, _]) hF rfl ?_; clear hF a; intro a hF
  refine wl hF rfl rfl rfl (r_pick_f (hF.ev rfl) ec) ?_; clear hF a; intro a hF
  refine wl_mvs (A := [_]) hF rfl ?_; clear hF a; intro a hF
  refine wl_nil (hK2 _ _ ?_)
  refine wp_ret ?_
  try simp only [Exit.then, Exit.inBlock, ↓reduceIte]
  refine ret1 rfl hF rfl ⟨?_, hS.old⟩
  first | exact congrArg Value.bool (decide_eq_decide.2 (by omega)) | exact (congrArg Value.bool (decide_eq_false (by omega))).symm | exact (congrArg Value.bool (decide_eq_true (by omega))).symm
set_option maxHeartbeats 4000000 in
set_option maxRecDepth 20000 in
theorem specIsConfig_c {W : World} (c : Config) : Calls Tryz.prog 114 #[.agg c.enc.toArray] W (Ret fun v w' => v = .bool (decide c.ok) ∧ Below W.heap.size W w') := by
  refine calls_fr Tryz.func114 rfl Tryz.ntmps114 rfl ?_
  intro a hF
  have hS := Sep.refl W
  refine ws fun K1 hK1 => ?_
  refine wl_box (cs := [_, _, _, _, _, _]) hF hS rfl (hF.ev rfl) rfl ?_; clear hF a; intro g1 w1 a hS_ hB_ hF; replace hS := hS_; clear hS_ hB_
  refine wl_mvs (A := [_]) hF rfl ?_; clear hF a; intro a hF
  refine wl_nil (hK1 _ _ ?_)
  refine ws fun K2 hK2 => ?_
  refine wl hF rfl rfl rfl (r_field fo29_0 (hF.ev rfl)) ?_; clear hF a; intro a hF
  refine wl hF rfl rfl rfl (r_load1 sc3 (hF.ev rfl) (hS.box (i := 0) rfl rfl)) ?_; clear hF a; intro a hF
  refine wl_call hF rfl rfl rfl (r_call3 en67 (hF.ev rfl) ec ec) (l1In_c _ _ _) ?_; clear hF a; rintro v w2 a ⟨rfl, hB_⟩ hF; replace hS := hS.ext hB_; clear hB_
  refine wl_mvs (A := [_]) hF rfl ?_; clear hF a; intro a hF
  revert hF; intro hF0; refine bsplit (t := 6) hF0 rfl (fun b6 hF => ?_) (fun b6 hF => ?_)
  ·
    clear hF0
    try simp only [decide_eq_true_eq, decide_eq_false_iff_not, Bool.not_eq_true', Bool.not_eq_false'] at b6
    refine wl_take hF rfl rfl rfl rfl ?_
    refine wl hF rfl rfl rfl (r_field fo29_1 (hF.ev rfl)) ?_; clear hF a; intro a hF
    refine wl_take hF rfl rfl rfl rfl ?_
    refine wl hF rfl rfl rfl (r_load1 sc3 (hF.ev rfl) (hS.box (i := 0) rfl rfl)) ?_; clear hF a; intro a hF
    refine wl_take hF rfl rfl rfl rfl ?_
    refine wl_call hF rfl rfl rfl (r_call3 en67 (hF.ev rfl) ec ec) (l1In_c _ _ _) ?_; clear hF a; rintro v w3 a ⟨rfl, hB_⟩ hF; replace hS := hS.ext hB_; clear hB_
    refine wl hF rfl rfl rfl (r_pick_t (hF.ev rfl) (hF.ev rfl)) ?_; clear hF a; intro a hF
    refine wl_mvs (A := [_]) hF rfl ?_; clear hF a; intro a hF
    revert hF; intro hF0; refine bsplit (t := 11) hF0 rfl (fun b11 hF => ?_) (fun b11 hF => ?_)
    ·
      clear hF0
      try simp only [decide_eq_true_eq, decide_eq_false_iff_not, Bool.not_eq_true', Bool.not_eq_false'] at b11
      refine wl_take hF rfl rfl rfl rfl ?_
      refine wl hF rfl rfl rfl (r_field fo29_2 (hF.ev rfl)) ?_; clear hF a; intro a hF
      refine wl_take hF rfl rfl rfl rfl ?_
      refine wl hF rfl rfl rfl (r_load1 sc3 (hF.ev rfl) (hS.box (i := 0) rfl rfl)) ?_; clear hF a; intro a hF
      refine wl_take hF rfl rfl rfl rfl ?_
      refine wl_call hF rfl rfl rfl (r_call3 en67 (hF.ev rfl) ec ec) (l1In_c _ _ _) ?_; clear hF a; rintro v w4 a ⟨rfl, hB_⟩ hF; replace hS := hS.ext hB_; clear hB_
      refine wl hF rfl rfl rfl (r_pick_t (hF.ev rfl) (hF.ev rfl)) ?_; clear hF a; intro a hF
      refine wl_mvs (A := [_]) hF rfl ?_; clear hF a; intro a hF
      revert hF; intro hF0; refine bsplit (t := 16) hF0 rfl (fun b16 hF => ?_) (fun b16 hF => ?_)
      ·
        clear hF0
        try simp only [decide_eq_true_eq, decide_eq_false_iff_not, Bool.not_eq_true', Bool.not_eq_false'] at b16
        refine wl_take hF rfl rfl rfl rfl ?_
        refine wl hF rfl rfl rfl (r_field fo29_3 (hF.ev rfl)) ?_; clear hF a; intro a hF
        refine wl_take hF rfl rfl rfl rfl ?_
        refine wl hF rfl rfl rfl (r_load1 sc3 (hF.ev rfl) (hS.box (i := 0) rfl rfl)) ?_; clear hF a; intro a hF
        refine wl_take hF rfl rfl rfl rfl ?_
        refine wl_call hF rfl rfl rfl (r_call3 en67 (hF.ev rfl) ec ec) (l1In_c _ _ _) ?_; clear hF a; rintro v w5 a ⟨rfl, hB_⟩ hF; replace hS := hS.ext hB_; clear hB_
        refine wl hF rfl rfl rfl (r_pick_t (hF.ev rfl) (hF.ev rfl)) ?_; clear hF a; intro a hF
        refine wl_mvs (A := [_]) hF rfl ?_; clear hF a; intro a hF
        revert hF; intro hF0; refine bsplit (t := 21) hF0 rfl (fun b21 hF => ?_) (fun b21 hF => ?_)
        ·
          clear hF0
          try simp only [decide_eq_true_eq, decide_eq_false_iff_not, Bool.not_eq_true', Bool.not_eq_false'] at b21
          refine wl_take hF rfl rfl rfl rfl ?_
          refine wl hF rfl rfl rfl (r_field fo29_4 (hF.ev rfl)) ?_; clear hF a; intro a hF
          refine wl_take hF rfl rfl rfl rfl ?_
          refine wl hF rfl rfl rfl (r_load1 sc3 (hF.ev rfl) (hS.box (i := 0) rfl rfl)) ?_; clear hF a; intro a hF
          refine wl_take hF rfl rfl rfl rfl ?_
          refine wl_call hF rfl rfl rfl (r_call3 en67 (hF.ev rfl) ec ec) (l1In_c _ _ _) ?_; clear hF a; rintro v w6 a ⟨rfl, hB_⟩ hF; replace hS := hS.ext hB_; clear hB_
          refine wl hF rfl rfl rfl (r_pick_t (hF.ev rfl) (hF.ev rfl)) ?_; clear hF a; intro a hF
          refine wl_mvs (A := [_]) hF rfl ?_; clear hF a; intro a hF
          revert hF; intro hF0; refine bsplit (t := 26) hF0 rfl (fun b26 hF => ?_) (fun b26 hF => ?_)
          ·
            clear hF0
            try simp only [decide_eq_true_eq, decide_eq_false_iff_not, Bool.not_eq_true', Bool.not_eq_false'] at b26
            refine wl_take hF rfl rfl rfl rfl ?_
            refine wl hF rfl rfl rfl (r_field fo29_5 (hF.ev rfl)) ?_; clear hF a; intro a hF
            refine wl_take hF rfl rfl rfl rfl ?_
            refine wl hF rfl rfl rfl (r_load1 sc3 (hF.ev rfl) (hS.box (i := 0) rfl rfl)) ?_; clear hF a; intro a hF
            refine wl_take hF rfl rfl rfl rfl ?_
            refine wl_call hF rfl rfl rfl (r_call3 en67 (hF.ev rfl) ec ec) (l1In_c _ _ _) ?_; clear hF a; rintro v w7 a ⟨rfl, hB_⟩ hF; replace hS := hS.ext hB_; clear hB_
            refine wl hF rfl rfl rfl (r_pick_t (hF.ev rfl) (hF.ev rfl)) ?_; clear hF a; intro a hF
            refine wl_mvs (A := [_]) hF rfl ?_; clear hF a; intro a hF
            refine wl_nil (hK2 _ _ ?_)
            refine wp_ret ?_
            try simp only [Exit.then, Exit.inBlock, ↓reduceIte]
            refine ret1 rfl hF rfl ⟨?_, hS.old⟩
            first | exact congrArg Value.bool (decide_eq_decide.2 (by unfold Config.ok; omega)) | exact (congrArg Value.bool (decide_eq_false (by unfold Config.ok; omega))).symm | exact (congrArg Value.bool (decide_eq_true (by unfold Config.ok; omega))).symm
          clear hF0
          try simp only [decide_eq_true_eq, decide_eq_false_iff_not, Bool.not_eq_true', Bool.not_eq_false'] at b26
          refine wl_mvs (A := [_, _, _]) hF rfl ?_; clear hF a; intro a hF
          refine wl hF rfl rfl rfl (r_pick_f (hF.ev rfl) ec) ?_; clear hF a; intro a hF
          refine wl_mvs (A := [_]) hF rfl ?_; clear hF a; intro a hF
          refine wl_nil (hK2 _ _ ?_)
          refine wp_ret ?_
          try simp only [Exit.then, Exit.inBlock, ↓reduceIte]
          refine ret1 rfl hF rfl ⟨?_, hS.old⟩
          first | exact congrArg Value.bool (decide_eq_decide.2 (by unfold Config.ok; omega)) | exact (congrArg Value.bool (decide_eq_false (by unfold Config.ok; omega))).symm | exact (congrArg Value.bool (decide_eq_true (by unfold Config.ok; omega))).symm
        clear hF0
        try simp only [decide_eq_true_eq, decide_eq_false_iff_not, Bool.not_eq_true', Bool.not_eq_false'] at b21
        refine wl_mvs (A := [_, _, _]) hF rfl ?_; clear hF a; intro a hF
        refine wl hF rfl rfl rfl (r_pick_f (hF.ev rfl) ec) ?_; clear hF a; intro a hF
        refine wl_mvs (A := [_, _, _, _]) hF rfl ?_; clear hF a; intro a hF
        refine wl hF rfl rfl rfl (r_pick_f (hF.ev rfl) ec) ?_; clear hF a; intro a hF
        refine wl_mvs (A := [_]) hF rfl ?_; clear hF a; intro a hF
        refine wl_nil (hK2 _ _ ?_)
        refine wp_ret ?_
        try simp only [Exit.then, Exit.inBlock, ↓reduceIte]
        refine ret1 rfl hF rfl ⟨?_, hS.old⟩
        first | exact congrArg Value.bool (decide_eq_decide.2 (by unfold Config.ok; omega)) | exact (congrArg Value.bool (decide_eq_false (by unfold Config.ok; omega))).symm | exact (congrArg Value.bool (decide_eq_true (by unfold Config.ok; omega))).symm
      clear hF0
      try simp only [decide_eq_true_eq, decide_eq_false_iff_not, Bool.not_eq_true', Bool.not_eq_false'] at b16
      refine wl_mvs (A := [_, _, _]) hF rfl ?_; clear hF a; intro a hF
      refine wl hF rfl rfl rfl (r_pick_f (hF.ev rfl) ec) ?_; clear hF a; intro a hF
      refine wl_mvs (A := [_, _, _, _]) hF rfl ?_; clear hF a; intro a hF
      refine wl hF rfl rfl rfl (r_pick_f (hF.ev rfl) ec) ?_; clear hF a; intro a hF
      refine wl_mvs (A := [_, _, _, _]) hF rfl ?_; clear hF a; intro a hF
      refine wl hF rfl rfl rfl (r_pick_f (hF.ev rfl) ec) ?_; clear hF a; intro a hF
      refine wl_mvs (A := [_]) hF rfl ?_; clear hF a; intro a hF
      refine wl_nil (hK2 _ _ ?_)
      refine wp_ret ?_
      try simp only [Exit.then, Exit.inBlock, ↓reduceIte]
      refine ret1 rfl hF rfl ⟨?_, hS.old⟩
      first | exact congrArg Value.bool (decide_eq_decide.2 (by unfold Config.ok; omega)) | exact (congrArg Value.bool (decide_eq_false (by unfold Config.ok; omega))).symm | exact (congrArg Value.bool (decide_eq_true (by unfold Config.ok; omega))).symm
    clear hF0
    try simp only [decide_eq_true_eq, decide_eq_false_iff_not, Bool.not_eq_true', Bool.not_eq_false'] at b11
    refine wl_mvs (A := [_, _, _]) hF rfl ?_; clear hF a; intro a hF
    refine wl hF rfl rfl rfl (r_pick_f (hF.ev rfl) ec) ?_; clear hF a; intro a hF
    refine wl_mvs (A := [_, _, _, _]) hF rfl ?_; clear hF a; intro a hF
    refine wl hF rfl rfl rfl (r_pick_f (hF.ev rfl) ec) ?_; clear hF a; intro a hF
    refine wl_mvs (A := [_, _, _, _]) hF rfl ?_; clear hF a; intro a hF
    refine wl hF rfl rfl rfl (r_pick_f (hF.ev rfl) ec) ?_; clear hF a; intro a hF
    refine wl_mvs (A := [_, _, _, _]) hF rfl ?_; clear hF a; intro a hF
    refine wl hF rfl rfl rfl (r_pick_f (hF.ev rfl) ec) ?_; clear hF a; intro a hF
    refine wl_mvs (A := [_]) hF rfl ?_; clear hF a; intro a hF
    refine wl_nil (hK2 _ _ ?_)
    refine wp_ret ?_
    try simp only [Exit.then, Exit.inBlock, ↓reduceIte]
    refine ret1 rfl hF rfl ⟨?_, hS.old⟩
    first | exact congrArg Value.bool (decide_eq_decide.2 (by unfold Config.ok; omega)) | exact (congrArg Value.bool (decide_eq_false (by unfold Config.ok; omega))).symm | exact (congrArg Value.bool (decide_eq_true (by unfold Config.ok; omega))).symm
  clear hF0
  try simp only [decide_eq_true_eq, decide_eq_false_iff_not, Bool.not_eq_true', Bool.not_eq_false'] at b6
  refine wl_mvs (A := [_, _, _]) hF rfl ?_; clear hF a; intro a hF
  refine wl hF rfl rfl rfl (r_pick_f (hF.ev rfl) ec) ?_; clear hF a; intro a hF
  refine wl_mvs (A := [_, _, _, _]) hF rfl ?_; clear hF a; intro a hF
  refine wl hF rfl rfl rfl (r_pick_f (hF.ev rfl) ec) ?_; clear hF a; intro a hF
  refine wl_mvs (A := [_, _, _, _]) hF rfl ?_; clear hF a; intro a hF
  refine wl hF rfl rfl rfl (r_pick_f (hF.ev rfl) ec) ?_; clear hF a; intro a hF
  refine wl_mvs (A := [_, _, _, _]) hF rfl ?_; clear hF a; intro a hF
  refine wl hF rfl rfl rfl (r_pick_f (hF.ev rfl) ec) ?_; clear hF a; intro a hF
  refine wl_mvs (A := [_, _, _, _]) hF rfl ?_; clear hF a; intro a hF
  refine wl hF rfl rfl rfl (r_pick_f (hF.ev rfl) ec) ?_; clear hF a; intro a hF
  refine wl_mvs (A := [_]) hF rfl ?_; clear hF a; intro a hF
  refine wl_nil (hK2 _ _ ?_)
  refine wp_ret ?_
  try simp only [Exit.then, Exit.inBlock, ↓reduceIte]
  refine ret1 rfl hF rfl ⟨?_, hS.old⟩
  first | exact congrArg Value.bool (decide_eq_decide.2 (by unfold Config.ok; omega)) | exact (congrArg Value.bool (decide_eq_false (by unfold Config.ok; omega))).symm | exact (congrArg Value.bool (decide_eq_true (by unfold Config.ok; omega))).symm
set_option maxHeartbeats 4000000 in
set_option maxRecDepth 20000 in
theorem implIsConfig_c {W : World} (c : Config) : Calls Tryz.prog 120 #[.agg c.enc.toArray] W (Ret fun v w' => v = .bool (decide c.ok) ∧ Below W.heap.size W w') := by
  refine calls_fr Tryz.func120 rfl Tryz.ntmps120 rfl ?_
  intro a hF
  have hS := Sep.refl W
  refine ws fun K1 hK1 => ?_
  refine wl_box (cs := [_, _, _, _, _, _]) hF hS rfl (hF.ev rfl) rfl ?_; clear hF a; intro g1 w1 a hS_ hB_ hF; replace hS := hS_; clear hS_ hB_
  refine wl_mvs (A := [_]) hF rfl ?_; clear hF a; intro a hF
  refine wl_nil (hK1 _ _ ?_)
  refine ws fun K2 hK2 => ?_
  refine wl hF rfl rfl rfl (r_field fo29_0 (hF.ev rfl)) ?_; clear hF a; intro a hF
  refine wl hF rfl rfl rfl (r_load1 sc3 (hF.ev rfl) (hS.box (i := 0) rfl rfl)) ?_; clear hF a; intro a hF
  refine wl_call hF rfl rfl rfl (r_call3 en75 (hF.ev rfl) ec ec) (in_c _ _ _) ?_; clear hF a; rintro v w2 a ⟨rfl, hB_⟩ hF; replace hS := hS.ext hB_; clear hB_
  refine wl_mvs (A := [_]) hF rfl ?_; clear hF a; intro a hF
  revert hF; intro hF0; refine bsplit (t := 6) hF0 rfl (fun b6 hF => ?_) (fun b6 hF => ?_)
  ·
    clear hF0
    try simp only [decide_eq_true_eq, decide_eq_false_iff_not, Bool.not_eq_true', Bool.not_eq_false'] at b6
    refine wl_take hF rfl rfl rfl rfl ?_
    refine wl hF rfl rfl rfl (r_field fo29_1 (hF.ev rfl)) ?_; clear hF a; intro a hF
    refine wl_take hF rfl rfl rfl rfl ?_
    refine wl hF rfl rfl rfl (r_load1 sc3 (hF.ev rfl) (hS.box (i := 0) rfl rfl)) ?_; clear hF a; intro a hF
    refine wl_take hF rfl rfl rfl rfl ?_
    refine wl_call hF rfl rfl rfl (r_call3 en75 (hF.ev rfl) ec ec) (in_c _ _ _) ?_; clear hF a; rintro v w3 a ⟨rfl, hB_⟩ hF; replace hS := hS.ext hB_; clear hB_
    refine wl hF rfl rfl rfl (r_pick_t (hF.ev rfl) (hF.ev rfl)) ?_; clear hF a; intro a hF
    refine wl_mvs (A := [_]) hF rfl ?_; clear hF a; intro a hF
    revert hF; intro hF0; refine bsplit (t := 11) hF0 rfl (fun b11 hF => ?_) (fun b11 hF => ?_)
    ·
      clear hF0
      try simp only [decide_eq_true_eq, decide_eq_false_iff_not, Bool.not_eq_true', Bool.not_eq_false'] at b11
      refine wl_take hF rfl rfl rfl rfl ?_
      refine wl hF rfl rfl rfl (r_field fo29_3 (hF.ev rfl)) ?_; clear hF a; intro a hF
      refine wl_take hF rfl rfl rfl rfl ?_
      refine wl hF rfl rfl rfl (r_load1 sc3 (hF.ev rfl) (hS.box (i := 0) rfl rfl)) ?_; clear hF a; intro a hF
      refine wl_take hF rfl rfl rfl rfl ?_
      refine wl_call hF rfl rfl rfl (r_call3 en75 (hF.ev rfl) ec ec) (in_c _ _ _) ?_; clear hF a; rintro v w4 a ⟨rfl, hB_⟩ hF; replace hS := hS.ext hB_; clear hB_
      refine wl hF rfl rfl rfl (r_pick_t (hF.ev rfl) (hF.ev rfl)) ?_; clear hF a; intro a hF
      refine wl_mvs (A := [_]) hF rfl ?_; clear hF a; intro a hF
      revert hF; intro hF0; refine bsplit (t := 16) hF0 rfl (fun b16 hF => ?_) (fun b16 hF => ?_)
      ·
        clear hF0
        try simp only [decide_eq_true_eq, decide_eq_false_iff_not, Bool.not_eq_true', Bool.not_eq_false'] at b16
        refine wl_take hF rfl rfl rfl rfl ?_
        refine wl hF rfl rfl rfl (r_field fo29_2 (hF.ev rfl)) ?_; clear hF a; intro a hF
        refine wl_take hF rfl rfl rfl rfl ?_
        refine wl hF rfl rfl rfl (r_load1 sc3 (hF.ev rfl) (hS.box (i := 0) rfl rfl)) ?_; clear hF a; intro a hF
        refine wl_take hF rfl rfl rfl rfl ?_
        refine wl_call hF rfl rfl rfl (r_call3 en75 (hF.ev rfl) ec ec) (in_c _ _ _) ?_; clear hF a; rintro v w5 a ⟨rfl, hB_⟩ hF; replace hS := hS.ext hB_; clear hB_
        refine wl hF rfl rfl rfl (r_pick_t (hF.ev rfl) (hF.ev rfl)) ?_; clear hF a; intro a hF
        refine wl_mvs (A := [_]) hF rfl ?_; clear hF a; intro a hF
        revert hF; intro hF0; refine bsplit (t := 21) hF0 rfl (fun b21 hF => ?_) (fun b21 hF => ?_)
        ·
          clear hF0
          try simp only [decide_eq_true_eq, decide_eq_false_iff_not, Bool.not_eq_true', Bool.not_eq_false'] at b21
          refine wl_take hF rfl rfl rfl rfl ?_
          refine wl hF rfl rfl rfl (r_field fo29_4 (hF.ev rfl)) ?_; clear hF a; intro a hF
          refine wl_take hF rfl rfl rfl rfl ?_
          refine wl hF rfl rfl rfl (r_load1 sc3 (hF.ev rfl) (hS.box (i := 0) rfl rfl)) ?_; clear hF a; intro a hF
          refine wl_take hF rfl rfl rfl rfl ?_
          refine wl_call hF rfl rfl rfl (r_call3 en75 (hF.ev rfl) ec ec) (in_c _ _ _) ?_; clear hF a; rintro v w6 a ⟨rfl, hB_⟩ hF; replace hS := hS.ext hB_; clear hB_
          refine wl hF rfl rfl rfl (r_pick_t (hF.ev rfl) (hF.ev rfl)) ?_; clear hF a; intro a hF
          refine wl_mvs (A := [_]) hF rfl ?_; clear hF a; intro a hF
          revert hF; intro hF0; refine bsplit (t := 26) hF0 rfl (fun b26 hF => ?_) (fun b26 hF => ?_)
          ·
            clear hF0
            try simp only [decide_eq_true_eq, decide_eq_false_iff_not, Bool.not_eq_true', Bool.not_eq_false'] at b26
            refine wl_take hF rfl rfl rfl rfl ?_
            refine wl hF rfl rfl rfl (r_field fo29_5 (hF.ev rfl)) ?_; clear hF a; intro a hF
            refine wl_take hF rfl rfl rfl rfl ?_
            refine wl hF rfl rfl rfl (r_load1 sc3 (hF.ev rfl) (hS.box (i := 0) rfl rfl)) ?_; clear hF a; intro a hF
            refine wl_take hF rfl rfl rfl rfl ?_
            refine wl_call hF rfl rfl rfl (r_call3 en75 (hF.ev rfl) ec ec) (in_c _ _ _) ?_; clear hF a; rintro v w7 a ⟨rfl, hB_⟩ hF; replace hS := hS.ext hB_; clear hB_
            refine wl hF rfl rfl rfl (r_pick_t (hF.ev rfl) (hF.ev rfl)) ?_; clear hF a; intro a hF
            refine wl_mvs (A := [_]) hF rfl ?_; clear hF a; intro a hF
            refine wl_nil (hK2 _ _ ?_)
            refine wp_ret ?_
            try simp only [Exit.then, Exit.inBlock, ↓reduceIte]
            refine ret1 rfl hF rfl ⟨?_, hS.old⟩
            first | exact congrArg Value.bool (decide_eq_decide.2 (by unfold Config.ok; omega)) | exact (congrArg Value.bool (decide_eq_false (by unfold Config.ok; omega))).symm | exact (congrArg Value.bool (decide_eq_true (by unfold Config.ok; omega))).symm
          clear hF0
          try simp only [decide_eq_true_eq, decide_eq_false_iff_not, Bool.not_eq_true', Bool.not_eq_false'] at b26
          refine wl_mvs (A := [_, _, _]) hF rfl ?_; clear hF a; intro a hF
          refine wl hF rfl rfl rfl (r_pick_f (hF.ev rfl) ec) ?_; clear hF a; intro a hF
          refine wl_mvs (A := [_]) hF rfl ?_; clear hF a; intro a hF
          refine wl_nil (hK2 _ _ ?_)
          refine wp_ret ?_
          try simp only [Exit.then, Exit.inBlock, ↓reduceIte]
          refine ret1 rfl hF rfl ⟨?_, hS.old⟩
          first | exact congrArg Value.bool (decide_eq_decide.2 (by unfold Config.ok; omega)) | exact (congrArg Value.bool (decide_eq_false (by unfold Config.ok; omega))).symm | exact (congrArg Value.bool (decide_eq_true (by unfold Config.ok; omega))).symm
        clear hF0
        try simp only [decide_eq_true_eq, decide_eq_false_iff_not, Bool.not_eq_true', Bool.not_eq_false'] at b21
        refine wl_mvs (A := [_, _, _]) hF rfl ?_; clear hF a; intro a hF
        refine wl hF rfl rfl rfl (r_pick_f (hF.ev rfl) ec) ?_; clear hF a; intro a hF
        refine wl_mvs (A := [_, _, _, _]) hF rfl ?_; clear hF a; intro a hF
        refine wl hF rfl rfl rfl (r_pick_f (hF.ev rfl) ec) ?_; clear hF a; intro a hF
        refine wl_mvs (A := [_]) hF rfl ?_; clear hF a; intro a hF
        refine wl_nil (hK2 _ _ ?_)
        refine wp_ret ?_
        try simp only [Exit.then, Exit.inBlock, ↓reduceIte]
        refine ret1 rfl hF rfl ⟨?_, hS.old⟩
        first | exact congrArg Value.bool (decide_eq_decide.2 (by unfold Config.ok; omega)) | exact (congrArg Value.bool (decide_eq_false (by unfold Config.ok; omega))).symm | exact (congrArg Value.bool (decide_eq_true (by unfold Config.ok; omega))).symm
      clear hF0
      try simp only [decide_eq_true_eq, decide_eq_false_iff_not, Bool.not_eq_true', Bool.not_eq_false'] at b16
      refine wl_mvs (A := [_, _, _]) hF rfl ?_; clear hF a; intro a hF
      refine wl hF rfl rfl rfl (r_pick_f (hF.ev rfl) ec) ?_; clear hF a; intro a hF
      refine wl_mvs (A := [_, _, _, _]) hF rfl ?_; clear hF a; intro a hF
      refine wl hF rfl rfl rfl (r_pick_f (hF.ev rfl) ec) ?_; clear hF a; intro a hF
      refine wl_mvs (A := [_, _, _, _]) hF rfl ?_; clear hF a; intro a hF
      refine wl hF rfl rfl rfl (r_pick_f (hF.ev rfl) ec) ?_; clear hF a; intro a hF
      refine wl_mvs (A := [_]) hF rfl ?_; clear hF a; intro a hF
      refine wl_nil (hK2 _ _ ?_)
      refine wp_ret ?_
      try simp only [Exit.then, Exit.inBlock, ↓reduceIte]
      refine ret1 rfl hF rfl ⟨?_, hS.old⟩
      first | exact congrArg Value.bool (decide_eq_decide.2 (by unfold Config.ok; omega)) | exact (congrArg Value.bool (decide_eq_false (by unfold Config.ok; omega))).symm | exact (congrArg Value.bool (decide_eq_true (by unfold Config.ok; omega))).symm
    clear hF0
    try simp only [decide_eq_true_eq, decide_eq_false_iff_not, Bool.not_eq_true', Bool.not_eq_false'] at b11
    refine wl_mvs (A := [_, _, _]) hF rfl ?_; clear hF a; intro a hF
    refine wl hF rfl rfl rfl (r_pick_f (hF.ev rfl) ec) ?_; clear hF a; intro a hF
    refine wl_mvs (A := [_, _, _, _]) hF rfl ?_; clear hF a; intro a hF
    refine wl hF rfl rfl rfl (r_pick_f (hF.ev rfl) ec) ?_; clear hF a; intro a hF
    refine wl_mvs (A := [_, _, _, _]) hF rfl ?_; clear hF a; intro a hF
    refine wl hF rfl rfl rfl (r_pick_f (hF.ev rfl) ec) ?_; clear hF a; intro a hF
    refine wl_mvs (A := [_, _, _, _]) hF rfl ?_; clear hF a; intro a hF
    refine wl hF rfl rfl rfl (r_pick_f (hF.ev rfl) ec) ?_; clear hF a; intro a hF
    refine wl_mvs (A := [_]) hF rfl ?_; clear hF a; intro a hF
    refine wl_nil (hK2 _ _ ?_)
    refine wp_ret ?_
    try simp only [Exit.then, Exit.inBlock, ↓reduceIte]
    refine ret1 rfl hF rfl ⟨?_, hS.old⟩
    first | exact congrArg Value.bool (decide_eq_decide.2 (by unfold Config.ok; omega)) | exact (congrArg Value.bool (decide_eq_false (by unfold Config.ok; omega))).symm | exact (congrArg Value.bool (decide_eq_true (by unfold Config.ok; omega))).symm
  clear hF0
  try simp only [decide_eq_true_eq, decide_eq_false_iff_not, Bool.not_eq_true', Bool.not_eq_false'] at b6
  refine wl_mvs (A := [_, _, _]) hF rfl ?_; clear hF a; intro a hF
  refine wl hF rfl rfl rfl (r_pick_f (hF.ev rfl) ec) ?_; clear hF a; intro a hF
  refine wl_mvs (A := [_, _, _, _]) hF rfl ?_; clear hF a; intro a hF
  refine wl hF rfl rfl rfl (r_pick_f (hF.ev rfl) ec) ?_; clear hF a; intro a hF
  refine wl_mvs (A := [_, _, _, _]) hF rfl ?_; clear hF a; intro a hF
  refine wl hF rfl rfl rfl (r_pick_f (hF.ev rfl) ec) ?_; clear hF a; intro a hF
  refine wl_mvs (A := [_, _, _, _]) hF rfl ?_; clear hF a; intro a hF
  refine wl hF rfl rfl rfl (r_pick_f (hF.ev rfl) ec) ?_; clear hF a; intro a hF
  refine wl_mvs (A := [_, _, _, _]) hF rfl ?_; clear hF a; intro a hF
  refine wl hF rfl rfl rfl (r_pick_f (hF.ev rfl) ec) ?_; clear hF a; intro a hF
  refine wl_mvs (A := [_]) hF rfl ?_; clear hF a; intro a hF
  refine wl_nil (hK2 _ _ ?_)
  refine wp_ret ?_
  try simp only [Exit.then, Exit.inBlock, ↓reduceIte]
  refine ret1 rfl hF rfl ⟨?_, hS.old⟩
  first | exact congrArg Value.bool (decide_eq_decide.2 (by unfold Config.ok; omega)) | exact (congrArg Value.bool (decide_eq_false (by unfold Config.ok; omega))).symm | exact (congrArg Value.bool (decide_eq_true (by unfold Config.ok; omega))).symm
set_option maxHeartbeats 4000000 in
set_option maxRecDepth 20000 in
theorem specIsOp_c {W : World} (o : Sl.Op) : Calls Tryz.prog 156 #[.agg o.enc.toArray] W (Ret fun v w' => v = .bool (decide o.ok) ∧ Below W.heap.size W w') := by
  refine calls_fr Tryz.func156 rfl Tryz.ntmps156 rfl ?_
  intro a hF
  have hS := Sep.refl W
  refine ws fun K1 hK1 => ?_
  refine wl_box (cs := [_, _, _]) hF hS rfl (hF.ev rfl) rfl ?_; clear hF a; intro g1 w1 a hS_ hB_ hF; replace hS := hS_; clear hS_ hB_
  refine wl_mvs (A := [_]) hF rfl ?_; clear hF a; intro a hF
  refine wl_nil (hK1 _ _ ?_)
  refine wp_seq_k fun K2 hK2 => ?_
  refine ws fun K3 hK3 => ?_
  refine wl hF rfl rfl rfl (r_field fo48_0 (hF.ev rfl)) ?_; clear hF a; intro a hF
  refine wl hF rfl rfl rfl (r_load1 sc3 (hF.ev rfl) (hS.box (i := 0) rfl rfl)) ?_; clear hF a; intro a hF
  refine wl_nil (hK3 _ _ ?_)
  refine wp_block ?_
  refine wp_seq_k fun K4 hK4 => ?_
  refine ws fun K5 hK5 => ?_
  refine wl hF rfl rfl rfl (r_eql (hF.ev rfl) ec) ?_; clear hF a; intro a hF
  refine wl_mvs (A := [_]) hF rfl ?_; clear hF a; intro a hF
  refine wl_nil (hK5 _ _ ?_)
  refine wc_fx (t := 5) hF rfl ?_ ?_ <;> clear hF <;> intro c5 hF <;> try simp only [zb1, zb2, zb3, zb4, zb5, zb6, zb7, zb8] at c5
  ·
    refine wp_skip ?_
    refine hK4 _ _ ?_
    refine wc_true (hF.ev rfl) ?_
    refine ws fun K6 hK6 => ?_
    refine wl hF rfl rfl rfl (r_field fo48_1 (hF.ev rfl)) ?_; clear hF a; intro a hF
    refine wl hF rfl rfl rfl (r_load1 sc3 (hF.ev rfl) (hS.box (i := 0) rfl rfl)) ?_; clear hF a; intro a hF
    refine wl hF rfl rfl rfl (r_eql (hF.ev rfl) ec) ?_; clear hF a; intro a hF
    refine wl_mvs (A := [_]) hF rfl ?_; clear hF a; intro a hF
    apply wl_and (A := [_, _, _, _]) (pk := 16) hF hS (tc := 12) rfl
    ·
      intro hg12 a hF; try simp only [zb1, zb2, zb3, zb4, zb5, zb6, zb7, zb8] at hg12
      refine wl_take hF rfl rfl rfl rfl ?_
      refine wl hF rfl rfl rfl (r_field fo48_2 (hF.ev rfl)) ?_; clear hF a; intro a hF
      refine wl_take hF rfl rfl rfl rfl ?_
      refine wl hF rfl rfl rfl (r_load1 sc3 (hF.ev rfl) (hS.box (i := 0) rfl rfl)) ?_; clear hF a; intro a hF
      refine wl_take hF rfl rfl rfl rfl ?_
      refine wl hF rfl rfl rfl (r_eql (hF.ev rfl) ec) ?_; clear hF a; intro a hF
      refine wl hF rfl rfl rfl (r_pick_t (hF.ev rfl) (hF.ev rfl)) ?_; clear hF a; intro a hF
      exact wl_nil ⟨rfl, (Fr.pre (A := [_, _, _, _]) hF rfl).keep hF (t := 16) rfl, hS⟩
    ·
      intro hg12 a hF; try simp only [zb1, zb2, zb3, zb4, zb5, zb6, zb7, zb8] at hg12
      refine wl_mvs (A := [_, _, _]) hF rfl ?_; clear hF a; intro a hF
      refine wl hF rfl rfl rfl (r_pick_f (hF.ev rfl) ec) ?_; clear hF a; intro a hF
      exact wl_nil ⟨rfl, (Fr.pre (A := [_, _, _, _]) hF rfl).keep hF (t := 16) rfl, hS⟩
    clear hF a hS; intro a w2 hF hS
    refine wl_mvs (A := [_]) hF rfl ?_; clear hF a; intro a hF
    refine wl_nil (hK6 _ _ ?_)
    refine wp_ret ?_
    try simp only [Exit.then, Exit.inBlock, ↓reduceIte]
    refine ret1 rfl hF rfl ⟨congrArg Value.bool (Bool.eq_iff_iff.2 ?_), hS.old⟩
    simp only [Bool.false_eq_true, Bool.true_eq_false, Bool.and_eq_true, Bool.or_eq_true, Bool.not_eq_true', decide_eq_true_eq, decide_eq_false_iff_not, iff_true, true_iff, false_iff, iff_false]
    unfold Sl.Op.ok
    omega
  refine ws fun K7 hK7 => ?_
  refine wl hF rfl rfl rfl (r_eql (hF.ev rfl) ec) ?_; clear hF a; intro a hF
  refine wl_mvs (A := [_]) hF rfl ?_; clear hF a; intro a hF
  refine wl_nil (hK7 _ _ ?_)
  refine wc_fx (t := 5) hF rfl ?_ ?_ <;> clear hF <;> intro c5 hF <;> try simp only [zb1, zb2, zb3, zb4, zb5, zb6, zb7, zb8] at c5
  ·
    refine wp_skip ?_
    refine hK4 _ _ ?_
    refine wc_true (hF.ev rfl) ?_
    refine ws fun K8 hK8 => ?_
    refine wl hF rfl rfl rfl (r_field fo48_1 (hF.ev rfl)) ?_; clear hF a; intro a hF
    refine wl hF rfl rfl rfl (r_load1 sc3 (hF.ev rfl) (hS.box (i := 0) rfl rfl)) ?_; clear hF a; intro a hF
    refine wl hF rfl rfl rfl (r_eql (hF.ev rfl) ec) ?_; clear hF a; intro a hF
    refine wl_mvs (A := [_]) hF rfl ?_; clear hF a; intro a hF
    apply wl_and (A := [_, _, _, _]) (pk := 16) hF hS (tc := 12) rfl
    ·
      intro hg12 a hF; try simp only [zb1, zb2, zb3, zb4, zb5, zb6, zb7, zb8] at hg12
      refine wl_take hF rfl rfl rfl rfl ?_
      refine wl hF rfl rfl rfl (r_field fo48_2 (hF.ev rfl)) ?_; clear hF a; intro a hF
      refine wl_take hF rfl rfl rfl rfl ?_
      refine wl hF rfl rfl rfl (r_load1 sc3 (hF.ev rfl) (hS.box (i := 0) rfl rfl)) ?_; clear hF a; intro a hF
      refine wl_take hF rfl rfl rfl rfl ?_
      refine wl hF rfl rfl rfl (r_eql (hF.ev rfl) ec) ?_; clear hF a; intro a hF
      refine wl hF rfl rfl rfl (r_pick_t (hF.ev rfl) (hF.ev rfl)) ?_; clear hF a; intro a hF
      exact wl_nil ⟨rfl, (Fr.pre (A := [_, _, _, _]) hF rfl).keep hF (t := 16) rfl, hS⟩
    ·
      intro hg12 a hF; try simp only [zb1, zb2, zb3, zb4, zb5, zb6, zb7, zb8] at hg12
      refine wl_mvs (A := [_, _, _]) hF rfl ?_; clear hF a; intro a hF
      refine wl hF rfl rfl rfl (r_pick_f (hF.ev rfl) ec) ?_; clear hF a; intro a hF
      exact wl_nil ⟨rfl, (Fr.pre (A := [_, _, _, _]) hF rfl).keep hF (t := 16) rfl, hS⟩
    clear hF a hS; intro a w3 hF hS
    refine wl_mvs (A := [_]) hF rfl ?_; clear hF a; intro a hF
    refine wl_nil (hK8 _ _ ?_)
    refine wp_ret ?_
    try simp only [Exit.then, Exit.inBlock, ↓reduceIte]
    refine ret1 rfl hF rfl ⟨congrArg Value.bool (Bool.eq_iff_iff.2 ?_), hS.old⟩
    simp only [Bool.false_eq_true, Bool.true_eq_false, Bool.and_eq_true, Bool.or_eq_true, Bool.not_eq_true', decide_eq_true_eq, decide_eq_false_iff_not, iff_true, true_iff, false_iff, iff_false]
    unfold Sl.Op.ok
    omega
  refine wp_region_lit ?_
  refine wl hF rfl rfl rfl (r_eql (hF.ev rfl) ec) ?_; clear hF a; intro a hF
  refine wl_mvs (A := [_]) hF rfl ?_; clear hF a; intro a hF
  refine wl_nil (hK4 _ _ ?_)
  refine wc_fx (t := 5) hF rfl ?_ ?_ <;> clear hF <;> intro c5 hF <;> try simp only [zb1, zb2, zb3, zb4, zb5, zb6, zb7, zb8] at c5
  ·
    refine ws fun K9 hK9 => ?_
    refine wl hF rfl rfl rfl (r_field fo48_1 (hF.ev rfl)) ?_; clear hF a; intro a hF
    refine wl hF rfl rfl rfl (r_load1 sc3 (hF.ev rfl) (hS.box (i := 0) rfl rfl)) ?_; clear hF a; intro a hF
    refine wl hF rfl rfl rfl (r_eql (hF.ev rfl) ec) ?_; clear hF a; intro a hF
    refine wl_mvs (A := [_]) hF rfl ?_; clear hF a; intro a hF
    apply wl_and (A := [_, _, _, _]) (pk := 16) hF hS (tc := 12) rfl
    ·
      intro hg12 a hF; try simp only [zb1, zb2, zb3, zb4, zb5, zb6, zb7, zb8] at hg12
      refine wl_take hF rfl rfl rfl rfl ?_
      refine wl hF rfl rfl rfl (r_field fo48_2 (hF.ev rfl)) ?_; clear hF a; intro a hF
      refine wl_take hF rfl rfl rfl rfl ?_
      refine wl hF rfl rfl rfl (r_load1 sc3 (hF.ev rfl) (hS.box (i := 0) rfl rfl)) ?_; clear hF a; intro a hF
      refine wl_take hF rfl rfl rfl rfl ?_
      refine wl hF rfl rfl rfl (r_eql (hF.ev rfl) ec) ?_; clear hF a; intro a hF
      refine wl hF rfl rfl rfl (r_pick_t (hF.ev rfl) (hF.ev rfl)) ?_; clear hF a; intro a hF
      exact wl_nil ⟨rfl, (Fr.pre (A := [_, _, _, _]) hF rfl).keep hF (t := 16) rfl, hS⟩
    ·
      intro hg12 a hF; try simp only [zb1, zb2, zb3, zb4, zb5, zb6, zb7, zb8] at hg12
      refine wl_mvs (A := [_, _, _]) hF rfl ?_; clear hF a; intro a hF
      refine wl hF rfl rfl rfl (r_pick_f (hF.ev rfl) ec) ?_; clear hF a; intro a hF
      exact wl_nil ⟨rfl, (Fr.pre (A := [_, _, _, _]) hF rfl).keep hF (t := 16) rfl, hS⟩
    clear hF a hS; intro a w4 hF hS
    refine wl_mvs (A := [_]) hF rfl ?_; clear hF a; intro a hF
    refine wl_nil (hK9 _ _ ?_)
    refine wp_ret ?_
    try simp only [Exit.then, Exit.inBlock, ↓reduceIte]
    refine ret1 rfl hF rfl ⟨congrArg Value.bool (Bool.eq_iff_iff.2 ?_), hS.old⟩
    simp only [Bool.false_eq_true, Bool.true_eq_false, Bool.and_eq_true, Bool.or_eq_true, Bool.not_eq_true', decide_eq_true_eq, decide_eq_false_iff_not, iff_true, true_iff, false_iff, iff_false]
    unfold Sl.Op.ok
    omega
  refine ws fun K10 hK10 => ?_
  refine wl hF rfl rfl rfl (r_eql (hF.ev rfl) ec) ?_; clear hF a; intro a hF
  refine wl_mvs (A := [_]) hF rfl ?_; clear hF a; intro a hF
  refine wl_nil (hK10 _ _ ?_)
  refine wc_fx (t := 17) hF rfl ?_ ?_ <;> clear hF <;> intro c17 hF <;> try simp only [zb1, zb2, zb3, zb4, zb5, zb6, zb7, zb8] at c17
  ·
    refine ws fun K11 hK11 => ?_
    refine wl hF rfl rfl rfl (r_field fo48_1 (hF.ev rfl)) ?_; clear hF a; intro a hF
    refine wl hF rfl rfl rfl (r_load1 sc3 (hF.ev rfl) (hS.box (i := 0) rfl rfl)) ?_; clear hF a; intro a hF
    refine wl_call hF rfl rfl rfl (r_call3 en67 (hF.ev rfl) ec ec) (l1In_c _ _ _) ?_; clear hF a; rintro v w5 a ⟨rfl, hB_⟩ hF; replace hS := hS.ext hB_; clear hB_
    refine wl_mvs (A := [_]) hF rfl ?_; clear hF a; intro a hF
    apply wl_and (A := [_, _, _, _]) (pk := 26) hF hS (tc := 22) rfl
    ·
      intro hg22 a hF; try simp only [zb1, zb2, zb3, zb4, zb5, zb6, zb7, zb8] at hg22
      refine wl_take hF rfl rfl rfl rfl ?_
      refine wl hF rfl rfl rfl (r_field fo48_2 (hF.ev rfl)) ?_; clear hF a; intro a hF
      refine wl_take hF rfl rfl rfl rfl ?_
      refine wl hF rfl rfl rfl (r_load1 sc3 (hF.ev rfl) (hS.box (i := 0) rfl rfl)) ?_; clear hF a; intro a hF
      refine wl_take hF rfl rfl rfl rfl ?_
      refine wl hF rfl rfl rfl (r_eql (hF.ev rfl) ec) ?_; clear hF a; intro a hF
      refine wl hF rfl rfl rfl (r_pick_t (hF.ev rfl) (hF.ev rfl)) ?_; clear hF a; intro a hF
      exact wl_nil ⟨rfl, (Fr.pre (A := [_, _, _, _]) hF rfl).keep hF (t := 26) rfl, hS⟩
    ·
      intro hg22 a hF; try simp only [zb1, zb2, zb3, zb4, zb5, zb6, zb7, zb8] at hg22
      refine wl_mvs (A := [_, _, _]) hF rfl ?_; clear hF a; intro a hF
      refine wl hF rfl rfl rfl (r_pick_f (hF.ev rfl) ec) ?_; clear hF a; intro a hF
      exact wl_nil ⟨rfl, (Fr.pre (A := [_, _, _, _]) hF rfl).keep hF (t := 26) rfl, hS⟩
    clear hF a hS; intro a w6 hF hS
    refine wl_mvs (A := [_]) hF rfl ?_; clear hF a; intro a hF
    refine wl_nil (hK11 _ _ ?_)
    refine wp_ret ?_
    try simp only [Exit.then, Exit.inBlock, ↓reduceIte]
    refine ret1 rfl hF rfl ⟨congrArg Value.bool (Bool.eq_iff_iff.2 ?_), hS.old⟩
    simp only [Bool.false_eq_true, Bool.true_eq_false, Bool.and_eq_true, Bool.or_eq_true, Bool.not_eq_true', decide_eq_true_eq, decide_eq_false_iff_not, iff_true, true_iff, false_iff, iff_false]
    unfold Sl.Op.ok
    omega
  refine ws fun K12 hK12 => ?_
  refine wl hF rfl rfl rfl (r_eql (hF.ev rfl) ec) ?_; clear hF a; intro a hF
  refine wl_mvs (A := [_]) hF rfl ?_; clear hF a; intro a hF
  refine wl_nil (hK12 _ _ ?_)
  refine wc_fx (t := 27) hF rfl ?_ ?_ <;> clear hF <;> intro c27 hF <;> try simp only [zb1, zb2, zb3, zb4, zb5, zb6, zb7, zb8] at c27
  ·
    refine ws fun K13 hK13 => ?_
    refine wl hF rfl rfl rfl (r_field fo48_1 (hF.ev rfl)) ?_; clear hF a; intro a hF
    refine wl hF rfl rfl rfl (r_load1 sc3 (hF.ev rfl) (hS.box (i := 0) rfl rfl)) ?_; clear hF a; intro a hF
    refine wl_call hF rfl rfl rfl (r_call3 en67 (hF.ev rfl) ec ec) (l1In_c _ _ _) ?_; clear hF a; rintro v w7 a ⟨rfl, hB_⟩ hF; replace hS := hS.ext hB_; clear hB_
    refine wl_mvs (A := [_]) hF rfl ?_; clear hF a; intro a hF
    apply wl_and (A := [_, _, _, _]) (pk := 36) hF hS (tc := 32) rfl
    ·
      intro hg32 a hF; try simp only [zb1, zb2, zb3, zb4, zb5, zb6, zb7, zb8] at hg32
      refine wl_take hF rfl rfl rfl rfl ?_
      refine wl hF rfl rfl rfl (r_field fo48_2 (hF.ev rfl)) ?_; clear hF a; intro a hF
      refine wl_take hF rfl rfl rfl rfl ?_
      refine wl hF rfl rfl rfl (r_load1 sc3 (hF.ev rfl) (hS.box (i := 0) rfl rfl)) ?_; clear hF a; intro a hF
      refine wl_take hF rfl rfl rfl rfl ?_
      refine wl_call hF rfl rfl rfl (r_call3 en67 (hF.ev rfl) ec ec) (l1In_c _ _ _) ?_; clear hF a; rintro v w8 a ⟨rfl, hB_⟩ hF; replace hS := hS.ext hB_; clear hB_
      refine wl hF rfl rfl rfl (r_pick_t (hF.ev rfl) (hF.ev rfl)) ?_; clear hF a; intro a hF
      exact wl_nil ⟨rfl, (Fr.pre (A := [_, _, _, _]) hF rfl).keep hF (t := 36) rfl, hS⟩
    ·
      intro hg32 a hF; try simp only [zb1, zb2, zb3, zb4, zb5, zb6, zb7, zb8] at hg32
      refine wl_mvs (A := [_, _, _]) hF rfl ?_; clear hF a; intro a hF
      refine wl hF rfl rfl rfl (r_pick_f (hF.ev rfl) ec) ?_; clear hF a; intro a hF
      exact wl_nil ⟨rfl, (Fr.pre (A := [_, _, _, _]) hF rfl).keep hF (t := 36) rfl, hS⟩
    clear hF a hS; intro a w9 hF hS
    refine wl_mvs (A := [_]) hF rfl ?_; clear hF a; intro a hF
    refine wl_nil (hK13 _ _ ?_)
    refine wp_ret ?_
    try simp only [Exit.then, Exit.inBlock, ↓reduceIte]
    refine ret1 rfl hF rfl ⟨congrArg Value.bool (Bool.eq_iff_iff.2 ?_), hS.old⟩
    simp only [Bool.false_eq_true, Bool.true_eq_false, Bool.and_eq_true, Bool.or_eq_true, Bool.not_eq_true', decide_eq_true_eq, decide_eq_false_iff_not, iff_true, true_iff, false_iff, iff_false]
    unfold Sl.Op.ok
    omega
  refine wp_skip ?_
  simp only [Exit.then, Exit.inBlock, ↓reduceIte]
  refine hK2 _ _ ?_
  refine ws fun K14 hK14 => ?_
  refine wl_mvs (A := [_]) hF rfl ?_; clear hF a; intro a hF
  refine wl_nil (hK14 _ _ ?_)
  refine wp_ret ?_
  try simp only [Exit.then, Exit.inBlock, ↓reduceIte]
  refine ret1 rfl hF rfl ⟨congrArg Value.bool (Bool.eq_iff_iff.2 ?_), hS.old⟩
  simp only [Bool.false_eq_true, Bool.true_eq_false, Bool.and_eq_true, Bool.or_eq_true, Bool.not_eq_true', decide_eq_true_eq, decide_eq_false_iff_not, iff_true, true_iff, false_iff, iff_false]
  unfold Sl.Op.ok
  omega
set_option maxHeartbeats 4000000 in
set_option maxRecDepth 20000 in
theorem implIsOp_c {W : World} (o : Sl.Op) : Calls Tryz.prog 161 #[.agg o.enc.toArray] W (Ret fun v w' => v = .bool (decide o.ok) ∧ Below W.heap.size W w') := by
  refine calls_fr Tryz.func161 rfl Tryz.ntmps161 rfl ?_
  intro a hF
  have hS := Sep.refl W
  refine ws fun K1 hK1 => ?_
  refine wl_box (cs := [_, _, _]) hF hS rfl (hF.ev rfl) rfl ?_; clear hF a; intro g1 w1 a hS_ hB_ hF; replace hS := hS_; clear hS_ hB_
  refine wl_mvs (A := [_]) hF rfl ?_; clear hF a; intro a hF
  refine wl_nil (hK1 _ _ ?_)
  refine wp_seq_k fun K2 hK2 => ?_
  refine ws fun K3 hK3 => ?_
  refine wl hF rfl rfl rfl (r_field fo48_0 (hF.ev rfl)) ?_; clear hF a; intro a hF
  refine wl hF rfl rfl rfl (r_load1 sc3 (hF.ev rfl) (hS.box (i := 0) rfl rfl)) ?_; clear hF a; intro a hF
  refine wl_nil (hK3 _ _ ?_)
  refine wp_block ?_
  refine wp_seq_k fun K4 hK4 => ?_
  refine ws fun K5 hK5 => ?_
  refine wl hF rfl rfl rfl (r_eql (hF.ev rfl) ec) ?_; clear hF a; intro a hF
  refine wl_mvs (A := [_]) hF rfl ?_; clear hF a; intro a hF
  refine wl_nil (hK5 _ _ ?_)
  refine wc_fx (t := 5) hF rfl ?_ ?_ <;> clear hF <;> intro c5 hF <;> try simp only [zb1, zb2, zb3, zb4, zb5, zb6, zb7, zb8] at c5
  ·
    refine wp_skip ?_
    refine hK4 _ _ ?_
    refine wc_true (hF.ev rfl) ?_
    refine ws fun K6 hK6 => ?_
    refine wl hF rfl rfl rfl (r_field fo48_1 (hF.ev rfl)) ?_; clear hF a; intro a hF
    refine wl hF rfl rfl rfl (r_load1 sc3 (hF.ev rfl) (hS.box (i := 0) rfl rfl)) ?_; clear hF a; intro a hF
    refine wl hF rfl rfl rfl (r_eql (hF.ev rfl) ec) ?_; clear hF a; intro a hF
    refine wl_mvs (A := [_]) hF rfl ?_; clear hF a; intro a hF
    apply wl_and (A := [_, _, _, _]) (pk := 16) hF hS (tc := 12) rfl
    ·
      intro hg12 a hF; try simp only [zb1, zb2, zb3, zb4, zb5, zb6, zb7, zb8] at hg12
      refine wl_take hF rfl rfl rfl rfl ?_
      refine wl hF rfl rfl rfl (r_field fo48_2 (hF.ev rfl)) ?_; clear hF a; intro a hF
      refine wl_take hF rfl rfl rfl rfl ?_
      refine wl hF rfl rfl rfl (r_load1 sc3 (hF.ev rfl) (hS.box (i := 0) rfl rfl)) ?_; clear hF a; intro a hF
      refine wl_take hF rfl rfl rfl rfl ?_
      refine wl hF rfl rfl rfl (r_eql (hF.ev rfl) ec) ?_; clear hF a; intro a hF
      refine wl hF rfl rfl rfl (r_pick_t (hF.ev rfl) (hF.ev rfl)) ?_; clear hF a; intro a hF
      exact wl_nil ⟨rfl, (Fr.pre (A := [_, _, _, _]) hF rfl).keep hF (t := 16) rfl, hS⟩
    ·
      intro hg12 a hF; try simp only [zb1, zb2, zb3, zb4, zb5, zb6, zb7, zb8] at hg12
      refine wl_mvs (A := [_, _, _]) hF rfl ?_; clear hF a; intro a hF
      refine wl hF rfl rfl rfl (r_pick_f (hF.ev rfl) ec) ?_; clear hF a; intro a hF
      exact wl_nil ⟨rfl, (Fr.pre (A := [_, _, _, _]) hF rfl).keep hF (t := 16) rfl, hS⟩
    clear hF a hS; intro a w2 hF hS
    refine wl_mvs (A := [_]) hF rfl ?_; clear hF a; intro a hF
    refine wl_nil (hK6 _ _ ?_)
    refine wp_ret ?_
    try simp only [Exit.then, Exit.inBlock, ↓reduceIte]
    refine ret1 rfl hF rfl ⟨congrArg Value.bool (Bool.eq_iff_iff.2 ?_), hS.old⟩
    simp only [Bool.false_eq_true, Bool.true_eq_false, Bool.and_eq_true, Bool.or_eq_true, Bool.not_eq_true', decide_eq_true_eq, decide_eq_false_iff_not, iff_true, true_iff, false_iff, iff_false]
    unfold Sl.Op.ok
    omega
  refine ws fun K7 hK7 => ?_
  refine wl hF rfl rfl rfl (r_eql (hF.ev rfl) ec) ?_; clear hF a; intro a hF
  refine wl_mvs (A := [_]) hF rfl ?_; clear hF a; intro a hF
  refine wl_nil (hK7 _ _ ?_)
  refine wc_fx (t := 5) hF rfl ?_ ?_ <;> clear hF <;> intro c5 hF <;> try simp only [zb1, zb2, zb3, zb4, zb5, zb6, zb7, zb8] at c5
  ·
    refine wp_skip ?_
    refine hK4 _ _ ?_
    refine wc_true (hF.ev rfl) ?_
    refine ws fun K8 hK8 => ?_
    refine wl hF rfl rfl rfl (r_field fo48_1 (hF.ev rfl)) ?_; clear hF a; intro a hF
    refine wl hF rfl rfl rfl (r_load1 sc3 (hF.ev rfl) (hS.box (i := 0) rfl rfl)) ?_; clear hF a; intro a hF
    refine wl hF rfl rfl rfl (r_eql (hF.ev rfl) ec) ?_; clear hF a; intro a hF
    refine wl_mvs (A := [_]) hF rfl ?_; clear hF a; intro a hF
    apply wl_and (A := [_, _, _, _]) (pk := 16) hF hS (tc := 12) rfl
    ·
      intro hg12 a hF; try simp only [zb1, zb2, zb3, zb4, zb5, zb6, zb7, zb8] at hg12
      refine wl_take hF rfl rfl rfl rfl ?_
      refine wl hF rfl rfl rfl (r_field fo48_2 (hF.ev rfl)) ?_; clear hF a; intro a hF
      refine wl_take hF rfl rfl rfl rfl ?_
      refine wl hF rfl rfl rfl (r_load1 sc3 (hF.ev rfl) (hS.box (i := 0) rfl rfl)) ?_; clear hF a; intro a hF
      refine wl_take hF rfl rfl rfl rfl ?_
      refine wl hF rfl rfl rfl (r_eql (hF.ev rfl) ec) ?_; clear hF a; intro a hF
      refine wl hF rfl rfl rfl (r_pick_t (hF.ev rfl) (hF.ev rfl)) ?_; clear hF a; intro a hF
      exact wl_nil ⟨rfl, (Fr.pre (A := [_, _, _, _]) hF rfl).keep hF (t := 16) rfl, hS⟩
    ·
      intro hg12 a hF; try simp only [zb1, zb2, zb3, zb4, zb5, zb6, zb7, zb8] at hg12
      refine wl_mvs (A := [_, _, _]) hF rfl ?_; clear hF a; intro a hF
      refine wl hF rfl rfl rfl (r_pick_f (hF.ev rfl) ec) ?_; clear hF a; intro a hF
      exact wl_nil ⟨rfl, (Fr.pre (A := [_, _, _, _]) hF rfl).keep hF (t := 16) rfl, hS⟩
    clear hF a hS; intro a w3 hF hS
    refine wl_mvs (A := [_]) hF rfl ?_; clear hF a; intro a hF
    refine wl_nil (hK8 _ _ ?_)
    refine wp_ret ?_
    try simp only [Exit.then, Exit.inBlock, ↓reduceIte]
    refine ret1 rfl hF rfl ⟨congrArg Value.bool (Bool.eq_iff_iff.2 ?_), hS.old⟩
    simp only [Bool.false_eq_true, Bool.true_eq_false, Bool.and_eq_true, Bool.or_eq_true, Bool.not_eq_true', decide_eq_true_eq, decide_eq_false_iff_not, iff_true, true_iff, false_iff, iff_false]
    unfold Sl.Op.ok
    omega
  refine wp_region_lit ?_
  refine wl hF rfl rfl rfl (r_eql (hF.ev rfl) ec) ?_; clear hF a; intro a hF
  refine wl_mvs (A := [_]) hF rfl ?_; clear hF a; intro a hF
  refine wl_nil (hK4 _ _ ?_)
  refine wc_fx (t := 5) hF rfl ?_ ?_ <;> clear hF <;> intro c5 hF <;> try simp only [zb1, zb2, zb3, zb4, zb5, zb6, zb7, zb8] at c5
  ·
    refine ws fun K9 hK9 => ?_
    refine wl hF rfl rfl rfl (r_field fo48_1 (hF.ev rfl)) ?_; clear hF a; intro a hF
    refine wl hF rfl rfl rfl (r_load1 sc3 (hF.ev rfl) (hS.box (i := 0) rfl rfl)) ?_; clear hF a; intro a hF
    refine wl hF rfl rfl rfl (r_eql (hF.ev rfl) ec) ?_; clear hF a; intro a hF
    refine wl_mvs (A := [_]) hF rfl ?_; clear hF a; intro a hF
    apply wl_and (A := [_, _, _, _]) (pk := 16) hF hS (tc := 12) rfl
    ·
      intro hg12 a hF; try simp only [zb1, zb2, zb3, zb4, zb5, zb6, zb7, zb8] at hg12
      refine wl_take hF rfl rfl rfl rfl ?_
      refine wl hF rfl rfl rfl (r_field fo48_2 (hF.ev rfl)) ?_; clear hF a; intro a hF
      refine wl_take hF rfl rfl rfl rfl ?_
      refine wl hF rfl rfl rfl (r_load1 sc3 (hF.ev rfl) (hS.box (i := 0) rfl rfl)) ?_; clear hF a; intro a hF
      refine wl_take hF rfl rfl rfl rfl ?_
      refine wl hF rfl rfl rfl (r_eql (hF.ev rfl) ec) ?_; clear hF a; intro a hF
      refine wl hF rfl rfl rfl (r_pick_t (hF.ev rfl) (hF.ev rfl)) ?_; clear hF a; intro a hF
      exact wl_nil ⟨rfl, (Fr.pre (A := [_, _, _, _]) hF rfl).keep hF (t := 16) rfl, hS⟩
    ·
      intro hg12 a hF; try simp only [zb1, zb2, zb3, zb4, zb5, zb6, zb7, zb8] at hg12
      refine wl_mvs (A := [_, _, _]) hF rfl ?_; clear hF a; intro a hF
      refine wl hF rfl rfl rfl (r_pick_f (hF.ev rfl) ec) ?_; clear hF a; intro a hF
      exact wl_nil ⟨rfl, (Fr.pre (A := [_, _, _, _]) hF rfl).keep hF (t := 16) rfl, hS⟩
    clear hF a hS; intro a w4 hF hS
    refine wl_mvs (A := [_]) hF rfl ?_; clear hF a; intro a hF
    refine wl_nil (hK9 _ _ ?_)
    refine wp_ret ?_
    try simp only [Exit.then, Exit.inBlock, ↓reduceIte]
    refine ret1 rfl hF rfl ⟨congrArg Value.bool (Bool.eq_iff_iff.2 ?_), hS.old⟩
    simp only [Bool.false_eq_true, Bool.true_eq_false, Bool.and_eq_true, Bool.or_eq_true, Bool.not_eq_true', decide_eq_true_eq, decide_eq_false_iff_not, iff_true, true_iff, false_iff, iff_false]
    unfold Sl.Op.ok
    omega
  refine ws fun K10 hK10 => ?_
  refine wl hF rfl rfl rfl (r_eql (hF.ev rfl) ec) ?_; clear hF a; intro a hF
  refine wl_mvs (A := [_]) hF rfl ?_; clear hF a; intro a hF
  refine wl_nil (hK10 _ _ ?_)
  refine wc_fx (t := 17) hF rfl ?_ ?_ <;> clear hF <;> intro c17 hF <;> try simp only [zb1, zb2, zb3, zb4, zb5, zb6, zb7, zb8] at c17
  ·
    refine ws fun K11 hK11 => ?_
    refine wl hF rfl rfl rfl (r_field fo48_1 (hF.ev rfl)) ?_; clear hF a; intro a hF
    refine wl hF rfl rfl rfl (r_load1 sc3 (hF.ev rfl) (hS.box (i := 0) rfl rfl)) ?_; clear hF a; intro a hF
    refine wl_call hF rfl rfl rfl (r_call3 en75 (hF.ev rfl) ec ec) (in_c _ _ _) ?_; clear hF a; rintro v w5 a ⟨rfl, hB_⟩ hF; replace hS := hS.ext hB_; clear hB_
    refine wl_mvs (A := [_]) hF rfl ?_; clear hF a; intro a hF
    apply wl_and (A := [_, _, _, _]) (pk := 26) hF hS (tc := 22) rfl
    ·
      intro hg22 a hF; try simp only [zb1, zb2, zb3, zb4, zb5, zb6, zb7, zb8] at hg22
      refine wl_take hF rfl rfl rfl rfl ?_
      refine wl hF rfl rfl rfl (r_field fo48_2 (hF.ev rfl)) ?_; clear hF a; intro a hF
      refine wl_take hF rfl rfl rfl rfl ?_
      refine wl hF rfl rfl rfl (r_load1 sc3 (hF.ev rfl) (hS.box (i := 0) rfl rfl)) ?_; clear hF a; intro a hF
      refine wl_take hF rfl rfl rfl rfl ?_
      refine wl hF rfl rfl rfl (r_eql (hF.ev rfl) ec) ?_; clear hF a; intro a hF
      refine wl hF rfl rfl rfl (r_pick_t (hF.ev rfl) (hF.ev rfl)) ?_; clear hF a; intro a hF
      exact wl_nil ⟨rfl, (Fr.pre (A := [_, _, _, _]) hF rfl).keep hF (t := 26) rfl, hS⟩
    ·
      intro hg22 a hF; try simp only [zb1, zb2, zb3, zb4, zb5, zb6, zb7, zb8] at hg22
      refine wl_mvs (A := [_, _, _]) hF rfl ?_; clear hF a; intro a hF
      refine wl hF rfl rfl rfl (r_pick_f (hF.ev rfl) ec) ?_; clear hF a; intro a hF
      exact wl_nil ⟨rfl, (Fr.pre (A := [_, _, _, _]) hF rfl).keep hF (t := 26) rfl, hS⟩
    clear hF a hS; intro a w6 hF hS
    refine wl_mvs (A := [_]) hF rfl ?_; clear hF a; intro a hF
    refine wl_nil (hK11 _ _ ?_)
    refine wp_ret ?_
    try simp only [Exit.then, Exit.inBlock, ↓reduceIte]
    refine ret1 rfl hF rfl ⟨congrArg Value.bool (Bool.eq_iff_iff.2 ?_), hS.old⟩
    simp only [Bool.false_eq_true, Bool.true_eq_false, Bool.and_eq_true, Bool.or_eq_true, Bool.not_eq_true', decide_eq_true_eq, decide_eq_false_iff_not, iff_true, true_iff, false_iff, iff_false]
    unfold Sl.Op.ok
    omega
  refine ws fun K12 hK12 => ?_
  refine wl hF rfl rfl rfl (r_eql (hF.ev rfl) ec) ?_; clear hF a; intro a hF
  refine wl_mvs (A := [_]) hF rfl ?_; clear hF a; intro a hF
  refine wl_nil (hK12 _ _ ?_)
  refine wc_fx (t := 27) hF rfl ?_ ?_ <;> clear hF <;> intro c27 hF <;> try simp only [zb1, zb2, zb3, zb4, zb5, zb6, zb7, zb8] at c27
  ·
    refine ws fun K13 hK13 => ?_
    refine wl hF rfl rfl rfl (r_field fo48_1 (hF.ev rfl)) ?_; clear hF a; intro a hF
    refine wl hF rfl rfl rfl (r_load1 sc3 (hF.ev rfl) (hS.box (i := 0) rfl rfl)) ?_; clear hF a; intro a hF
    refine wl_call hF rfl rfl rfl (r_call3 en75 (hF.ev rfl) ec ec) (in_c _ _ _) ?_; clear hF a; rintro v w7 a ⟨rfl, hB_⟩ hF; replace hS := hS.ext hB_; clear hB_
    refine wl_mvs (A := [_]) hF rfl ?_; clear hF a; intro a hF
    apply wl_and (A := [_, _, _, _]) (pk := 36) hF hS (tc := 32) rfl
    ·
      intro hg32 a hF; try simp only [zb1, zb2, zb3, zb4, zb5, zb6, zb7, zb8] at hg32
      refine wl_take hF rfl rfl rfl rfl ?_
      refine wl hF rfl rfl rfl (r_field fo48_2 (hF.ev rfl)) ?_; clear hF a; intro a hF
      refine wl_take hF rfl rfl rfl rfl ?_
      refine wl hF rfl rfl rfl (r_load1 sc3 (hF.ev rfl) (hS.box (i := 0) rfl rfl)) ?_; clear hF a; intro a hF
      refine wl_take hF rfl rfl rfl rfl ?_
      refine wl_call hF rfl rfl rfl (r_call3 en75 (hF.ev rfl) ec ec) (in_c _ _ _) ?_; clear hF a; rintro v w8 a ⟨rfl, hB_⟩ hF; replace hS := hS.ext hB_; clear hB_
      refine wl hF rfl rfl rfl (r_pick_t (hF.ev rfl) (hF.ev rfl)) ?_; clear hF a; intro a hF
      exact wl_nil ⟨rfl, (Fr.pre (A := [_, _, _, _]) hF rfl).keep hF (t := 36) rfl, hS⟩
    ·
      intro hg32 a hF; try simp only [zb1, zb2, zb3, zb4, zb5, zb6, zb7, zb8] at hg32
      refine wl_mvs (A := [_, _, _]) hF rfl ?_; clear hF a; intro a hF
      refine wl hF rfl rfl rfl (r_pick_f (hF.ev rfl) ec) ?_; clear hF a; intro a hF
      exact wl_nil ⟨rfl, (Fr.pre (A := [_, _, _, _]) hF rfl).keep hF (t := 36) rfl, hS⟩
    clear hF a hS; intro a w9 hF hS
    refine wl_mvs (A := [_]) hF rfl ?_; clear hF a; intro a hF
    refine wl_nil (hK13 _ _ ?_)
    refine wp_ret ?_
    try simp only [Exit.then, Exit.inBlock, ↓reduceIte]
    refine ret1 rfl hF rfl ⟨congrArg Value.bool (Bool.eq_iff_iff.2 ?_), hS.old⟩
    simp only [Bool.false_eq_true, Bool.true_eq_false, Bool.and_eq_true, Bool.or_eq_true, Bool.not_eq_true', decide_eq_true_eq, decide_eq_false_iff_not, iff_true, true_iff, false_iff, iff_false]
    unfold Sl.Op.ok
    omega
  refine wp_skip ?_
  simp only [Exit.then, Exit.inBlock, ↓reduceIte]
  refine hK2 _ _ ?_
  refine ws fun K14 hK14 => ?_
  refine wl_mvs (A := [_]) hF rfl ?_; clear hF a; intro a hF
  refine wl_nil (hK14 _ _ ?_)
  refine wp_ret ?_
  try simp only [Exit.then, Exit.inBlock, ↓reduceIte]
  refine ret1 rfl hF rfl ⟨congrArg Value.bool (Bool.eq_iff_iff.2 ?_), hS.old⟩
  simp only [Bool.false_eq_true, Bool.true_eq_false, Bool.and_eq_true, Bool.or_eq_true, Bool.not_eq_true', decide_eq_true_eq, decide_eq_false_iff_not, iff_true, true_iff, false_iff, iff_false]
  unfold Sl.Op.ok
  omega
set_option maxHeartbeats 4000000 in
set_option maxRecDepth 20000 in
theorem specCellCount_c {W : World} (c : Config)  : Calls Tryz.prog 115 #[.agg c.enc.toArray] W (Ret fun v w' => v = vi (cellCount c) ∧ Below W.heap.size W w') := by
  refine calls_fr Tryz.func115 rfl Tryz.ntmps115 rfl ?_
  intro a hF
  have hS := Sep.refl W
  refine ws fun K1 hK1 => ?_
  refine wl_box (cs := [_, _, _, _, _, _]) hF hS rfl (hF.ev rfl) rfl ?_; clear hF a; intro g1 w1 a hS_ hB_ hF; replace hS := hS_; clear hS_ hB_
  refine wl_mvs (A := [_]) hF rfl ?_; clear hF a; intro a hF
  refine wl_nil (hK1 _ _ ?_)
  refine wp_seq_k fun K2 hK2 => ?_
  refine ws fun K3 hK3 => ?_
  refine wl hF rfl rfl rfl (r_loadn ag29 (hF.ev rfl) (hS.box_rd (i := 0) rfl) sz29) ?_; clear hF a; intro a hF
  refine wl_call hF rfl rfl rfl (r_call1 en114 (hF.ev rfl)) (specIsConfig_c _) ?_; clear hF a; rintro v w2 a ⟨rfl, hB_⟩ hF; replace hS := hS.ext hB_; clear hB_
  refine wl hF rfl rfl rfl (r_not (hF.ev rfl)) ?_; clear hF a; intro a hF
  refine wl_nil (hK3 _ _ ?_)
  refine wc_fx (t := 5) hF rfl ?_ ?_ <;> clear hF <;> intro c5 hF <;> try simp only [zb1, zb2, zb3, zb4, zb5, zb6, zb7, zb8] at c5
  ·
    refine ws fun K4 hK4 => ?_
    refine wl_mvs (A := [_]) hF rfl ?_; clear hF a; intro a hF
    refine wl_nil (hK4 _ _ ?_)
    refine wp_ret ?_
    try simp only [Exit.then, Exit.inBlock, ↓reduceIte]
    refine ret1 rfl hF rfl ⟨congrArg vi ?_, hS.old⟩
    unfold cellCount
    have hw : c.ok → IntKind.i64.wrap (c.threads - 1) = c.threads - 1 ∧ IntKind.i64.wrap (c.keys - 1) = c.keys - 1 ∧ IntKind.i64.wrap (c.capacity - 1) = c.capacity - 1 := fun h => by unfold Config.ok at h; exact ⟨wm1 (by omega) (by omega), wm1 (by omega) (by omega), wm1 (by omega) (by omega)⟩
    split
    · rename_i hif
      first
      | (exfalso; have hw1 := hw (by simp_all); simp_all; done)
      | (have hok : c.ok := (by simp_all); unfold Config.ok at hok; clear hw; simp only [w64]; omega)
    · rename_i hif
      first | rfl | (exfalso; have hw1 := hw (by simp_all); simp_all; done)
  refine wp_skip ?_
  refine hK2 _ _ ?_
  refine ws fun K5 hK5 => ?_
  refine wl hF rfl rfl rfl (r_field fo29_0 (hF.ev rfl)) ?_; clear hF a; intro a hF
  refine wl hF rfl rfl rfl (r_load1 sc3 (hF.ev rfl) (hS.box (i := 0) rfl rfl)) ?_; clear hF a; intro a hF
  refine wl hF rfl rfl rfl (r_mul ec (hF.ev rfl)) ?_; clear hF a; intro a hF
  refine wl hF rfl rfl rfl (r_add ec (hF.ev rfl)) ?_; clear hF a; intro a hF
  refine wl hF rfl rfl rfl (r_field fo29_1 (hF.ev rfl)) ?_; clear hF a; intro a hF
  refine wl hF rfl rfl rfl (r_load1 sc3 (hF.ev rfl) (hS.box (i := 0) rfl rfl)) ?_; clear hF a; intro a hF
  refine wl hF rfl rfl rfl (r_add (hF.ev rfl) (hF.ev rfl)) ?_; clear hF a; intro a hF
  refine wl hF rfl rfl rfl (r_field fo29_2 (hF.ev rfl)) ?_; clear hF a; intro a hF
  refine wl hF rfl rfl rfl (r_load1 sc3 (hF.ev rfl) (hS.box (i := 0) rfl rfl)) ?_; clear hF a; intro a hF
  refine wl hF rfl rfl rfl (r_mul ec (hF.ev rfl)) ?_; clear hF a; intro a hF
  refine wl hF rfl rfl rfl (r_add (hF.ev rfl) (hF.ev rfl)) ?_; clear hF a; intro a hF
  refine wl_mvs (A := [_]) hF rfl ?_; clear hF a; intro a hF
  refine wl_nil (hK5 _ _ ?_)
  refine wp_ret ?_
  try simp only [Exit.then, Exit.inBlock, ↓reduceIte]
  refine ret1 rfl hF rfl ⟨congrArg vi ?_, hS.old⟩
  unfold cellCount
  have hw : c.ok → IntKind.i64.wrap (c.threads - 1) = c.threads - 1 ∧ IntKind.i64.wrap (c.keys - 1) = c.keys - 1 ∧ IntKind.i64.wrap (c.capacity - 1) = c.capacity - 1 := fun h => by unfold Config.ok at h; exact ⟨wm1 (by omega) (by omega), wm1 (by omega) (by omega), wm1 (by omega) (by omega)⟩
  split
  · rename_i hif
    first
    | (exfalso; have hw1 := hw (by simp_all); simp_all; done)
    | (have hok : c.ok := (by simp_all); unfold Config.ok at hok; clear hw; simp only [w64]; omega)
  · rename_i hif
    first | rfl | (exfalso; have hw1 := hw (by simp_all); simp_all; done)
set_option maxHeartbeats 4000000 in
set_option maxRecDepth 20000 in
theorem specHeadCell_c {W : World} (c : Config) (k : Int) : Calls Tryz.prog 117 #[.agg c.enc.toArray, vi k] W (Ret fun v w' => v = vi (headCell c k) ∧ Below W.heap.size W w') := by
  refine calls_fr Tryz.func117 rfl Tryz.ntmps117 rfl ?_
  intro a hF
  have hS := Sep.refl W
  refine ws fun K1 hK1 => ?_
  refine wl_box (cs := [_, _, _, _, _, _]) hF hS rfl (hF.ev rfl) rfl ?_; clear hF a; intro g1 w1 a hS_ hB_ hF; replace hS := hS_; clear hS_ hB_
  refine wl_mvs (A := [_]) hF rfl ?_; clear hF a; intro a hF
  refine wl_nil (hK1 _ _ ?_)
  refine wp_seq_k fun K2 hK2 => ?_
  refine ws fun K3 hK3 => ?_
  refine wl hF rfl rfl rfl (r_loadn ag29 (hF.ev rfl) (hS.box_rd (i := 0) rfl) sz29) ?_; clear hF a; intro a hF
  refine wl_call hF rfl rfl rfl (r_call1 en114 (hF.ev rfl)) (specIsConfig_c _) ?_; clear hF a; rintro v w2 a ⟨rfl, hB_⟩ hF; replace hS := hS.ext hB_; clear hB_
  refine wl hF rfl rfl rfl (r_not (hF.ev rfl)) ?_; clear hF a; intro a hF
  refine wl_mvs (A := [_]) hF rfl ?_; clear hF a; intro a hF
  apply wl_or (A := [_, _, _, _, _, _, _]) (pk := 15) hF hS (tc := 8) rfl
  ·
    intro hg8 a hF; try simp only [zb1, zb2, zb3, zb4, zb5, zb6, zb7, zb8] at hg8
    refine wl_mvs (A := [_]) hF rfl ?_; clear hF a; intro a hF
    refine wl_take hF rfl rfl rfl rfl ?_
    refine wl hF rfl rfl rfl (r_field fo29_1 (hF.ev rfl)) ?_; clear hF a; intro a hF
    refine wl_take hF rfl rfl rfl rfl ?_
    refine wl hF rfl rfl rfl (r_load1 sc3 (hF.ev rfl) (hS.box (i := 0) rfl rfl)) ?_; clear hF a; intro a hF
    refine wl_take hF rfl rfl rfl rfl ?_
    refine wl hF rfl rfl rfl (r_sub (hF.ev rfl) ec) ?_; clear hF a; intro a hF
    refine wl_take hF rfl rfl rfl rfl ?_
    refine wl_call hF rfl rfl rfl (r_call3 en67 (hF.ev rfl) ec (hF.ev rfl)) (l1In_c _ _ _) ?_; clear hF a; rintro v w3 a ⟨rfl, hB_⟩ hF; replace hS := hS.ext hB_; clear hB_
    refine wl_take hF rfl rfl rfl rfl ?_
    refine wl hF rfl rfl rfl (r_not (hF.ev rfl)) ?_; clear hF a; intro a hF
    refine wl hF rfl rfl rfl (r_pick_f (hF.ev rfl) (hF.ev rfl)) ?_; clear hF a; intro a hF
    exact wl_nil ⟨rfl, (Fr.pre (A := [_, _, _, _, _, _, _]) hF rfl).keep hF (t := 15) rfl, hS⟩
  ·
    intro hg8 a hF; try simp only [zb1, zb2, zb3, zb4, zb5, zb6, zb7, zb8] at hg8
    refine wl_mvs (A := [_, _, _, _, _, _]) hF rfl ?_; clear hF a; intro a hF
    refine wl hF rfl rfl rfl (r_pick_t (hF.ev rfl) ec) ?_; clear hF a; intro a hF
    exact wl_nil ⟨rfl, (Fr.pre (A := [_, _, _, _, _, _, _]) hF rfl).keep hF (t := 15) rfl, hS⟩
  clear hF a hS; intro a w4 hF hS
  refine wl_nil (hK3 _ _ ?_)
  refine wc_fx (t := 15) hF rfl ?_ ?_ <;> clear hF <;> intro c15 hF <;> try simp only [zb1, zb2, zb3, zb4, zb5, zb6, zb7, zb8] at c15
  ·
    refine ws fun K4 hK4 => ?_
    refine wl_mvs (A := [_]) hF rfl ?_; clear hF a; intro a hF
    refine wl_nil (hK4 _ _ ?_)
    refine wp_ret ?_
    try simp only [Exit.then, Exit.inBlock, ↓reduceIte]
    refine ret1 rfl hF rfl ⟨congrArg vi ?_, hS.old⟩
    unfold headCell
    have hw : c.ok → IntKind.i64.wrap (c.threads - 1) = c.threads - 1 ∧ IntKind.i64.wrap (c.keys - 1) = c.keys - 1 ∧ IntKind.i64.wrap (c.capacity - 1) = c.capacity - 1 := fun h => by unfold Config.ok at h; exact ⟨wm1 (by omega) (by omega), wm1 (by omega) (by omega), wm1 (by omega) (by omega)⟩
    split
    · rename_i hif
      first
      | (exfalso; have hw1 := hw (by simp_all); simp_all; done)
      | (have hok : c.ok := (by simp_all); unfold Config.ok at hok; clear hw; simp only [w64]; omega)
    · rename_i hif
      first | rfl | (exfalso; have hw1 := hw (by simp_all); simp_all; done)
  refine wp_skip ?_
  refine hK2 _ _ ?_
  refine ws fun K5 hK5 => ?_
  refine wl hF rfl rfl rfl (r_field fo29_0 (hF.ev rfl)) ?_; clear hF a; intro a hF
  refine wl hF rfl rfl rfl (r_load1 sc3 (hF.ev rfl) (hS.box (i := 0) rfl rfl)) ?_; clear hF a; intro a hF
  refine wl hF rfl rfl rfl (r_mul ec (hF.ev rfl)) ?_; clear hF a; intro a hF
  refine wl hF rfl rfl rfl (r_add ec (hF.ev rfl)) ?_; clear hF a; intro a hF
  refine wl_mvs (A := [_]) hF rfl ?_; clear hF a; intro a hF
  refine wl hF rfl rfl rfl (r_add (hF.ev rfl) (hF.ev rfl)) ?_; clear hF a; intro a hF
  refine wl_mvs (A := [_]) hF rfl ?_; clear hF a; intro a hF
  refine wl_nil (hK5 _ _ ?_)
  refine wp_ret ?_
  try simp only [Exit.then, Exit.inBlock, ↓reduceIte]
  refine ret1 rfl hF rfl ⟨congrArg vi ?_, hS.old⟩
  unfold headCell
  have hw : c.ok → IntKind.i64.wrap (c.threads - 1) = c.threads - 1 ∧ IntKind.i64.wrap (c.keys - 1) = c.keys - 1 ∧ IntKind.i64.wrap (c.capacity - 1) = c.capacity - 1 := fun h => by unfold Config.ok at h; exact ⟨wm1 (by omega) (by omega), wm1 (by omega) (by omega), wm1 (by omega) (by omega)⟩
  split
  · rename_i hif
    first
    | (exfalso; have hw1 := hw (by simp_all); simp_all; done)
    | (have hok : c.ok := (by simp_all); unfold Config.ok at hok; clear hw; simp only [w64]; omega)
  · rename_i hif
    first | rfl | (exfalso; have hw1 := hw (by simp_all); simp_all; done)
set_option maxHeartbeats 4000000 in
set_option maxRecDepth 20000 in
theorem specNodeCell_c {W : World} (c : Config) (i f : Int) : Calls Tryz.prog 119 #[.agg c.enc.toArray, vi i, vi f] W (Ret fun v w' => v = vi (nodeCell c i f) ∧ Below W.heap.size W w') := by
  refine calls_fr Tryz.func119 rfl Tryz.ntmps119 rfl ?_
  intro a hF
  have hS := Sep.refl W
  refine ws fun K1 hK1 => ?_
  refine wl_box (cs := [_, _, _, _, _, _]) hF hS rfl (hF.ev rfl) rfl ?_; clear hF a; intro g1 w1 a hS_ hB_ hF; replace hS := hS_; clear hS_ hB_
  refine wl_mvs (A := [_]) hF rfl ?_; clear hF a; intro a hF
  refine wl_nil (hK1 _ _ ?_)
  refine wp_seq_k fun K2 hK2 => ?_
  refine ws fun K3 hK3 => ?_
  refine wl hF rfl rfl rfl (r_loadn ag29 (hF.ev rfl) (hS.box_rd (i := 0) rfl) sz29) ?_; clear hF a; intro a hF
  refine wl_call hF rfl rfl rfl (r_call1 en114 (hF.ev rfl)) (specIsConfig_c _) ?_; clear hF a; rintro v w2 a ⟨rfl, hB_⟩ hF; replace hS := hS.ext hB_; clear hB_
  refine wl hF rfl rfl rfl (r_not (hF.ev rfl)) ?_; clear hF a; intro a hF
  refine wl_mvs (A := [_]) hF rfl ?_; clear hF a; intro a hF
  apply wl_or (A := [_, _, _, _, _, _, _]) (pk := 17) hF hS (tc := 10) rfl
  ·
    intro hg10 a hF; try simp only [zb1, zb2, zb3, zb4, zb5, zb6, zb7, zb8] at hg10
    refine wl_mvs (A := [_]) hF rfl ?_; clear hF a; intro a hF
    refine wl_take hF rfl rfl rfl rfl ?_
    refine wl hF rfl rfl rfl (r_field fo29_2 (hF.ev rfl)) ?_; clear hF a; intro a hF
    refine wl_take hF rfl rfl rfl rfl ?_
    refine wl hF rfl rfl rfl (r_load1 sc3 (hF.ev rfl) (hS.box (i := 0) rfl rfl)) ?_; clear hF a; intro a hF
    refine wl_take hF rfl rfl rfl rfl ?_
    refine wl hF rfl rfl rfl (r_sub (hF.ev rfl) ec) ?_; clear hF a; intro a hF
    refine wl_take hF rfl rfl rfl rfl ?_
    refine wl_call hF rfl rfl rfl (r_call3 en67 (hF.ev rfl) ec (hF.ev rfl)) (l1In_c _ _ _) ?_; clear hF a; rintro v w3 a ⟨rfl, hB_⟩ hF; replace hS := hS.ext hB_; clear hB_
    refine wl_take hF rfl rfl rfl rfl ?_
    refine wl hF rfl rfl rfl (r_not (hF.ev rfl)) ?_; clear hF a; intro a hF
    refine wl hF rfl rfl rfl (r_pick_f (hF.ev rfl) (hF.ev rfl)) ?_; clear hF a; intro a hF
    exact wl_nil ⟨rfl, (Fr.pre (A := [_, _, _, _, _, _, _]) hF rfl).keep hF (t := 17) rfl, hS⟩
  ·
    intro hg10 a hF; try simp only [zb1, zb2, zb3, zb4, zb5, zb6, zb7, zb8] at hg10
    refine wl_mvs (A := [_, _, _, _, _, _]) hF rfl ?_; clear hF a; intro a hF
    refine wl hF rfl rfl rfl (r_pick_t (hF.ev rfl) ec) ?_; clear hF a; intro a hF
    exact wl_nil ⟨rfl, (Fr.pre (A := [_, _, _, _, _, _, _]) hF rfl).keep hF (t := 17) rfl, hS⟩
  clear hF a hS; intro a w4 hF hS
  refine wl_mvs (A := [_]) hF rfl ?_; clear hF a; intro a hF
  apply wl_or (A := [_, _, _, _]) (pk := 22) hF hS (tc := 18) rfl
  ·
    intro hg18 a hF; try simp only [zb1, zb2, zb3, zb4, zb5, zb6, zb7, zb8] at hg18
    refine wl_mvs (A := [_]) hF rfl ?_; clear hF a; intro a hF
    refine wl_take hF rfl rfl rfl rfl ?_
    refine wl_call hF rfl rfl rfl (r_call3 en67 (hF.ev rfl) ec ec) (l1In_c _ _ _) ?_; clear hF a; rintro v w5 a ⟨rfl, hB_⟩ hF; replace hS := hS.ext hB_; clear hB_
    refine wl_take hF rfl rfl rfl rfl ?_
    refine wl hF rfl rfl rfl (r_not (hF.ev rfl)) ?_; clear hF a; intro a hF
    refine wl hF rfl rfl rfl (r_pick_f (hF.ev rfl) (hF.ev rfl)) ?_; clear hF a; intro a hF
    exact wl_nil ⟨rfl, (Fr.pre (A := [_, _, _, _]) hF rfl).keep hF (t := 22) rfl, hS⟩
  ·
    intro hg18 a hF; try simp only [zb1, zb2, zb3, zb4, zb5, zb6, zb7, zb8] at hg18
    refine wl_mvs (A := [_, _, _]) hF rfl ?_; clear hF a; intro a hF
    refine wl hF rfl rfl rfl (r_pick_t (hF.ev rfl) ec) ?_; clear hF a; intro a hF
    exact wl_nil ⟨rfl, (Fr.pre (A := [_, _, _, _]) hF rfl).keep hF (t := 22) rfl, hS⟩
  clear hF a hS; intro a w6 hF hS
  refine wl_nil (hK3 _ _ ?_)
  refine wc_fx (t := 22) hF rfl ?_ ?_ <;> clear hF <;> intro c22 hF <;> try simp only [zb1, zb2, zb3, zb4, zb5, zb6, zb7, zb8] at c22
  ·
    refine ws fun K4 hK4 => ?_
    refine wl_mvs (A := [_]) hF rfl ?_; clear hF a; intro a hF
    refine wl_nil (hK4 _ _ ?_)
    refine wp_ret ?_
    try simp only [Exit.then, Exit.inBlock, ↓reduceIte]
    refine ret1 rfl hF rfl ⟨congrArg vi ?_, hS.old⟩
    unfold nodeCell
    have hw : c.ok → IntKind.i64.wrap (c.threads - 1) = c.threads - 1 ∧ IntKind.i64.wrap (c.keys - 1) = c.keys - 1 ∧ IntKind.i64.wrap (c.capacity - 1) = c.capacity - 1 := fun h => by unfold Config.ok at h; exact ⟨wm1 (by omega) (by omega), wm1 (by omega) (by omega), wm1 (by omega) (by omega)⟩
    split
    · rename_i hif
      first
      | (exfalso; have hw1 := hw (by simp_all); simp_all; done)
      | (have hok : c.ok := (by simp_all); unfold Config.ok at hok; clear hw; simp only [w64]; omega)
    · rename_i hif
      first | rfl | (exfalso; have hw1 := hw (by simp_all); simp_all; done)
  refine wp_skip ?_
  refine hK2 _ _ ?_
  refine ws fun K5 hK5 => ?_
  refine wl hF rfl rfl rfl (r_field fo29_0 (hF.ev rfl)) ?_; clear hF a; intro a hF
  refine wl hF rfl rfl rfl (r_load1 sc3 (hF.ev rfl) (hS.box (i := 0) rfl rfl)) ?_; clear hF a; intro a hF
  refine wl hF rfl rfl rfl (r_mul ec (hF.ev rfl)) ?_; clear hF a; intro a hF
  refine wl hF rfl rfl rfl (r_add ec (hF.ev rfl)) ?_; clear hF a; intro a hF
  refine wl hF rfl rfl rfl (r_field fo29_1 (hF.ev rfl)) ?_; clear hF a; intro a hF
  refine wl hF rfl rfl rfl (r_load1 sc3 (hF.ev rfl) (hS.box (i := 0) rfl rfl)) ?_; clear hF a; intro a hF
  refine wl hF rfl rfl rfl (r_add (hF.ev rfl) (hF.ev rfl)) ?_; clear hF a; intro a hF
  refine wl_mvs (A := [_]) hF rfl ?_; clear hF a; intro a hF
  refine wl hF rfl rfl rfl (r_mul ec (hF.ev rfl)) ?_; clear hF a; intro a hF
  refine wl hF rfl rfl rfl (r_add (hF.ev rfl) (hF.ev rfl)) ?_; clear hF a; intro a hF
  refine wl_mvs (A := [_]) hF rfl ?_; clear hF a; intro a hF
  refine wl hF rfl rfl rfl (r_add (hF.ev rfl) (hF.ev rfl)) ?_; clear hF a; intro a hF
  refine wl_mvs (A := [_]) hF rfl ?_; clear hF a; intro a hF
  refine wl_nil (hK5 _ _ ?_)
  refine wp_ret ?_
  try simp only [Exit.then, Exit.inBlock, ↓reduceIte]
  refine ret1 rfl hF rfl ⟨congrArg vi ?_, hS.old⟩
  unfold nodeCell
  have hw : c.ok → IntKind.i64.wrap (c.threads - 1) = c.threads - 1 ∧ IntKind.i64.wrap (c.keys - 1) = c.keys - 1 ∧ IntKind.i64.wrap (c.capacity - 1) = c.capacity - 1 := fun h => by unfold Config.ok at h; exact ⟨wm1 (by omega) (by omega), wm1 (by omega) (by omega), wm1 (by omega) (by omega)⟩
  split
  · rename_i hif
    first
    | (exfalso; have hw1 := hw (by simp_all); simp_all; done)
    | (have hok : c.ok := (by simp_all); unfold Config.ok at hok; clear hw; simp only [w64]; omega)
  · rename_i hif
    first | rfl | (exfalso; have hw1 := hw (by simp_all); simp_all; done)
set_option maxHeartbeats 4000000 in
set_option maxRecDepth 20000 in
theorem implCellCount_c {W : World} (c : Config)  : Calls Tryz.prog 121 #[.agg c.enc.toArray] W (Ret fun v w' => v = vi (cellCount c) ∧ Below W.heap.size W w') := by
  refine calls_fr Tryz.func121 rfl Tryz.ntmps121 rfl ?_
  intro a hF
  have hS := Sep.refl W
  refine ws fun K1 hK1 => ?_
  refine wl_box (cs := [_, _, _, _, _, _]) hF hS rfl (hF.ev rfl) rfl ?_; clear hF a; intro g1 w1 a hS_ hB_ hF; replace hS := hS_; clear hS_ hB_
  refine wl_mvs (A := [_]) hF rfl ?_; clear hF a; intro a hF
  refine wl_nil (hK1 _ _ ?_)
  refine wp_seq_k fun K2 hK2 => ?_
  refine ws fun K3 hK3 => ?_
  refine wl hF rfl rfl rfl (r_loadn ag29 (hF.ev rfl) (hS.box_rd (i := 0) rfl) sz29) ?_; clear hF a; intro a hF
  refine wl_call hF rfl rfl rfl (r_call1 en120 (hF.ev rfl)) (implIsConfig_c _) ?_; clear hF a; rintro v w2 a ⟨rfl, hB_⟩ hF; replace hS := hS.ext hB_; clear hB_
  refine wl hF rfl rfl rfl (r_not (hF.ev rfl)) ?_; clear hF a; intro a hF
  refine wl_nil (hK3 _ _ ?_)
  refine wc_fx (t := 5) hF rfl ?_ ?_ <;> clear hF <;> intro c5 hF <;> try simp only [zb1, zb2, zb3, zb4, zb5, zb6, zb7, zb8] at c5
  ·
    refine ws fun K4 hK4 => ?_
    refine wl_mvs (A := [_]) hF rfl ?_; clear hF a; intro a hF
    refine wl_nil (hK4 _ _ ?_)
    refine wp_ret ?_
    try simp only [Exit.then, Exit.inBlock, ↓reduceIte]
    refine ret1 rfl hF rfl ⟨congrArg vi ?_, hS.old⟩
    unfold cellCount
    have hw : c.ok → IntKind.i64.wrap (c.threads - 1) = c.threads - 1 ∧ IntKind.i64.wrap (c.keys - 1) = c.keys - 1 ∧ IntKind.i64.wrap (c.capacity - 1) = c.capacity - 1 := fun h => by unfold Config.ok at h; exact ⟨wm1 (by omega) (by omega), wm1 (by omega) (by omega), wm1 (by omega) (by omega)⟩
    split
    · rename_i hif
      first
      | (exfalso; have hw1 := hw (by simp_all); simp_all; done)
      | (have hok : c.ok := (by simp_all); unfold Config.ok at hok; clear hw; simp only [w64]; omega)
    · rename_i hif
      first | rfl | (exfalso; have hw1 := hw (by simp_all); simp_all; done)
  refine wp_skip ?_
  refine hK2 _ _ ?_
  refine ws fun K5 hK5 => ?_
  refine wl hF rfl rfl rfl (r_field fo29_0 (hF.ev rfl)) ?_; clear hF a; intro a hF
  refine wl hF rfl rfl rfl (r_load1 sc3 (hF.ev rfl) (hS.box (i := 0) rfl rfl)) ?_; clear hF a; intro a hF
  refine wl hF rfl rfl rfl (r_mul ec (hF.ev rfl)) ?_; clear hF a; intro a hF
  refine wl hF rfl rfl rfl (r_add ec (hF.ev rfl)) ?_; clear hF a; intro a hF
  refine wl hF rfl rfl rfl (r_field fo29_1 (hF.ev rfl)) ?_; clear hF a; intro a hF
  refine wl hF rfl rfl rfl (r_load1 sc3 (hF.ev rfl) (hS.box (i := 0) rfl rfl)) ?_; clear hF a; intro a hF
  refine wl hF rfl rfl rfl (r_add (hF.ev rfl) (hF.ev rfl)) ?_; clear hF a; intro a hF
  refine wl hF rfl rfl rfl (r_field fo29_2 (hF.ev rfl)) ?_; clear hF a; intro a hF
  refine wl hF rfl rfl rfl (r_load1 sc3 (hF.ev rfl) (hS.box (i := 0) rfl rfl)) ?_; clear hF a; intro a hF
  refine wl hF rfl rfl rfl (r_mul ec (hF.ev rfl)) ?_; clear hF a; intro a hF
  refine wl hF rfl rfl rfl (r_add (hF.ev rfl) (hF.ev rfl)) ?_; clear hF a; intro a hF
  refine wl_mvs (A := [_]) hF rfl ?_; clear hF a; intro a hF
  refine wl_nil (hK5 _ _ ?_)
  refine wp_ret ?_
  try simp only [Exit.then, Exit.inBlock, ↓reduceIte]
  refine ret1 rfl hF rfl ⟨congrArg vi ?_, hS.old⟩
  unfold cellCount
  have hw : c.ok → IntKind.i64.wrap (c.threads - 1) = c.threads - 1 ∧ IntKind.i64.wrap (c.keys - 1) = c.keys - 1 ∧ IntKind.i64.wrap (c.capacity - 1) = c.capacity - 1 := fun h => by unfold Config.ok at h; exact ⟨wm1 (by omega) (by omega), wm1 (by omega) (by omega), wm1 (by omega) (by omega)⟩
  split
  · rename_i hif
    first
    | (exfalso; have hw1 := hw (by simp_all); simp_all; done)
    | (have hok : c.ok := (by simp_all); unfold Config.ok at hok; clear hw; simp only [w64]; omega)
  · rename_i hif
    first | rfl | (exfalso; have hw1 := hw (by simp_all); simp_all; done)
set_option maxHeartbeats 4000000 in
set_option maxRecDepth 20000 in
theorem implHeadCell_c {W : World} (c : Config) (k : Int) : Calls Tryz.prog 96 #[.agg c.enc.toArray, vi k] W (Ret fun v w' => v = vi (headCell c k) ∧ Below W.heap.size W w') := by
  refine calls_fr Tryz.func96 rfl Tryz.ntmps96 rfl ?_
  intro a hF
  have hS := Sep.refl W
  refine ws fun K1 hK1 => ?_
  refine wl_box (cs := [_, _, _, _, _, _]) hF hS rfl (hF.ev rfl) rfl ?_; clear hF a; intro g1 w1 a hS_ hB_ hF; replace hS := hS_; clear hS_ hB_
  refine wl_mvs (A := [_]) hF rfl ?_; clear hF a; intro a hF
  refine wl_nil (hK1 _ _ ?_)
  refine wp_seq_k fun K2 hK2 => ?_
  refine ws fun K3 hK3 => ?_
  refine wl hF rfl rfl rfl (r_loadn ag29 (hF.ev rfl) (hS.box_rd (i := 0) rfl) sz29) ?_; clear hF a; intro a hF
  refine wl_call hF rfl rfl rfl (r_call1 en120 (hF.ev rfl)) (implIsConfig_c _) ?_; clear hF a; rintro v w2 a ⟨rfl, hB_⟩ hF; replace hS := hS.ext hB_; clear hB_
  refine wl hF rfl rfl rfl (r_not (hF.ev rfl)) ?_; clear hF a; intro a hF
  refine wl_mvs (A := [_]) hF rfl ?_; clear hF a; intro a hF
  apply wl_or (A := [_, _, _, _, _, _, _]) (pk := 15) hF hS (tc := 8) rfl
  ·
    intro hg8 a hF; try simp only [zb1, zb2, zb3, zb4, zb5, zb6, zb7, zb8] at hg8
    refine wl_mvs (A := [_]) hF rfl ?_; clear hF a; intro a hF
    refine wl_take hF rfl rfl rfl rfl ?_
    refine wl hF rfl rfl rfl (r_field fo29_1 (hF.ev rfl)) ?_; clear hF a; intro a hF
    refine wl_take hF rfl rfl rfl rfl ?_
    refine wl hF rfl rfl rfl (r_load1 sc3 (hF.ev rfl) (hS.box (i := 0) rfl rfl)) ?_; clear hF a; intro a hF
    refine wl_take hF rfl rfl rfl rfl ?_
    refine wl hF rfl rfl rfl (r_sub (hF.ev rfl) ec) ?_; clear hF a; intro a hF
    refine wl_take hF rfl rfl rfl rfl ?_
    refine wl_call hF rfl rfl rfl (r_call3 en75 (hF.ev rfl) ec (hF.ev rfl)) (in_c _ _ _) ?_; clear hF a; rintro v w3 a ⟨rfl, hB_⟩ hF; replace hS := hS.ext hB_; clear hB_
    refine wl_take hF rfl rfl rfl rfl ?_
    refine wl hF rfl rfl rfl (r_not (hF.ev rfl)) ?_; clear hF a; intro a hF
    refine wl hF rfl rfl rfl (r_pick_f (hF.ev rfl) (hF.ev rfl)) ?_; clear hF a; intro a hF
    exact wl_nil ⟨rfl, (Fr.pre (A := [_, _, _, _, _, _, _]) hF rfl).keep hF (t := 15) rfl, hS⟩
  ·
    intro hg8 a hF; try simp only [zb1, zb2, zb3, zb4, zb5, zb6, zb7, zb8] at hg8
    refine wl_mvs (A := [_, _, _, _, _, _]) hF rfl ?_; clear hF a; intro a hF
    refine wl hF rfl rfl rfl (r_pick_t (hF.ev rfl) ec) ?_; clear hF a; intro a hF
    exact wl_nil ⟨rfl, (Fr.pre (A := [_, _, _, _, _, _, _]) hF rfl).keep hF (t := 15) rfl, hS⟩
  clear hF a hS; intro a w4 hF hS
  refine wl_nil (hK3 _ _ ?_)
  refine wc_fx (t := 15) hF rfl ?_ ?_ <;> clear hF <;> intro c15 hF <;> try simp only [zb1, zb2, zb3, zb4, zb5, zb6, zb7, zb8] at c15
  ·
    refine ws fun K4 hK4 => ?_
    refine wl_mvs (A := [_]) hF rfl ?_; clear hF a; intro a hF
    refine wl_nil (hK4 _ _ ?_)
    refine wp_ret ?_
    try simp only [Exit.then, Exit.inBlock, ↓reduceIte]
    refine ret1 rfl hF rfl ⟨congrArg vi ?_, hS.old⟩
    unfold headCell
    have hw : c.ok → IntKind.i64.wrap (c.threads - 1) = c.threads - 1 ∧ IntKind.i64.wrap (c.keys - 1) = c.keys - 1 ∧ IntKind.i64.wrap (c.capacity - 1) = c.capacity - 1 := fun h => by unfold Config.ok at h; exact ⟨wm1 (by omega) (by omega), wm1 (by omega) (by omega), wm1 (by omega) (by omega)⟩
    split
    · rename_i hif
      first
      | (exfalso; have hw1 := hw (by simp_all); simp_all; done)
      | (have hok : c.ok := (by simp_all); unfold Config.ok at hok; clear hw; simp only [w64]; omega)
    · rename_i hif
      first | rfl | (exfalso; have hw1 := hw (by simp_all); simp_all; done)
  refine wp_skip ?_
  refine hK2 _ _ ?_
  refine ws fun K5 hK5 => ?_
  refine wl hF rfl rfl rfl (r_field fo29_0 (hF.ev rfl)) ?_; clear hF a; intro a hF
  refine wl hF rfl rfl rfl (r_load1 sc3 (hF.ev rfl) (hS.box (i := 0) rfl rfl)) ?_; clear hF a; intro a hF
  refine wl hF rfl rfl rfl (r_mul ec (hF.ev rfl)) ?_; clear hF a; intro a hF
  refine wl hF rfl rfl rfl (r_add ec (hF.ev rfl)) ?_; clear hF a; intro a hF
  refine wl_mvs (A := [_]) hF rfl ?_; clear hF a; intro a hF
  refine wl hF rfl rfl rfl (r_add (hF.ev rfl) (hF.ev rfl)) ?_; clear hF a; intro a hF
  refine wl_mvs (A := [_]) hF rfl ?_; clear hF a; intro a hF
  refine wl_nil (hK5 _ _ ?_)
  refine wp_ret ?_
  try simp only [Exit.then, Exit.inBlock, ↓reduceIte]
  refine ret1 rfl hF rfl ⟨congrArg vi ?_, hS.old⟩
  unfold headCell
  have hw : c.ok → IntKind.i64.wrap (c.threads - 1) = c.threads - 1 ∧ IntKind.i64.wrap (c.keys - 1) = c.keys - 1 ∧ IntKind.i64.wrap (c.capacity - 1) = c.capacity - 1 := fun h => by unfold Config.ok at h; exact ⟨wm1 (by omega) (by omega), wm1 (by omega) (by omega), wm1 (by omega) (by omega)⟩
  split
  · rename_i hif
    first
    | (exfalso; have hw1 := hw (by simp_all); simp_all; done)
    | (have hok : c.ok := (by simp_all); unfold Config.ok at hok; clear hw; simp only [w64]; omega)
  · rename_i hif
    first | rfl | (exfalso; have hw1 := hw (by simp_all); simp_all; done)
set_option maxHeartbeats 4000000 in
set_option maxRecDepth 20000 in
theorem implNodeCell_c {W : World} (c : Config) (i f : Int) : Calls Tryz.prog 124 #[.agg c.enc.toArray, vi i, vi f] W (Ret fun v w' => v = vi (nodeCell c i f) ∧ Below W.heap.size W w') := by
  refine calls_fr Tryz.func124 rfl Tryz.ntmps124 rfl ?_
  intro a hF
  have hS := Sep.refl W
  refine ws fun K1 hK1 => ?_
  refine wl_box (cs := [_, _, _, _, _, _]) hF hS rfl (hF.ev rfl) rfl ?_; clear hF a; intro g1 w1 a hS_ hB_ hF; replace hS := hS_; clear hS_ hB_
  refine wl_mvs (A := [_]) hF rfl ?_; clear hF a; intro a hF
  refine wl_nil (hK1 _ _ ?_)
  refine wp_seq_k fun K2 hK2 => ?_
  refine ws fun K3 hK3 => ?_
  refine wl hF rfl rfl rfl (r_loadn ag29 (hF.ev rfl) (hS.box_rd (i := 0) rfl) sz29) ?_; clear hF a; intro a hF
  refine wl_call hF rfl rfl rfl (r_call1 en120 (hF.ev rfl)) (implIsConfig_c _) ?_; clear hF a; rintro v w2 a ⟨rfl, hB_⟩ hF; replace hS := hS.ext hB_; clear hB_
  refine wl hF rfl rfl rfl (r_not (hF.ev rfl)) ?_; clear hF a; intro a hF
  refine wl_mvs (A := [_]) hF rfl ?_; clear hF a; intro a hF
  apply wl_or (A := [_, _, _, _, _, _, _]) (pk := 17) hF hS (tc := 10) rfl
  ·
    intro hg10 a hF; try simp only [zb1, zb2, zb3, zb4, zb5, zb6, zb7, zb8] at hg10
    refine wl_mvs (A := [_]) hF rfl ?_; clear hF a; intro a hF
    refine wl_take hF rfl rfl rfl rfl ?_
    refine wl hF rfl rfl rfl (r_field fo29_2 (hF.ev rfl)) ?_; clear hF a; intro a hF
    refine wl_take hF rfl rfl rfl rfl ?_
    refine wl hF rfl rfl rfl (r_load1 sc3 (hF.ev rfl) (hS.box (i := 0) rfl rfl)) ?_; clear hF a; intro a hF
    refine wl_take hF rfl rfl rfl rfl ?_
    refine wl hF rfl rfl rfl (r_sub (hF.ev rfl) ec) ?_; clear hF a; intro a hF
    refine wl_take hF rfl rfl rfl rfl ?_
    refine wl_call hF rfl rfl rfl (r_call3 en75 (hF.ev rfl) ec (hF.ev rfl)) (in_c _ _ _) ?_; clear hF a; rintro v w3 a ⟨rfl, hB_⟩ hF; replace hS := hS.ext hB_; clear hB_
    refine wl_take hF rfl rfl rfl rfl ?_
    refine wl hF rfl rfl rfl (r_not (hF.ev rfl)) ?_; clear hF a; intro a hF
    refine wl hF rfl rfl rfl (r_pick_f (hF.ev rfl) (hF.ev rfl)) ?_; clear hF a; intro a hF
    exact wl_nil ⟨rfl, (Fr.pre (A := [_, _, _, _, _, _, _]) hF rfl).keep hF (t := 17) rfl, hS⟩
  ·
    intro hg10 a hF; try simp only [zb1, zb2, zb3, zb4, zb5, zb6, zb7, zb8] at hg10
    refine wl_mvs (A := [_, _, _, _, _, _]) hF rfl ?_; clear hF a; intro a hF
    refine wl hF rfl rfl rfl (r_pick_t (hF.ev rfl) ec) ?_; clear hF a; intro a hF
    exact wl_nil ⟨rfl, (Fr.pre (A := [_, _, _, _, _, _, _]) hF rfl).keep hF (t := 17) rfl, hS⟩
  clear hF a hS; intro a w4 hF hS
  refine wl_mvs (A := [_]) hF rfl ?_; clear hF a; intro a hF
  apply wl_or (A := [_, _, _, _]) (pk := 22) hF hS (tc := 18) rfl
  ·
    intro hg18 a hF; try simp only [zb1, zb2, zb3, zb4, zb5, zb6, zb7, zb8] at hg18
    refine wl_mvs (A := [_]) hF rfl ?_; clear hF a; intro a hF
    refine wl_take hF rfl rfl rfl rfl ?_
    refine wl_call hF rfl rfl rfl (r_call3 en75 (hF.ev rfl) ec ec) (in_c _ _ _) ?_; clear hF a; rintro v w5 a ⟨rfl, hB_⟩ hF; replace hS := hS.ext hB_; clear hB_
    refine wl_take hF rfl rfl rfl rfl ?_
    refine wl hF rfl rfl rfl (r_not (hF.ev rfl)) ?_; clear hF a; intro a hF
    refine wl hF rfl rfl rfl (r_pick_f (hF.ev rfl) (hF.ev rfl)) ?_; clear hF a; intro a hF
    exact wl_nil ⟨rfl, (Fr.pre (A := [_, _, _, _]) hF rfl).keep hF (t := 22) rfl, hS⟩
  ·
    intro hg18 a hF; try simp only [zb1, zb2, zb3, zb4, zb5, zb6, zb7, zb8] at hg18
    refine wl_mvs (A := [_, _, _]) hF rfl ?_; clear hF a; intro a hF
    refine wl hF rfl rfl rfl (r_pick_t (hF.ev rfl) ec) ?_; clear hF a; intro a hF
    exact wl_nil ⟨rfl, (Fr.pre (A := [_, _, _, _]) hF rfl).keep hF (t := 22) rfl, hS⟩
  clear hF a hS; intro a w6 hF hS
  refine wl_nil (hK3 _ _ ?_)
  refine wc_fx (t := 22) hF rfl ?_ ?_ <;> clear hF <;> intro c22 hF <;> try simp only [zb1, zb2, zb3, zb4, zb5, zb6, zb7, zb8] at c22
  ·
    refine ws fun K4 hK4 => ?_
    refine wl_mvs (A := [_]) hF rfl ?_; clear hF a; intro a hF
    refine wl_nil (hK4 _ _ ?_)
    refine wp_ret ?_
    try simp only [Exit.then, Exit.inBlock, ↓reduceIte]
    refine ret1 rfl hF rfl ⟨congrArg vi ?_, hS.old⟩
    unfold nodeCell
    have hw : c.ok → IntKind.i64.wrap (c.threads - 1) = c.threads - 1 ∧ IntKind.i64.wrap (c.keys - 1) = c.keys - 1 ∧ IntKind.i64.wrap (c.capacity - 1) = c.capacity - 1 := fun h => by unfold Config.ok at h; exact ⟨wm1 (by omega) (by omega), wm1 (by omega) (by omega), wm1 (by omega) (by omega)⟩
    split
    · rename_i hif
      first
      | (exfalso; have hw1 := hw (by simp_all); simp_all; done)
      | (have hok : c.ok := (by simp_all); unfold Config.ok at hok; clear hw; simp only [w64]; omega)
    · rename_i hif
      first | rfl | (exfalso; have hw1 := hw (by simp_all); simp_all; done)
  refine wp_skip ?_
  refine hK2 _ _ ?_
  refine ws fun K5 hK5 => ?_
  refine wl hF rfl rfl rfl (r_field fo29_0 (hF.ev rfl)) ?_; clear hF a; intro a hF
  refine wl hF rfl rfl rfl (r_load1 sc3 (hF.ev rfl) (hS.box (i := 0) rfl rfl)) ?_; clear hF a; intro a hF
  refine wl hF rfl rfl rfl (r_mul ec (hF.ev rfl)) ?_; clear hF a; intro a hF
  refine wl hF rfl rfl rfl (r_add ec (hF.ev rfl)) ?_; clear hF a; intro a hF
  refine wl hF rfl rfl rfl (r_field fo29_1 (hF.ev rfl)) ?_; clear hF a; intro a hF
  refine wl hF rfl rfl rfl (r_load1 sc3 (hF.ev rfl) (hS.box (i := 0) rfl rfl)) ?_; clear hF a; intro a hF
  refine wl hF rfl rfl rfl (r_add (hF.ev rfl) (hF.ev rfl)) ?_; clear hF a; intro a hF
  refine wl_mvs (A := [_]) hF rfl ?_; clear hF a; intro a hF
  refine wl hF rfl rfl rfl (r_mul ec (hF.ev rfl)) ?_; clear hF a; intro a hF
  refine wl hF rfl rfl rfl (r_add (hF.ev rfl) (hF.ev rfl)) ?_; clear hF a; intro a hF
  refine wl_mvs (A := [_]) hF rfl ?_; clear hF a; intro a hF
  refine wl hF rfl rfl rfl (r_add (hF.ev rfl) (hF.ev rfl)) ?_; clear hF a; intro a hF
  refine wl_mvs (A := [_]) hF rfl ?_; clear hF a; intro a hF
  refine wl_nil (hK5 _ _ ?_)
  refine wp_ret ?_
  try simp only [Exit.then, Exit.inBlock, ↓reduceIte]
  refine ret1 rfl hF rfl ⟨congrArg vi ?_, hS.old⟩
  unfold nodeCell
  have hw : c.ok → IntKind.i64.wrap (c.threads - 1) = c.threads - 1 ∧ IntKind.i64.wrap (c.keys - 1) = c.keys - 1 ∧ IntKind.i64.wrap (c.capacity - 1) = c.capacity - 1 := fun h => by unfold Config.ok at h; exact ⟨wm1 (by omega) (by omega), wm1 (by omega) (by omega), wm1 (by omega) (by omega)⟩
  split
  · rename_i hif
    first
    | (exfalso; have hw1 := hw (by simp_all); simp_all; done)
    | (have hok : c.ok := (by simp_all); unfold Config.ok at hok; clear hw; simp only [w64]; omega)
  · rename_i hif
    first | rfl | (exfalso; have hw1 := hw (by simp_all); simp_all; done)
set_option maxHeartbeats 4000000 in
set_option maxRecDepth 20000 in
theorem implClockCell_c {W : World}  : Calls Tryz.prog 78 #[] W (Ret fun v w' => v = vi 0 ∧ Below W.heap.size W w') := by
  refine calls_fr Tryz.func78 rfl Tryz.ntmps78 rfl ?_
  intro a hF
  have hS := Sep.refl W
  refine ws fun K1 hK1 => ?_
  refine wl_mvs (A := [_]) hF rfl ?_; clear hF a; intro a hF
  refine wl_nil (hK1 _ _ ?_)
  refine ws fun K2 hK2 => ?_
  refine wl_mvs (A := [_]) hF rfl ?_; clear hF a; intro a hF
  refine wl_nil (hK2 _ _ ?_)
  refine wp_ret ?_
  try simp only [Exit.then, Exit.inBlock, ↓reduceIte]
  exact ret1 rfl hF rfl ⟨rfl, hS.old⟩
set_option maxHeartbeats 4000000 in
set_option maxRecDepth 20000 in
theorem implArenaCell_c {W : World}  : Calls Tryz.prog 122 #[] W (Ret fun v w' => v = vi 1 ∧ Below W.heap.size W w') := by
  refine calls_fr Tryz.func122 rfl Tryz.ntmps122 rfl ?_
  intro a hF
  have hS := Sep.refl W
  refine ws fun K1 hK1 => ?_
  refine wl_mvs (A := [_]) hF rfl ?_; clear hF a; intro a hF
  refine wl_nil (hK1 _ _ ?_)
  refine ws fun K2 hK2 => ?_
  refine wl_mvs (A := [_]) hF rfl ?_; clear hF a; intro a hF
  refine wl_nil (hK2 _ _ ?_)
  refine wp_ret ?_
  try simp only [Exit.then, Exit.inBlock, ↓reduceIte]
  exact ret1 rfl hF rfl ⟨rfl, hS.old⟩
set_option maxHeartbeats 4000000 in
set_option maxRecDepth 20000 in
theorem specIsEntry_c {W : World} {e : Entry} (hw : e.wf) : Calls Tryz.prog 154 #[.agg e.enc.toArray] W (Ret fun v w' => v = .bool (isEntry e) ∧ Below W.heap.size W w') := by
  refine calls_fr Tryz.func154 rfl Tryz.ntmps154 rfl ?_
  intro a hF
  have hS := Sep.refl W
  refine ws fun K1 hK1 => ?_
  refine wl_box (cs := [_, _, _, _]) hF hS rfl (hF.ev rfl) rfl ?_; clear hF a; intro g1 w1 a hS_ hB_ hF; replace hS := hS_; clear hS_ hB_
  refine wl_mvs (A := [_]) hF rfl ?_; clear hF a; intro a hF
  refine wl_nil (hK1 _ _ ?_)
  refine ws fun K2 hK2 => ?_
  refine wl hF rfl rfl rfl (r_field fo100_0 (hF.ev rfl)) ?_; clear hF a; intro a hF
  refine wl hF rfl rfl rfl (r_load1 sc3 (hF.ev rfl) (hS.box (i := 0) rfl rfl)) ?_; clear hF a; intro a hF
  refine wl_call hF rfl rfl rfl (r_call1 en143 (hF.ev rfl)) (specIsHandle_c hw.1) ?_; clear hF a; rintro v w2 a ⟨rfl, hB_⟩ hF; replace hS := hS.ext hB_; clear hB_
  refine wl_mvs (A := [_]) hF rfl ?_; clear hF a; intro a hF
  apply wl_and (A := [_, _, _, _, _]) (pk := 11) hF hS (tc := 6) rfl
  ·
    intro hg6 a hF; try simp only [zb1, zb2, zb3, zb4, zb5, zb6, zb7, zb8] at hg6
    refine wl_take hF rfl rfl rfl rfl ?_
    refine wl hF rfl rfl rfl (r_field fo100_0 (hF.ev rfl)) ?_; clear hF a; intro a hF
    refine wl_take hF rfl rfl rfl rfl ?_
    refine wl hF rfl rfl rfl (r_load1 sc3 (hF.ev rfl) (hS.box (i := 0) rfl rfl)) ?_; clear hF a; intro a hF
    refine wl_take hF rfl rfl rfl rfl ?_
    refine wl_call hF rfl rfl rfl (r_call1 en93 (hF.ev rfl)) (specIsMarked_c hw.1) ?_; clear hF a; rintro v w3 a ⟨rfl, hB_⟩ hF; replace hS := hS.ext hB_; clear hB_
    refine wl_take hF rfl rfl rfl rfl ?_
    refine wl hF rfl rfl rfl (r_not (hF.ev rfl)) ?_; clear hF a; intro a hF
    refine wl hF rfl rfl rfl (r_pick_t (hF.ev rfl) (hF.ev rfl)) ?_; clear hF a; intro a hF
    exact wl_nil ⟨rfl, (Fr.pre (A := [_, _, _, _, _]) hF rfl).keep hF (t := 11) rfl, hS⟩
  ·
    intro hg6 a hF; try simp only [zb1, zb2, zb3, zb4, zb5, zb6, zb7, zb8] at hg6
    refine wl_mvs (A := [_, _, _, _]) hF rfl ?_; clear hF a; intro a hF
    refine wl hF rfl rfl rfl (r_pick_f (hF.ev rfl) ec) ?_; clear hF a; intro a hF
    exact wl_nil ⟨rfl, (Fr.pre (A := [_, _, _, _, _]) hF rfl).keep hF (t := 11) rfl, hS⟩
  clear hF a hS; intro a w4 hF hS
  refine wl_mvs (A := [_]) hF rfl ?_; clear hF a; intro a hF
  apply wl_and (A := [_, _, _, _]) (pk := 16) hF hS (tc := 12) rfl
  ·
    intro hg12 a hF; try simp only [zb1, zb2, zb3, zb4, zb5, zb6, zb7, zb8] at hg12
    refine wl_take hF rfl rfl rfl rfl ?_
    refine wl hF rfl rfl rfl (r_field fo100_1 (hF.ev rfl)) ?_; clear hF a; intro a hF
    refine wl_take hF rfl rfl rfl rfl ?_
    refine wl hF rfl rfl rfl (r_load1 sc3 (hF.ev rfl) (hS.box (i := 0) rfl rfl)) ?_; clear hF a; intro a hF
    refine wl_take hF rfl rfl rfl rfl ?_
    refine wl_call hF rfl rfl rfl (r_call3 en67 (hF.ev rfl) ec ec) (l1In_c _ _ _) ?_; clear hF a; rintro v w5 a ⟨rfl, hB_⟩ hF; replace hS := hS.ext hB_; clear hB_
    refine wl hF rfl rfl rfl (r_pick_t (hF.ev rfl) (hF.ev rfl)) ?_; clear hF a; intro a hF
    exact wl_nil ⟨rfl, (Fr.pre (A := [_, _, _, _]) hF rfl).keep hF (t := 16) rfl, hS⟩
  ·
    intro hg12 a hF; try simp only [zb1, zb2, zb3, zb4, zb5, zb6, zb7, zb8] at hg12
    refine wl_mvs (A := [_, _, _]) hF rfl ?_; clear hF a; intro a hF
    refine wl hF rfl rfl rfl (r_pick_f (hF.ev rfl) ec) ?_; clear hF a; intro a hF
    exact wl_nil ⟨rfl, (Fr.pre (A := [_, _, _, _]) hF rfl).keep hF (t := 16) rfl, hS⟩
  clear hF a hS; intro a w6 hF hS
  refine wl_mvs (A := [_]) hF rfl ?_; clear hF a; intro a hF
  apply wl_and (A := [_, _, _, _, _, _]) (pk := 23) hF hS (tc := 17) rfl
  ·
    intro hg17 a hF; try simp only [zb1, zb2, zb3, zb4, zb5, zb6, zb7, zb8] at hg17
    refine wl_take hF rfl rfl rfl rfl ?_
    refine wl hF rfl rfl rfl (r_field fo100_2 (hF.ev rfl)) ?_; clear hF a; intro a hF
    refine wl_take hF rfl rfl rfl rfl ?_
    refine wl hF rfl rfl rfl (r_load1 sc3 (hF.ev rfl) (hS.box (i := 0) rfl rfl)) ?_; clear hF a; intro a hF
    refine wl_take hF rfl rfl rfl rfl ?_
    refine wl hF rfl rfl rfl (r_field fo100_3 (hF.ev rfl)) ?_; clear hF a; intro a hF
    refine wl_take hF rfl rfl rfl rfl ?_
    refine wl hF rfl rfl rfl (r_load1 sc3 (hF.ev rfl) (hS.box (i := 0) rfl rfl)) ?_; clear hF a; intro a hF
    refine wl_take hF rfl rfl rfl rfl ?_
    refine wl_call hF rfl rfl rfl (r_call3 en67 (hF.ev rfl) ec (hF.ev rfl)) (l1In_c _ _ _) ?_; clear hF a; rintro v w7 a ⟨rfl, hB_⟩ hF; replace hS := hS.ext hB_; clear hB_
    refine wl hF rfl rfl rfl (r_pick_t (hF.ev rfl) (hF.ev rfl)) ?_; clear hF a; intro a hF
    exact wl_nil ⟨rfl, (Fr.pre (A := [_, _, _, _, _, _]) hF rfl).keep hF (t := 23) rfl, hS⟩
  ·
    intro hg17 a hF; try simp only [zb1, zb2, zb3, zb4, zb5, zb6, zb7, zb8] at hg17
    refine wl_mvs (A := [_, _, _, _, _]) hF rfl ?_; clear hF a; intro a hF
    refine wl hF rfl rfl rfl (r_pick_f (hF.ev rfl) ec) ?_; clear hF a; intro a hF
    exact wl_nil ⟨rfl, (Fr.pre (A := [_, _, _, _, _, _]) hF rfl).keep hF (t := 23) rfl, hS⟩
  clear hF a hS; intro a w8 hF hS
  refine wl_mvs (A := [_]) hF rfl ?_; clear hF a; intro a hF
  apply wl_and (A := [_, _, _, _]) (pk := 28) hF hS (tc := 24) rfl
  ·
    intro hg24 a hF; try simp only [zb1, zb2, zb3, zb4, zb5, zb6, zb7, zb8] at hg24
    refine wl_take hF rfl rfl rfl rfl ?_
    refine wl hF rfl rfl rfl (r_field fo100_3 (hF.ev rfl)) ?_; clear hF a; intro a hF
    refine wl_take hF rfl rfl rfl rfl ?_
    refine wl hF rfl rfl rfl (r_load1 sc3 (hF.ev rfl) (hS.box (i := 0) rfl rfl)) ?_; clear hF a; intro a hF
    refine wl_take hF rfl rfl rfl rfl ?_
    refine wl hF rfl rfl rfl (r_leq (hF.ev rfl) ec) ?_; clear hF a; intro a hF
    refine wl hF rfl rfl rfl (r_pick_t (hF.ev rfl) (hF.ev rfl)) ?_; clear hF a; intro a hF
    exact wl_nil ⟨rfl, (Fr.pre (A := [_, _, _, _]) hF rfl).keep hF (t := 28) rfl, hS⟩
  ·
    intro hg24 a hF; try simp only [zb1, zb2, zb3, zb4, zb5, zb6, zb7, zb8] at hg24
    refine wl_mvs (A := [_, _, _]) hF rfl ?_; clear hF a; intro a hF
    refine wl hF rfl rfl rfl (r_pick_f (hF.ev rfl) ec) ?_; clear hF a; intro a hF
    exact wl_nil ⟨rfl, (Fr.pre (A := [_, _, _, _]) hF rfl).keep hF (t := 28) rfl, hS⟩
  clear hF a hS; intro a w9 hF hS
  refine wl_mvs (A := [_]) hF rfl ?_; clear hF a; intro a hF
  refine wl_nil (hK2 _ _ ?_)
  refine wp_ret ?_
  try simp only [Exit.then, Exit.inBlock, ↓reduceIte]
  refine ret1 rfl hF rfl ⟨congrArg Value.bool ?_, hS.old⟩
  unfold isEntry
  first | rfl | (rw [Bool.eq_iff_iff]; simp only [Bool.and_eq_true, decide_eq_true_eq, and_assoc])
set_option maxHeartbeats 4000000 in
set_option maxRecDepth 20000 in
theorem implIsEntry_c {W : World} {e : Entry} (hw : e.wf) : Calls Tryz.prog 190 #[.agg e.enc.toArray] W (Ret fun v w' => v = .bool (isEntry e) ∧ Below W.heap.size W w') := by
  refine calls_fr Tryz.func190 rfl Tryz.ntmps190 rfl ?_
  intro a hF
  have hS := Sep.refl W
  refine ws fun K1 hK1 => ?_
  refine wl_box (cs := [_, _, _, _]) hF hS rfl (hF.ev rfl) rfl ?_; clear hF a; intro g1 w1 a hS_ hB_ hF; replace hS := hS_; clear hS_ hB_
  refine wl_mvs (A := [_]) hF rfl ?_; clear hF a; intro a hF
  refine wl_nil (hK1 _ _ ?_)
  refine ws fun K2 hK2 => ?_
  refine wl hF rfl rfl rfl (r_field fo100_0 (hF.ev rfl)) ?_; clear hF a; intro a hF
  refine wl hF rfl rfl rfl (r_load1 sc3 (hF.ev rfl) (hS.box (i := 0) rfl rfl)) ?_; clear hF a; intro a hF
  refine wl_call hF rfl rfl rfl (r_call1 en146 (hF.ev rfl)) (implIsHandle_c hw.1) ?_; clear hF a; rintro v w2 a ⟨rfl, hB_⟩ hF; replace hS := hS.ext hB_; clear hB_
  refine wl_mvs (A := [_]) hF rfl ?_; clear hF a; intro a hF
  apply wl_and (A := [_, _, _, _, _]) (pk := 11) hF hS (tc := 6) rfl
  ·
    intro hg6 a hF; try simp only [zb1, zb2, zb3, zb4, zb5, zb6, zb7, zb8] at hg6
    refine wl_take hF rfl rfl rfl rfl ?_
    refine wl hF rfl rfl rfl (r_field fo100_0 (hF.ev rfl)) ?_; clear hF a; intro a hF
    refine wl_take hF rfl rfl rfl rfl ?_
    refine wl hF rfl rfl rfl (r_load1 sc3 (hF.ev rfl) (hS.box (i := 0) rfl rfl)) ?_; clear hF a; intro a hF
    refine wl_take hF rfl rfl rfl rfl ?_
    refine wl_call hF rfl rfl rfl (r_call1 en102 (hF.ev rfl)) (implIsMarked_c hw.1) ?_; clear hF a; rintro v w3 a ⟨rfl, hB_⟩ hF; replace hS := hS.ext hB_; clear hB_
    refine wl_take hF rfl rfl rfl rfl ?_
    refine wl hF rfl rfl rfl (r_not (hF.ev rfl)) ?_; clear hF a; intro a hF
    refine wl hF rfl rfl rfl (r_pick_t (hF.ev rfl) (hF.ev rfl)) ?_; clear hF a; intro a hF
    exact wl_nil ⟨rfl, (Fr.pre (A := [_, _, _, _, _]) hF rfl).keep hF (t := 11) rfl, hS⟩
  ·
    intro hg6 a hF; try simp only [zb1, zb2, zb3, zb4, zb5, zb6, zb7, zb8] at hg6
    refine wl_mvs (A := [_, _, _, _]) hF rfl ?_; clear hF a; intro a hF
    refine wl hF rfl rfl rfl (r_pick_f (hF.ev rfl) ec) ?_; clear hF a; intro a hF
    exact wl_nil ⟨rfl, (Fr.pre (A := [_, _, _, _, _]) hF rfl).keep hF (t := 11) rfl, hS⟩
  clear hF a hS; intro a w4 hF hS
  refine wl_mvs (A := [_]) hF rfl ?_; clear hF a; intro a hF
  apply wl_and (A := [_, _, _, _]) (pk := 16) hF hS (tc := 12) rfl
  ·
    intro hg12 a hF; try simp only [zb1, zb2, zb3, zb4, zb5, zb6, zb7, zb8] at hg12
    refine wl_take hF rfl rfl rfl rfl ?_
    refine wl hF rfl rfl rfl (r_field fo100_1 (hF.ev rfl)) ?_; clear hF a; intro a hF
    refine wl_take hF rfl rfl rfl rfl ?_
    refine wl hF rfl rfl rfl (r_load1 sc3 (hF.ev rfl) (hS.box (i := 0) rfl rfl)) ?_; clear hF a; intro a hF
    refine wl_take hF rfl rfl rfl rfl ?_
    refine wl_call hF rfl rfl rfl (r_call3 en75 (hF.ev rfl) ec ec) (in_c _ _ _) ?_; clear hF a; rintro v w5 a ⟨rfl, hB_⟩ hF; replace hS := hS.ext hB_; clear hB_
    refine wl hF rfl rfl rfl (r_pick_t (hF.ev rfl) (hF.ev rfl)) ?_; clear hF a; intro a hF
    exact wl_nil ⟨rfl, (Fr.pre (A := [_, _, _, _]) hF rfl).keep hF (t := 16) rfl, hS⟩
  ·
    intro hg12 a hF; try simp only [zb1, zb2, zb3, zb4, zb5, zb6, zb7, zb8] at hg12
    refine wl_mvs (A := [_, _, _]) hF rfl ?_; clear hF a; intro a hF
    refine wl hF rfl rfl rfl (r_pick_f (hF.ev rfl) ec) ?_; clear hF a; intro a hF
    exact wl_nil ⟨rfl, (Fr.pre (A := [_, _, _, _]) hF rfl).keep hF (t := 16) rfl, hS⟩
  clear hF a hS; intro a w6 hF hS
  refine wl_mvs (A := [_]) hF rfl ?_; clear hF a; intro a hF
  apply wl_and (A := [_, _, _, _]) (pk := 21) hF hS (tc := 17) rfl
  ·
    intro hg17 a hF; try simp only [zb1, zb2, zb3, zb4, zb5, zb6, zb7, zb8] at hg17
    refine wl_take hF rfl rfl rfl rfl ?_
    refine wl hF rfl rfl rfl (r_field fo100_2 (hF.ev rfl)) ?_; clear hF a; intro a hF
    refine wl_take hF rfl rfl rfl rfl ?_
    refine wl hF rfl rfl rfl (r_load1 sc3 (hF.ev rfl) (hS.box (i := 0) rfl rfl)) ?_; clear hF a; intro a hF
    refine wl_take hF rfl rfl rfl rfl ?_
    refine wl hF rfl rfl rfl (r_leq ec (hF.ev rfl)) ?_; clear hF a; intro a hF
    refine wl hF rfl rfl rfl (r_pick_t (hF.ev rfl) (hF.ev rfl)) ?_; clear hF a; intro a hF
    exact wl_nil ⟨rfl, (Fr.pre (A := [_, _, _, _]) hF rfl).keep hF (t := 21) rfl, hS⟩
  ·
    intro hg17 a hF; try simp only [zb1, zb2, zb3, zb4, zb5, zb6, zb7, zb8] at hg17
    refine wl_mvs (A := [_, _, _]) hF rfl ?_; clear hF a; intro a hF
    refine wl hF rfl rfl rfl (r_pick_f (hF.ev rfl) ec) ?_; clear hF a; intro a hF
    exact wl_nil ⟨rfl, (Fr.pre (A := [_, _, _, _]) hF rfl).keep hF (t := 21) rfl, hS⟩
  clear hF a hS; intro a w7 hF hS
  refine wl_mvs (A := [_]) hF rfl ?_; clear hF a; intro a hF
  apply wl_and (A := [_, _, _, _, _, _]) (pk := 28) hF hS (tc := 22) rfl
  ·
    intro hg22 a hF; try simp only [zb1, zb2, zb3, zb4, zb5, zb6, zb7, zb8] at hg22
    refine wl_take hF rfl rfl rfl rfl ?_
    refine wl hF rfl rfl rfl (r_field fo100_2 (hF.ev rfl)) ?_; clear hF a; intro a hF
    refine wl_take hF rfl rfl rfl rfl ?_
    refine wl hF rfl rfl rfl (r_load1 sc3 (hF.ev rfl) (hS.box (i := 0) rfl rfl)) ?_; clear hF a; intro a hF
    refine wl_take hF rfl rfl rfl rfl ?_
    refine wl hF rfl rfl rfl (r_field fo100_3 (hF.ev rfl)) ?_; clear hF a; intro a hF
    refine wl_take hF rfl rfl rfl rfl ?_
    refine wl hF rfl rfl rfl (r_load1 sc3 (hF.ev rfl) (hS.box (i := 0) rfl rfl)) ?_; clear hF a; intro a hF
    refine wl_take hF rfl rfl rfl rfl ?_
    refine wl hF rfl rfl rfl (r_leq (hF.ev rfl) (hF.ev rfl)) ?_; clear hF a; intro a hF
    refine wl hF rfl rfl rfl (r_pick_t (hF.ev rfl) (hF.ev rfl)) ?_; clear hF a; intro a hF
    exact wl_nil ⟨rfl, (Fr.pre (A := [_, _, _, _, _, _]) hF rfl).keep hF (t := 28) rfl, hS⟩
  ·
    intro hg22 a hF; try simp only [zb1, zb2, zb3, zb4, zb5, zb6, zb7, zb8] at hg22
    refine wl_mvs (A := [_, _, _, _, _]) hF rfl ?_; clear hF a; intro a hF
    refine wl hF rfl rfl rfl (r_pick_f (hF.ev rfl) ec) ?_; clear hF a; intro a hF
    exact wl_nil ⟨rfl, (Fr.pre (A := [_, _, _, _, _, _]) hF rfl).keep hF (t := 28) rfl, hS⟩
  clear hF a hS; intro a w8 hF hS
  refine wl_mvs (A := [_]) hF rfl ?_; clear hF a; intro a hF
  apply wl_and (A := [_, _, _, _]) (pk := 33) hF hS (tc := 29) rfl
  ·
    intro hg29 a hF; try simp only [zb1, zb2, zb3, zb4, zb5, zb6, zb7, zb8] at hg29
    refine wl_take hF rfl rfl rfl rfl ?_
    refine wl hF rfl rfl rfl (r_field fo100_3 (hF.ev rfl)) ?_; clear hF a; intro a hF
    refine wl_take hF rfl rfl rfl rfl ?_
    refine wl hF rfl rfl rfl (r_load1 sc3 (hF.ev rfl) (hS.box (i := 0) rfl rfl)) ?_; clear hF a; intro a hF
    refine wl_take hF rfl rfl rfl rfl ?_
    refine wl hF rfl rfl rfl (r_leq (hF.ev rfl) ec) ?_; clear hF a; intro a hF
    refine wl hF rfl rfl rfl (r_pick_t (hF.ev rfl) (hF.ev rfl)) ?_; clear hF a; intro a hF
    exact wl_nil ⟨rfl, (Fr.pre (A := [_, _, _, _]) hF rfl).keep hF (t := 33) rfl, hS⟩
  ·
    intro hg29 a hF; try simp only [zb1, zb2, zb3, zb4, zb5, zb6, zb7, zb8] at hg29
    refine wl_mvs (A := [_, _, _]) hF rfl ?_; clear hF a; intro a hF
    refine wl hF rfl rfl rfl (r_pick_f (hF.ev rfl) ec) ?_; clear hF a; intro a hF
    exact wl_nil ⟨rfl, (Fr.pre (A := [_, _, _, _]) hF rfl).keep hF (t := 33) rfl, hS⟩
  clear hF a hS; intro a w9 hF hS
  refine wl_mvs (A := [_]) hF rfl ?_; clear hF a; intro a hF
  refine wl_nil (hK2 _ _ ?_)
  refine wp_ret ?_
  try simp only [Exit.then, Exit.inBlock, ↓reduceIte]
  refine ret1 rfl hF rfl ⟨congrArg Value.bool ?_, hS.old⟩
  unfold isEntry
  first | rfl | (rw [Bool.eq_iff_iff]; simp only [Bool.and_eq_true, decide_eq_true_eq, and_assoc])
set_option maxHeartbeats 4000000 in
set_option maxRecDepth 20000 in
theorem l7Pcs_c {W : World}  : Calls Tryz.prog 198 #[] W (Ret (Mk W (fun s : Slv => sv s) (fun s => [Own intEK (sv s) pcs]))) := by
  refine calls_fr Tryz.func198 rfl Tryz.ntmps198 rfl ?_
  intro a hF
  have hS := Sep.refl W
  refine ws fun K1 hK1 => ?_
  refine wl_mvs (A := [_]) hF rfl ?_; clear hF a; intro a hF
  refine wl_nil (hK1 _ _ ?_)
  refine ws fun K2 hK2 => ?_
  refine wl_bslice intEK [vi 0, vi 1, vi 2, vi 3, vi 4, vi 5, vi 10, vi 11, vi 12, vi 13, vi 14, vi 15, vi 16, vi 17, vi 18, vi 19, vi 20, vi 21, vi 30, vi 31, vi 32, vi 33, vi 34, vi 35, vi 36, vi 37, vi 38, vi 39, vi 40, vi 41, vi 42, vi 43, vi 44, vi 45, vi 46, vi 47, vi 50, vi 60, vi 61, vi 62, vi 63, vi 70, vi 80] [0, 1, 2, 3, 4, 5, 10, 11, 12, 13, 14, 15, 16, 17, 18, 19, 20, 21, 30, 31, 32, 33, 34, 35, 36, 37, 38, 39, 40, 41, 42, 43, 44, 45, 46, 47, 50, 60, 61, 62, 63, 70, 80] rfl hF hS rfl mk24 rfl ⟨rfl, ec, rfl, ec, rfl, ec, rfl, ec, rfl, ec, rfl, ec, rfl, ec, rfl, ec, rfl, ec, rfl, ec, rfl, ec, rfl, ec, rfl, ec, rfl, ec, rfl, ec, rfl, ec, rfl, ec, rfl, ec, rfl, ec, rfl, ec, rfl, ec, rfl, ec, rfl, ec, rfl, ec, rfl, ec, rfl, ec, rfl, ec, rfl, ec, rfl, ec, rfl, ec, rfl, ec, rfl, ec, rfl, ec, rfl, ec, rfl, ec, rfl, ec, rfl, ec, rfl, ec, rfl, ec, rfl, ec, rfl, ec, rfl, ec, rfl, ec, trivial⟩ rfl rfl rfl rfl ?_; clear hF a; intro gl_1 w1 a hS_ hF; replace hS := hS_; clear hS_
  refine wl_mvs (A := [_]) hF rfl ?_; clear hF a; intro a hF
  refine wl_nil (hK2 _ _ ?_)
  refine wp_ret ?_
  try simp only [Exit.then, Exit.inBlock, ↓reduceIte]
  exact ret1 rfl hF rfl ⟨(_, _, _), rfl, hS.pick [0] (by decide) rfl⟩
set_option maxHeartbeats 4000000 in
set_option maxRecDepth 20000 in
theorem l7Names_c {W : World}  : Calls Tryz.prog 199 #[] W (Ret (Mk W (fun s : Slv => sv s) (fun s => [Own stringEK (sv s) pcNames]))) := by
  refine calls_fr Tryz.func199 rfl Tryz.ntmps199 rfl ?_
  intro a hF
  have hS := Sep.refl W
  refine ws fun K1 hK1 => ?_
  refine wl_mvs (A := [_]) hF rfl ?_; clear hF a; intro a hF
  refine wl_nil (hK1 _ _ ?_)
  refine ws fun K2 hK2 => ?_
  refine wl_bslice stringEK [.string ⟨#[105, 100, 108, 101]⟩, .string ⟨#[98, 101, 103, 105, 110, 32, 108, 111, 97, 100]⟩, .string ⟨#[98, 101, 103, 105, 110, 32, 97, 110, 110, 111, 117, 110, 99, 101]⟩, .string ⟨#[98, 101, 103, 105, 110, 32, 99, 104, 101, 99, 107]⟩, .string ⟨#[98, 101, 103, 105, 110, 32, 116, 105, 99, 107]⟩, .string ⟨#[98, 101, 103, 105, 110, 32, 99, 108, 101, 97, 114]⟩, .string ⟨#[119, 97, 108, 107, 32, 104, 101, 97, 100]⟩, .string ⟨#[119, 97, 108, 107, 32, 103, 117, 97, 114, 100]⟩, .string ⟨#[119, 97, 108, 107, 32, 99, 104, 101, 99, 107]⟩, .string ⟨#[119, 97, 108, 107, 32, 110, 101, 120, 116]⟩, .string ⟨#[119, 97, 108, 107, 32, 117, 110, 108, 105, 110, 107]⟩, .string ⟨#[119, 97, 108, 107, 32, 115, 104, 105, 102, 116]⟩, .string ⟨#[114, 101, 97, 100, 32, 115, 116, 97, 109, 112]⟩, .string ⟨#[114, 101, 97, 100, 32, 99, 108, 111, 99, 107]⟩, .string ⟨#[114, 101, 97, 100, 32, 104, 101, 108, 112]⟩, .string ⟨#[114, 101, 97, 100, 32, 118, 97, 108, 117, 101]⟩, .string ⟨#[114, 101, 97, 100, 32, 99, 108, 101, 97, 114]⟩, .string ⟨#[114, 101, 97, 100, 32, 100, 111, 110, 101]⟩, .string ⟨#[119, 114, 105, 116, 101, 32, 97, 114, 101, 110, 97]⟩, .string ⟨#[119, 114, 105, 116, 101, 32, 116, 97, 107, 101]⟩, .string ⟨#[119, 114, 105, 116, 101, 32, 118, 97, 108, 117, 101]⟩, .string ⟨#[119, 114, 105, 116, 101, 32, 114, 101, 115, 101, 116]⟩, .string ⟨#[119, 114, 105, 116, 101, 32, 103, 117, 97, 114, 100]⟩, .string ⟨#[119, 114, 105, 116, 101, 32, 104, 101, 97, 100]⟩, .string ⟨#[119, 114, 105, 116, 101, 32, 104, 97, 122, 97, 114, 100]⟩, .string ⟨#[119, 114, 105, 116, 101, 32, 99, 104, 101, 99, 107]⟩, .string ⟨#[119, 114, 105, 116, 101, 32, 115, 116, 97, 109, 112]⟩, .string ⟨#[119, 114, 105, 116, 101, 32, 99, 108, 111, 99, 107]⟩, .string ⟨#[119, 114, 105, 116, 101, 32, 104, 101, 108, 112]⟩, .string ⟨#[119, 114, 105, 116, 101, 32, 108, 105, 110, 107]⟩, .string ⟨#[119, 114, 105, 116, 101, 32, 112, 117, 98, 108, 105, 115, 104]⟩, .string ⟨#[119, 114, 105, 116, 101, 32, 111, 119, 110, 32, 99, 108, 111, 99, 107]⟩, .string ⟨#[119, 114, 105, 116, 101, 32, 111, 119, 110, 32, 115, 116, 97, 109, 112]⟩, .string ⟨#[119, 114, 105, 116, 101, 32, 114, 101, 116, 105, 114, 101]⟩, .string ⟨#[119, 114, 105, 116, 101, 32, 99, 108, 101, 97, 114]⟩, .string ⟨#[119, 114, 105, 116, 101, 32, 100, 111, 110, 101]⟩, .string ⟨#[115, 99, 97, 110, 32, 97, 110, 110, 111, 117, 110, 99, 101, 100]⟩, .string ⟨#[109, 97, 114, 107, 32, 108, 111, 97, 100]⟩, .string ⟨#[109, 97, 114, 107, 32, 115, 119, 97, 112]⟩, .string ⟨#[102, 108, 117, 115, 104, 32, 99, 108, 101, 97, 114]⟩, .string ⟨#[102, 108, 117, 115, 104, 32, 100, 111, 110, 101]⟩, .string ⟨#[115, 99, 97, 110, 32, 104, 97, 122, 97, 114, 100, 115]⟩, .string ⟨#[101, 110, 100, 32, 99, 108, 101, 97, 114]⟩] [⟨#[105, 100, 108, 101]⟩, ⟨#[98, 101, 103, 105, 110, 32, 108, 111, 97, 100]⟩, ⟨#[98, 101, 103, 105, 110, 32, 97, 110, 110, 111, 117, 110, 99, 101]⟩, ⟨#[98, 101, 103, 105, 110, 32, 99, 104, 101, 99, 107]⟩, ⟨#[98, 101, 103, 105, 110, 32, 116, 105, 99, 107]⟩, ⟨#[98, 101, 103, 105, 110, 32, 99, 108, 101, 97, 114]⟩, ⟨#[119, 97, 108, 107, 32, 104, 101, 97, 100]⟩, ⟨#[119, 97, 108, 107, 32, 103, 117, 97, 114, 100]⟩, ⟨#[119, 97, 108, 107, 32, 99, 104, 101, 99, 107]⟩, ⟨#[119, 97, 108, 107, 32, 110, 101, 120, 116]⟩, ⟨#[119, 97, 108, 107, 32, 117, 110, 108, 105, 110, 107]⟩, ⟨#[119, 97, 108, 107, 32, 115, 104, 105, 102, 116]⟩, ⟨#[114, 101, 97, 100, 32, 115, 116, 97, 109, 112]⟩, ⟨#[114, 101, 97, 100, 32, 99, 108, 111, 99, 107]⟩, ⟨#[114, 101, 97, 100, 32, 104, 101, 108, 112]⟩, ⟨#[114, 101, 97, 100, 32, 118, 97, 108, 117, 101]⟩, ⟨#[114, 101, 97, 100, 32, 99, 108, 101, 97, 114]⟩, ⟨#[114, 101, 97, 100, 32, 100, 111, 110, 101]⟩, ⟨#[119, 114, 105, 116, 101, 32, 97, 114, 101, 110, 97]⟩, ⟨#[119, 114, 105, 116, 101, 32, 116, 97, 107, 101]⟩, ⟨#[119, 114, 105, 116, 101, 32, 118, 97, 108, 117, 101]⟩, ⟨#[119, 114, 105, 116, 101, 32, 114, 101, 115, 101, 116]⟩, ⟨#[119, 114, 105, 116, 101, 32, 103, 117, 97, 114, 100]⟩, ⟨#[119, 114, 105, 116, 101, 32, 104, 101, 97, 100]⟩, ⟨#[119, 114, 105, 116, 101, 32, 104, 97, 122, 97, 114, 100]⟩, ⟨#[119, 114, 105, 116, 101, 32, 99, 104, 101, 99, 107]⟩, ⟨#[119, 114, 105, 116, 101, 32, 115, 116, 97, 109, 112]⟩, ⟨#[119, 114, 105, 116, 101, 32, 99, 108, 111, 99, 107]⟩, ⟨#[119, 114, 105, 116, 101, 32, 104, 101, 108, 112]⟩, ⟨#[119, 114, 105, 116, 101, 32, 108, 105, 110, 107]⟩, ⟨#[119, 114, 105, 116, 101, 32, 112, 117, 98, 108, 105, 115, 104]⟩, ⟨#[119, 114, 105, 116, 101, 32, 111, 119, 110, 32, 99, 108, 111, 99, 107]⟩, ⟨#[119, 114, 105, 116, 101, 32, 111, 119, 110, 32, 115, 116, 97, 109, 112]⟩, ⟨#[119, 114, 105, 116, 101, 32, 114, 101, 116, 105, 114, 101]⟩, ⟨#[119, 114, 105, 116, 101, 32, 99, 108, 101, 97, 114]⟩, ⟨#[119, 114, 105, 116, 101, 32, 100, 111, 110, 101]⟩, ⟨#[115, 99, 97, 110, 32, 97, 110, 110, 111, 117, 110, 99, 101, 100]⟩, ⟨#[109, 97, 114, 107, 32, 108, 111, 97, 100]⟩, ⟨#[109, 97, 114, 107, 32, 115, 119, 97, 112]⟩, ⟨#[102, 108, 117, 115, 104, 32, 99, 108, 101, 97, 114]⟩, ⟨#[102, 108, 117, 115, 104, 32, 100, 111, 110, 101]⟩, ⟨#[115, 99, 97, 110, 32, 104, 97, 122, 97, 114, 100, 115]⟩, ⟨#[101, 110, 100, 32, 99, 108, 101, 97, 114]⟩] rfl hF hS rfl mk157 rfl ⟨rfl, ec, rfl, ec, rfl, ec, rfl, ec, rfl, ec, rfl, ec, rfl, ec, rfl, ec, rfl, ec, rfl, ec, rfl, ec, rfl, ec, rfl, ec, rfl, ec, rfl, ec, rfl, ec, rfl, ec, rfl, ec, rfl, ec, rfl, ec, rfl, ec, rfl, ec, rfl, ec, rfl, ec, rfl, ec, rfl, ec, rfl, ec, rfl, ec, rfl, ec, rfl, ec, rfl, ec, rfl, ec, rfl, ec, rfl, ec, rfl, ec, rfl, ec, rfl, ec, rfl, ec, rfl, ec, rfl, ec, rfl, ec, rfl, ec, rfl, ec, trivial⟩ rfl rfl rfl rfl ?_; clear hF a; intro gl_1 w1 a hS_ hF; replace hS := hS_; clear hS_
  refine wl_mvs (A := [_]) hF rfl ?_; clear hF a; intro a hF
  refine wl_nil (hK2 _ _ ?_)
  refine wp_ret ?_
  try simp only [Exit.then, Exit.inBlock, ↓reduceIte]
  exact ret1 rfl hF rfl ⟨(_, _, _), rfl, hS.pick [0] (by decide) rfl⟩
set_option maxHeartbeats 4000000 in
set_option maxRecDepth 20000 in
theorem specPcName_c {W : World} {pc : Int} : Calls Tryz.prog 186 #[vi pc] W (Ret fun v w' => (∃ s : ByteArray, v = .string s ∧ (s.data.toList == []) = !decide (pc ∈ pcs)) ∧ Below W.heap.size W w') := by
  refine calls_fr Tryz.func186 rfl Tryz.ntmps186 rfl ?_
  intro a hF
  have hpl : pcs.length = 43 := rfl
  have hnl : pcNames.length = 43 := rfl
  have hS := Sep.refl W
  refine ws fun K1 hK1 => ?_
  refine wl_mvs (A := [_]) hF rfl ?_; clear hF a; intro a hF
  refine wl_nil (hK1 _ _ ?_)
  refine ws fun K2 hK2 => ?_
  refine wl_mk hF hS rfl rfl rfl (r_call0 en198 ) (l7Pcs_c) ?_; clear hF a; rintro s5 w1 a hS_ hF; replace hS := hS_; clear hS_; dsimp only [List.cons_append, List.nil_append] at hS
  have hln5 := hS.own_len (q := 0) rfl
  refine wl_mvs (A := [_]) hF rfl ?_; clear hF a; intro a hF
  refine wl_nil (hK2 _ _ ?_)
  refine wp_seq_k fun K3 hK3 => ?_
  refine ws fun K4 hK4 => ?_
  refine wl_mvs (A := [_]) hF rfl ?_; clear hF a; intro a hF
  refine wl_nil (hK4 _ _ ?_)
  refine wp_block ?_
  have hL_ := (((hF.nil.keep hF (t := 3) rfl).keep hF (t := 2) rfl).keep hF (t := 0) rfl)
  refine wp_loop_r (σ := Nat) (fun k L_ => (4, vi k) :: L_) (fun k => (k ≤ pcs.length) ∧ ((pcs.take k).any (fun x => decide (x = pc)) = false)) (fun k => 43 - k) 0 hS (hL_.keepE hF (t := 4) rfl rfl) ?_ ?_
  · exact ⟨Nat.zero_le _, rfl⟩
  clear hF hS hL_ a
  rintro k a w2 ⟨hk, hn⟩ hS hF; try dsimp only at hF; try dsimp only at hS
  refine wp_seq_k fun K5 hK5 => ?_
  refine ws fun K6 hK6 => ?_
  refine wl_mvs (A := [_, _]) hF rfl ?_; clear hF a; intro a hF
  refine wl hF rfl rfl rfl (r_len ul24 (hF.ev rfl)) ?_; clear hF a; intro a hF
  refine wl hF rfl rfl rfl (r_lss (hF.ev rfl) (hF.ev rfl)) ?_; clear hF a; intro a hF
  refine wl_nil (hK6 _ _ ?_)
  refine wc_fx (t := 9) hF rfl ?_ ?_ <;> clear hF <;> intro c9 hF <;> try simp only [zb1, zb2, zb3, zb4, zb5, zb6, zb7, zb8] at c9
  ·
    refine wp_skip ?_
    refine hK5 _ _ ?_
    refine wp_seq_k fun K7 hK7 => ?_
    refine wp_block ?_
    refine ws fun K8 hK8 => ?_
    refine wl_mvs (A := [_, _]) hF rfl ?_; clear hF a; intro a hF
    obtain ⟨g14, o14, m14, q14, hv14, hm14, hl14, hc14⟩ := Rd.atF ((hS.own_rd (i := 0) rfl)) (a := a) (X := .tmp 13) (hF.ev rfl) (by omega) (by omega)
    refine wl hF rfl rfl rfl (r_index sl24 ((hF.ev rfl).trans hv14) (hF.ev rfl) (by omega) (by first | omega | (simp at hm14; omega))) ?_; clear hF a; intro a hF
    refine wl hF rfl rfl rfl (r_load1 sc3 (hF.ev rfl) (hc14 0 _ rfl)) ?_; clear hF a; intro a hF
    refine wl_mvs (A := [_]) hF rfl ?_; clear hF a; intro a hF
    refine wl hF rfl rfl rfl (r_eql (hF.ev rfl) (hF.ev rfl)) ?_; clear hF a; intro a hF
    refine wl_nil (hK8 _ _ ?_)
    refine wc_fx (t := 17) hF rfl ?_ ?_ <;> clear hF <;> intro c17 hF <;> try simp only [zb1, zb2, zb3, zb4, zb5, zb6, zb7, zb8] at c17
    ·
      refine ws fun K9 hK9 => ?_
      refine wl_mk hF hS rfl rfl rfl (r_call0 en199 ) (l7Names_c) ?_; clear hF a; rintro s18 w3 a hS_ hF; replace hS := hS_; clear hS_; dsimp only [List.cons_append, List.nil_append] at hS
      have hln18 := hS.own_len (q := 0) rfl
      refine wl_mvs (A := [_]) hF rfl ?_; clear hF a; intro a hF
      obtain ⟨g20, o20, m20, q20, hv20, hm20, hl20, hc20⟩ := Rd.atF ((hS.own_rd (i := 0) rfl)) (a := a) (X := .tmp 19) (hF.ev rfl) (by omega) (by have : pcs.length = 43 := rfl; have : pcNames.length = 43 := rfl; omega)
      refine wl hF rfl rfl rfl (r_index sl157 ((hF.ev rfl).trans hv20) (hF.ev rfl) (by omega) (by first | omega | (simp at hm20; omega))) ?_; clear hF a; intro a hF
      refine wl hF rfl rfl rfl (r_load1 sc9 (hF.ev rfl) (hc20 0 _ rfl)) ?_; clear hF a; intro a hF
      refine wl_mvs (A := [_]) hF rfl ?_; clear hF a; intro a hF
      refine wl_nil (hK9 _ _ ?_)
      refine wp_ret ?_
      try simp only [Exit.then, Exit.inBlock, ↓reduceIte]
      first
        | (refine ret1 rfl hF rfl ⟨⟨_, rfl, ?_⟩, hS.old⟩
           rw [pcNames_ne (at0_mem (by omega) (by have : pcs.length = 43 := rfl; have : pcNames.length = 43 := rfl; omega)), decide_eq_true (show pc ∈ pcs from c17 ▸ at0_mem (by omega) (by omega))]; rfl)
        | (refine ret1 rfl hF rfl ⟨⟨_, rfl, ?_⟩, hS.old⟩
           have hn2 := any_all hn hk (by omega)
           rw [decide_eq_false (fun h => by have := List.any_eq_false.1 hn2 pc h; simp at this)]; rfl)
    refine wp_skip ?_
    simp only [Exit.then, Exit.inBlock, ↓reduceIte]
    refine hK7 _ _ ?_
    refine wp_region_lit ?_
    refine wl_mvs (A := [_]) hF rfl ?_; clear hF a; intro a hF
    refine wl hF rfl rfl rfl (r_add (hF.ev rfl) ec) ?_; clear hF a; intro a hF
    refine wl_mvs (A := [_]) hF rfl ?_; clear hF a; intro a hF
    refine wl_nil ?_
    try simp only [Exit.then, Exit.inBlock, ↓reduceIte]
    refine ⟨k + 1, ⟨by omega, any_next hn (at0_nat (by omega)) (decide_eq_false c17)⟩, hS, ((((hF.nil.keep hF (t := 3) rfl).keep hF (t := 2) rfl).keep hF (t := 0) rfl).keepE hF (t := 4) rfl (wk (by omega))), by have : pcs.length = 43 := rfl; omega⟩
  refine wp_exit ?_
  simp only [Exit.then, Exit.inBlock, ↓reduceIte]
  refine hK3 _ _ ?_
  refine ws fun K10 hK10 => ?_
  refine wl_mvs (A := [_]) hF rfl ?_; clear hF a; intro a hF
  refine wl_nil (hK10 _ _ ?_)
  refine wp_ret ?_
  try simp only [Exit.then, Exit.inBlock, ↓reduceIte]
  first
    | (refine ret1 rfl hF rfl ⟨⟨_, rfl, ?_⟩, hS.old⟩
       rw [pcNames_ne (at0_mem (by omega) (by have : pcs.length = 43 := rfl; have : pcNames.length = 43 := rfl; omega)), decide_eq_true (show pc ∈ pcs from c17 ▸ at0_mem (by omega) (by omega))]; rfl)
    | (refine ret1 rfl hF rfl ⟨⟨_, rfl, ?_⟩, hS.old⟩
       have hn2 := any_all hn hk (by omega)
       rw [decide_eq_false (fun h => by have := List.any_eq_false.1 hn2 pc h; simp at this)]; rfl)
set_option maxHeartbeats 4000000 in
set_option maxRecDepth 20000 in
theorem implPcName_c {W : World} {pc : Int} : Calls Tryz.prog 187 #[vi pc] W (Ret fun v w' => (∃ s : ByteArray, v = .string s ∧ (s.data.toList == []) = !decide (pc ∈ pcs)) ∧ Below W.heap.size W w') := by
  refine calls_fr Tryz.func187 rfl Tryz.ntmps187 rfl ?_
  intro a hF
  have hS := Sep.refl W
  refine ws fun K1 hK1 => ?_
  refine wl_mvs (A := [_]) hF rfl ?_; clear hF a; intro a hF
  refine wl_nil (hK1 _ _ ?_)
  refine wp_seq_k fun K2 hK2 => ?_
  refine ws fun K3 hK3 => ?_
  refine wl_mvs (A := [_]) hF rfl ?_; clear hF a; intro a hF
  refine wl_nil (hK3 _ _ ?_)
  refine wp_block ?_
  refine ws fun K4 hK4 => ?_
  refine wl hF rfl rfl rfl (r_eql (hF.ev rfl) ec) ?_; clear hF a; intro a hF
  refine wl_mvs (A := [_]) hF rfl ?_; clear hF a; intro a hF
  refine wl_nil (hK4 _ _ ?_)
  refine wc_fx (t := 4) hF rfl ?_ ?_ <;> clear hF <;> intro c4 hF <;> try simp only [zb1, zb2, zb3, zb4, zb5, zb6, zb7, zb8] at c4
  ·
    refine ws fun K5 hK5 => ?_
    refine wl_mvs (A := [_]) hF rfl ?_; clear hF a; intro a hF
    refine wl_nil (hK5 _ _ ?_)
    refine wp_ret ?_
    try simp only [Exit.then, Exit.inBlock, ↓reduceIte]
    refine ret1 rfl hF rfl ⟨⟨_, rfl, ?_⟩, hS.old⟩
    first
      | (rw [decide_eq_true (show pc ∈ pcs from by subst_vars; decide)]; rfl)
      | (rw [decide_eq_false (show ¬ pc ∈ pcs from by unfold pcs; simp only [List.mem_cons, List.not_mem_nil, or_false]; omega)]; rfl)
  refine ws fun K6 hK6 => ?_
  refine wl hF rfl rfl rfl (r_eql (hF.ev rfl) ec) ?_; clear hF a; intro a hF
  refine wl_mvs (A := [_]) hF rfl ?_; clear hF a; intro a hF
  refine wl_nil (hK6 _ _ ?_)
  refine wc_fx (t := 6) hF rfl ?_ ?_ <;> clear hF <;> intro c6 hF <;> try simp only [zb1, zb2, zb3, zb4, zb5, zb6, zb7, zb8] at c6
  ·
    refine ws fun K7 hK7 => ?_
    refine wl_mvs (A := [_]) hF rfl ?_; clear hF a; intro a hF
    refine wl_nil (hK7 _ _ ?_)
    refine wp_ret ?_
    try simp only [Exit.then, Exit.inBlock, ↓reduceIte]
    refine ret1 rfl hF rfl ⟨⟨_, rfl, ?_⟩, hS.old⟩
    first
      | (rw [decide_eq_true (show pc ∈ pcs from by subst_vars; decide)]; rfl)
      | (rw [decide_eq_false (show ¬ pc ∈ pcs from by unfold pcs; simp only [List.mem_cons, List.not_mem_nil, or_false]; omega)]; rfl)
  refine ws fun K8 hK8 => ?_
  refine wl hF rfl rfl rfl (r_eql (hF.ev rfl) ec) ?_; clear hF a; intro a hF
  refine wl_mvs (A := [_]) hF rfl ?_; clear hF a; intro a hF
  refine wl_nil (hK8 _ _ ?_)
  refine wc_fx (t := 8) hF rfl ?_ ?_ <;> clear hF <;> intro c8 hF <;> try simp only [zb1, zb2, zb3, zb4, zb5, zb6, zb7, zb8] at c8
  ·
    refine ws fun K9 hK9 => ?_
    refine wl_mvs (A := [_]) hF rfl ?_; clear hF a; intro a hF
    refine wl_nil (hK9 _ _ ?_)
    refine wp_ret ?_
    try simp only [Exit.then, Exit.inBlock, ↓reduceIte]
    refine ret1 rfl hF rfl ⟨⟨_, rfl, ?_⟩, hS.old⟩
    first
      | (rw [decide_eq_true (show pc ∈ pcs from by subst_vars; decide)]; rfl)
      | (rw [decide_eq_false (show ¬ pc ∈ pcs from by unfold pcs; simp only [List.mem_cons, List.not_mem_nil, or_false]; omega)]; rfl)
  refine ws fun K10 hK10 => ?_
  refine wl hF rfl rfl rfl (r_eql (hF.ev rfl) ec) ?_; clear hF a; intro a hF
  refine wl_mvs (A := [_]) hF rfl ?_; clear hF a; intro a hF
  refine wl_nil (hK10 _ _ ?_)
  refine wc_fx (t := 10) hF rfl ?_ ?_ <;> clear hF <;> intro c10 hF <;> try simp only [zb1, zb2, zb3, zb4, zb5, zb6, zb7, zb8] at c10
  ·
    refine ws fun K11 hK11 => ?_
    refine wl_mvs (A := [_]) hF rfl ?_; clear hF a; intro a hF
    refine wl_nil (hK11 _ _ ?_)
    refine wp_ret ?_
    try simp only [Exit.then, Exit.inBlock, ↓reduceIte]
    refine ret1 rfl hF rfl ⟨⟨_, rfl, ?_⟩, hS.old⟩
    first
      | (rw [decide_eq_true (show pc ∈ pcs from by subst_vars; decide)]; rfl)
      | (rw [decide_eq_false (show ¬ pc ∈ pcs from by unfold pcs; simp only [List.mem_cons, List.not_mem_nil, or_false]; omega)]; rfl)
  refine ws fun K12 hK12 => ?_
  refine wl hF rfl rfl rfl (r_eql (hF.ev rfl) ec) ?_; clear hF a; intro a hF
  refine wl_mvs (A := [_]) hF rfl ?_; clear hF a; intro a hF
  refine wl_nil (hK12 _ _ ?_)
  refine wc_fx (t := 12) hF rfl ?_ ?_ <;> clear hF <;> intro c12 hF <;> try simp only [zb1, zb2, zb3, zb4, zb5, zb6, zb7, zb8] at c12
  ·
    refine ws fun K13 hK13 => ?_
    refine wl_mvs (A := [_]) hF rfl ?_; clear hF a; intro a hF
    refine wl_nil (hK13 _ _ ?_)
    refine wp_ret ?_
    try simp only [Exit.then, Exit.inBlock, ↓reduceIte]
    refine ret1 rfl hF rfl ⟨⟨_, rfl, ?_⟩, hS.old⟩
    first
      | (rw [decide_eq_true (show pc ∈ pcs from by subst_vars; decide)]; rfl)
      | (rw [decide_eq_false (show ¬ pc ∈ pcs from by unfold pcs; simp only [List.mem_cons, List.not_mem_nil, or_false]; omega)]; rfl)
  refine ws fun K14 hK14 => ?_
  refine wl hF rfl rfl rfl (r_eql (hF.ev rfl) ec) ?_; clear hF a; intro a hF
  refine wl_mvs (A := [_]) hF rfl ?_; clear hF a; intro a hF
  refine wl_nil (hK14 _ _ ?_)
  refine wc_fx (t := 14) hF rfl ?_ ?_ <;> clear hF <;> intro c14 hF <;> try simp only [zb1, zb2, zb3, zb4, zb5, zb6, zb7, zb8] at c14
  ·
    refine ws fun K15 hK15 => ?_
    refine wl_mvs (A := [_]) hF rfl ?_; clear hF a; intro a hF
    refine wl_nil (hK15 _ _ ?_)
    refine wp_ret ?_
    try simp only [Exit.then, Exit.inBlock, ↓reduceIte]
    refine ret1 rfl hF rfl ⟨⟨_, rfl, ?_⟩, hS.old⟩
    first
      | (rw [decide_eq_true (show pc ∈ pcs from by subst_vars; decide)]; rfl)
      | (rw [decide_eq_false (show ¬ pc ∈ pcs from by unfold pcs; simp only [List.mem_cons, List.not_mem_nil, or_false]; omega)]; rfl)
  refine ws fun K16 hK16 => ?_
  refine wl hF rfl rfl rfl (r_eql (hF.ev rfl) ec) ?_; clear hF a; intro a hF
  refine wl_mvs (A := [_]) hF rfl ?_; clear hF a; intro a hF
  refine wl_nil (hK16 _ _ ?_)
  refine wc_fx (t := 16) hF rfl ?_ ?_ <;> clear hF <;> intro c16 hF <;> try simp only [zb1, zb2, zb3, zb4, zb5, zb6, zb7, zb8] at c16
  ·
    refine ws fun K17 hK17 => ?_
    refine wl_mvs (A := [_]) hF rfl ?_; clear hF a; intro a hF
    refine wl_nil (hK17 _ _ ?_)
    refine wp_ret ?_
    try simp only [Exit.then, Exit.inBlock, ↓reduceIte]
    refine ret1 rfl hF rfl ⟨⟨_, rfl, ?_⟩, hS.old⟩
    first
      | (rw [decide_eq_true (show pc ∈ pcs from by subst_vars; decide)]; rfl)
      | (rw [decide_eq_false (show ¬ pc ∈ pcs from by unfold pcs; simp only [List.mem_cons, List.not_mem_nil, or_false]; omega)]; rfl)
  refine ws fun K18 hK18 => ?_
  refine wl hF rfl rfl rfl (r_eql (hF.ev rfl) ec) ?_; clear hF a; intro a hF
  refine wl_mvs (A := [_]) hF rfl ?_; clear hF a; intro a hF
  refine wl_nil (hK18 _ _ ?_)
  refine wc_fx (t := 18) hF rfl ?_ ?_ <;> clear hF <;> intro c18 hF <;> try simp only [zb1, zb2, zb3, zb4, zb5, zb6, zb7, zb8] at c18
  ·
    refine ws fun K19 hK19 => ?_
    refine wl_mvs (A := [_]) hF rfl ?_; clear hF a; intro a hF
    refine wl_nil (hK19 _ _ ?_)
    refine wp_ret ?_
    try simp only [Exit.then, Exit.inBlock, ↓reduceIte]
    refine ret1 rfl hF rfl ⟨⟨_, rfl, ?_⟩, hS.old⟩
    first
      | (rw [decide_eq_true (show pc ∈ pcs from by subst_vars; decide)]; rfl)
      | (rw [decide_eq_false (show ¬ pc ∈ pcs from by unfold pcs; simp only [List.mem_cons, List.not_mem_nil, or_false]; omega)]; rfl)
  refine ws fun K20 hK20 => ?_
  refine wl hF rfl rfl rfl (r_eql (hF.ev rfl) ec) ?_; clear hF a; intro a hF
  refine wl_mvs (A := [_]) hF rfl ?_; clear hF a; intro a hF
  refine wl_nil (hK20 _ _ ?_)
  refine wc_fx (t := 20) hF rfl ?_ ?_ <;> clear hF <;> intro c20 hF <;> try simp only [zb1, zb2, zb3, zb4, zb5, zb6, zb7, zb8] at c20
  ·
    refine ws fun K21 hK21 => ?_
    refine wl_mvs (A := [_]) hF rfl ?_; clear hF a; intro a hF
    refine wl_nil (hK21 _ _ ?_)
    refine wp_ret ?_
    try simp only [Exit.then, Exit.inBlock, ↓reduceIte]
    refine ret1 rfl hF rfl ⟨⟨_, rfl, ?_⟩, hS.old⟩
    first
      | (rw [decide_eq_true (show pc ∈ pcs from by subst_vars; decide)]; rfl)
      | (rw [decide_eq_false (show ¬ pc ∈ pcs from by unfold pcs; simp only [List.mem_cons, List.not_mem_nil, or_false]; omega)]; rfl)
  refine ws fun K22 hK22 => ?_
  refine wl hF rfl rfl rfl (r_eql (hF.ev rfl) ec) ?_; clear hF a; intro a hF
  refine wl_mvs (A := [_]) hF rfl ?_; clear hF a; intro a hF
  refine wl_nil (hK22 _ _ ?_)
  refine wc_fx (t := 22) hF rfl ?_ ?_ <;> clear hF <;> intro c22 hF <;> try simp only [zb1, zb2, zb3, zb4, zb5, zb6, zb7, zb8] at c22
  ·
    refine ws fun K23 hK23 => ?_
    refine wl_mvs (A := [_]) hF rfl ?_; clear hF a; intro a hF
    refine wl_nil (hK23 _ _ ?_)
    refine wp_ret ?_
    try simp only [Exit.then, Exit.inBlock, ↓reduceIte]
    refine ret1 rfl hF rfl ⟨⟨_, rfl, ?_⟩, hS.old⟩
    first
      | (rw [decide_eq_true (show pc ∈ pcs from by subst_vars; decide)]; rfl)
      | (rw [decide_eq_false (show ¬ pc ∈ pcs from by unfold pcs; simp only [List.mem_cons, List.not_mem_nil, or_false]; omega)]; rfl)
  refine ws fun K24 hK24 => ?_
  refine wl hF rfl rfl rfl (r_eql (hF.ev rfl) ec) ?_; clear hF a; intro a hF
  refine wl_mvs (A := [_]) hF rfl ?_; clear hF a; intro a hF
  refine wl_nil (hK24 _ _ ?_)
  refine wc_fx (t := 24) hF rfl ?_ ?_ <;> clear hF <;> intro c24 hF <;> try simp only [zb1, zb2, zb3, zb4, zb5, zb6, zb7, zb8] at c24
  ·
    refine ws fun K25 hK25 => ?_
    refine wl_mvs (A := [_]) hF rfl ?_; clear hF a; intro a hF
    refine wl_nil (hK25 _ _ ?_)
    refine wp_ret ?_
    try simp only [Exit.then, Exit.inBlock, ↓reduceIte]
    refine ret1 rfl hF rfl ⟨⟨_, rfl, ?_⟩, hS.old⟩
    first
      | (rw [decide_eq_true (show pc ∈ pcs from by subst_vars; decide)]; rfl)
      | (rw [decide_eq_false (show ¬ pc ∈ pcs from by unfold pcs; simp only [List.mem_cons, List.not_mem_nil, or_false]; omega)]; rfl)
  refine ws fun K26 hK26 => ?_
  refine wl hF rfl rfl rfl (r_eql (hF.ev rfl) ec) ?_; clear hF a; intro a hF
  refine wl_mvs (A := [_]) hF rfl ?_; clear hF a; intro a hF
  refine wl_nil (hK26 _ _ ?_)
  refine wc_fx (t := 26) hF rfl ?_ ?_ <;> clear hF <;> intro c26 hF <;> try simp only [zb1, zb2, zb3, zb4, zb5, zb6, zb7, zb8] at c26
  ·
    refine ws fun K27 hK27 => ?_
    refine wl_mvs (A := [_]) hF rfl ?_; clear hF a; intro a hF
    refine wl_nil (hK27 _ _ ?_)
    refine wp_ret ?_
    try simp only [Exit.then, Exit.inBlock, ↓reduceIte]
    refine ret1 rfl hF rfl ⟨⟨_, rfl, ?_⟩, hS.old⟩
    first
      | (rw [decide_eq_true (show pc ∈ pcs from by subst_vars; decide)]; rfl)
      | (rw [decide_eq_false (show ¬ pc ∈ pcs from by unfold pcs; simp only [List.mem_cons, List.not_mem_nil, or_false]; omega)]; rfl)
  refine ws fun K28 hK28 => ?_
  refine wl hF rfl rfl rfl (r_eql (hF.ev rfl) ec) ?_; clear hF a; intro a hF
  refine wl_mvs (A := [_]) hF rfl ?_; clear hF a; intro a hF
  refine wl_nil (hK28 _ _ ?_)
  refine wc_fx (t := 28) hF rfl ?_ ?_ <;> clear hF <;> intro c28 hF <;> try simp only [zb1, zb2, zb3, zb4, zb5, zb6, zb7, zb8] at c28
  ·
    refine ws fun K29 hK29 => ?_
    refine wl_mvs (A := [_]) hF rfl ?_; clear hF a; intro a hF
    refine wl_nil (hK29 _ _ ?_)
    refine wp_ret ?_
    try simp only [Exit.then, Exit.inBlock, ↓reduceIte]
    refine ret1 rfl hF rfl ⟨⟨_, rfl, ?_⟩, hS.old⟩
    first
      | (rw [decide_eq_true (show pc ∈ pcs from by subst_vars; decide)]; rfl)
      | (rw [decide_eq_false (show ¬ pc ∈ pcs from by unfold pcs; simp only [List.mem_cons, List.not_mem_nil, or_false]; omega)]; rfl)
  refine ws fun K30 hK30 => ?_
  refine wl hF rfl rfl rfl (r_eql (hF.ev rfl) ec) ?_; clear hF a; intro a hF
  refine wl_mvs (A := [_]) hF rfl ?_; clear hF a; intro a hF
  refine wl_nil (hK30 _ _ ?_)
  refine wc_fx (t := 30) hF rfl ?_ ?_ <;> clear hF <;> intro c30 hF <;> try simp only [zb1, zb2, zb3, zb4, zb5, zb6, zb7, zb8] at c30
  ·
    refine ws fun K31 hK31 => ?_
    refine wl_mvs (A := [_]) hF rfl ?_; clear hF a; intro a hF
    refine wl_nil (hK31 _ _ ?_)
    refine wp_ret ?_
    try simp only [Exit.then, Exit.inBlock, ↓reduceIte]
    refine ret1 rfl hF rfl ⟨⟨_, rfl, ?_⟩, hS.old⟩
    first
      | (rw [decide_eq_true (show pc ∈ pcs from by subst_vars; decide)]; rfl)
      | (rw [decide_eq_false (show ¬ pc ∈ pcs from by unfold pcs; simp only [List.mem_cons, List.not_mem_nil, or_false]; omega)]; rfl)
  refine ws fun K32 hK32 => ?_
  refine wl hF rfl rfl rfl (r_eql (hF.ev rfl) ec) ?_; clear hF a; intro a hF
  refine wl_mvs (A := [_]) hF rfl ?_; clear hF a; intro a hF
  refine wl_nil (hK32 _ _ ?_)
  refine wc_fx (t := 32) hF rfl ?_ ?_ <;> clear hF <;> intro c32 hF <;> try simp only [zb1, zb2, zb3, zb4, zb5, zb6, zb7, zb8] at c32
  ·
    refine ws fun K33 hK33 => ?_
    refine wl_mvs (A := [_]) hF rfl ?_; clear hF a; intro a hF
    refine wl_nil (hK33 _ _ ?_)
    refine wp_ret ?_
    try simp only [Exit.then, Exit.inBlock, ↓reduceIte]
    refine ret1 rfl hF rfl ⟨⟨_, rfl, ?_⟩, hS.old⟩
    first
      | (rw [decide_eq_true (show pc ∈ pcs from by subst_vars; decide)]; rfl)
      | (rw [decide_eq_false (show ¬ pc ∈ pcs from by unfold pcs; simp only [List.mem_cons, List.not_mem_nil, or_false]; omega)]; rfl)
  refine ws fun K34 hK34 => ?_
  refine wl hF rfl rfl rfl (r_eql (hF.ev rfl) ec) ?_; clear hF a; intro a hF
  refine wl_mvs (A := [_]) hF rfl ?_; clear hF a; intro a hF
  refine wl_nil (hK34 _ _ ?_)
  refine wc_fx (t := 34) hF rfl ?_ ?_ <;> clear hF <;> intro c34 hF <;> try simp only [zb1, zb2, zb3, zb4, zb5, zb6, zb7, zb8] at c34
  ·
    refine ws fun K35 hK35 => ?_
    refine wl_mvs (A := [_]) hF rfl ?_; clear hF a; intro a hF
    refine wl_nil (hK35 _ _ ?_)
    refine wp_ret ?_
    try simp only [Exit.then, Exit.inBlock, ↓reduceIte]
    refine ret1 rfl hF rfl ⟨⟨_, rfl, ?_⟩, hS.old⟩
    first
      | (rw [decide_eq_true (show pc ∈ pcs from by subst_vars; decide)]; rfl)
      | (rw [decide_eq_false (show ¬ pc ∈ pcs from by unfold pcs; simp only [List.mem_cons, List.not_mem_nil, or_false]; omega)]; rfl)
  refine ws fun K36 hK36 => ?_
  refine wl hF rfl rfl rfl (r_eql (hF.ev rfl) ec) ?_; clear hF a; intro a hF
  refine wl_mvs (A := [_]) hF rfl ?_; clear hF a; intro a hF
  refine wl_nil (hK36 _ _ ?_)
  refine wc_fx (t := 36) hF rfl ?_ ?_ <;> clear hF <;> intro c36 hF <;> try simp only [zb1, zb2, zb3, zb4, zb5, zb6, zb7, zb8] at c36
  ·
    refine ws fun K37 hK37 => ?_
    refine wl_mvs (A := [_]) hF rfl ?_; clear hF a; intro a hF
    refine wl_nil (hK37 _ _ ?_)
    refine wp_ret ?_
    try simp only [Exit.then, Exit.inBlock, ↓reduceIte]
    refine ret1 rfl hF rfl ⟨⟨_, rfl, ?_⟩, hS.old⟩
    first
      | (rw [decide_eq_true (show pc ∈ pcs from by subst_vars; decide)]; rfl)
      | (rw [decide_eq_false (show ¬ pc ∈ pcs from by unfold pcs; simp only [List.mem_cons, List.not_mem_nil, or_false]; omega)]; rfl)
  refine ws fun K38 hK38 => ?_
  refine wl hF rfl rfl rfl (r_eql (hF.ev rfl) ec) ?_; clear hF a; intro a hF
  refine wl_mvs (A := [_]) hF rfl ?_; clear hF a; intro a hF
  refine wl_nil (hK38 _ _ ?_)
  refine wc_fx (t := 38) hF rfl ?_ ?_ <;> clear hF <;> intro c38 hF <;> try simp only [zb1, zb2, zb3, zb4, zb5, zb6, zb7, zb8] at c38
  ·
    refine ws fun K39 hK39 => ?_
    refine wl_mvs (A := [_]) hF rfl ?_; clear hF a; intro a hF
    refine wl_nil (hK39 _ _ ?_)
    refine wp_ret ?_
    try simp only [Exit.then, Exit.inBlock, ↓reduceIte]
    refine ret1 rfl hF rfl ⟨⟨_, rfl, ?_⟩, hS.old⟩
    first
      | (rw [decide_eq_true (show pc ∈ pcs from by subst_vars; decide)]; rfl)
      | (rw [decide_eq_false (show ¬ pc ∈ pcs from by unfold pcs; simp only [List.mem_cons, List.not_mem_nil, or_false]; omega)]; rfl)
  refine ws fun K40 hK40 => ?_
  refine wl hF rfl rfl rfl (r_eql (hF.ev rfl) ec) ?_; clear hF a; intro a hF
  refine wl_mvs (A := [_]) hF rfl ?_; clear hF a; intro a hF
  refine wl_nil (hK40 _ _ ?_)
  refine wc_fx (t := 40) hF rfl ?_ ?_ <;> clear hF <;> intro c40 hF <;> try simp only [zb1, zb2, zb3, zb4, zb5, zb6, zb7, zb8] at c40
  ·
    refine ws fun K41 hK41 => ?_
    refine wl_mvs (A := [_]) hF rfl ?_; clear hF a; intro a hF
    refine wl_nil (hK41 _ _ ?_)
    refine wp_ret ?_
    try simp only [Exit.then, Exit.inBlock, ↓reduceIte]
    refine ret1 rfl hF rfl ⟨⟨_, rfl, ?_⟩, hS.old⟩
    first
      | (rw [decide_eq_true (show pc ∈ pcs from by subst_vars; decide)]; rfl)
      | (rw [decide_eq_false (show ¬ pc ∈ pcs from by unfold pcs; simp only [List.mem_cons, List.not_mem_nil, or_false]; omega)]; rfl)
  refine ws fun K42 hK42 => ?_
  refine wl hF rfl rfl rfl (r_eql (hF.ev rfl) ec) ?_; clear hF a; intro a hF
  refine wl_mvs (A := [_]) hF rfl ?_; clear hF a; intro a hF
  refine wl_nil (hK42 _ _ ?_)
  refine wc_fx (t := 42) hF rfl ?_ ?_ <;> clear hF <;> intro c42 hF <;> try simp only [zb1, zb2, zb3, zb4, zb5, zb6, zb7, zb8] at c42
  ·
    refine ws fun K43 hK43 => ?_
    refine wl_mvs (A := [_]) hF rfl ?_; clear hF a; intro a hF
    refine wl_nil (hK43 _ _ ?_)
    refine wp_ret ?_
    try simp only [Exit.then, Exit.inBlock, ↓reduceIte]
    refine ret1 rfl hF rfl ⟨⟨_, rfl, ?_⟩, hS.old⟩
    first
      | (rw [decide_eq_true (show pc ∈ pcs from by subst_vars; decide)]; rfl)
      | (rw [decide_eq_false (show ¬ pc ∈ pcs from by unfold pcs; simp only [List.mem_cons, List.not_mem_nil, or_false]; omega)]; rfl)
  refine ws fun K44 hK44 => ?_
  refine wl hF rfl rfl rfl (r_eql (hF.ev rfl) ec) ?_; clear hF a; intro a hF
  refine wl_mvs (A := [_]) hF rfl ?_; clear hF a; intro a hF
  refine wl_nil (hK44 _ _ ?_)
  refine wc_fx (t := 44) hF rfl ?_ ?_ <;> clear hF <;> intro c44 hF <;> try simp only [zb1, zb2, zb3, zb4, zb5, zb6, zb7, zb8] at c44
  ·
    refine ws fun K45 hK45 => ?_
    refine wl_mvs (A := [_]) hF rfl ?_; clear hF a; intro a hF
    refine wl_nil (hK45 _ _ ?_)
    refine wp_ret ?_
    try simp only [Exit.then, Exit.inBlock, ↓reduceIte]
    refine ret1 rfl hF rfl ⟨⟨_, rfl, ?_⟩, hS.old⟩
    first
      | (rw [decide_eq_true (show pc ∈ pcs from by subst_vars; decide)]; rfl)
      | (rw [decide_eq_false (show ¬ pc ∈ pcs from by unfold pcs; simp only [List.mem_cons, List.not_mem_nil, or_false]; omega)]; rfl)
  refine ws fun K46 hK46 => ?_
  refine wl hF rfl rfl rfl (r_eql (hF.ev rfl) ec) ?_; clear hF a; intro a hF
  refine wl_mvs (A := [_]) hF rfl ?_; clear hF a; intro a hF
  refine wl_nil (hK46 _ _ ?_)
  refine wc_fx (t := 46) hF rfl ?_ ?_ <;> clear hF <;> intro c46 hF <;> try simp only [zb1, zb2, zb3, zb4, zb5, zb6, zb7, zb8] at c46
  ·
    refine ws fun K47 hK47 => ?_
    refine wl_mvs (A := [_]) hF rfl ?_; clear hF a; intro a hF
    refine wl_nil (hK47 _ _ ?_)
    refine wp_ret ?_
    try simp only [Exit.then, Exit.inBlock, ↓reduceIte]
    refine ret1 rfl hF rfl ⟨⟨_, rfl, ?_⟩, hS.old⟩
    first
      | (rw [decide_eq_true (show pc ∈ pcs from by subst_vars; decide)]; rfl)
      | (rw [decide_eq_false (show ¬ pc ∈ pcs from by unfold pcs; simp only [List.mem_cons, List.not_mem_nil, or_false]; omega)]; rfl)
  refine ws fun K48 hK48 => ?_
  refine wl hF rfl rfl rfl (r_eql (hF.ev rfl) ec) ?_; clear hF a; intro a hF
  refine wl_mvs (A := [_]) hF rfl ?_; clear hF a; intro a hF
  refine wl_nil (hK48 _ _ ?_)
  refine wc_fx (t := 48) hF rfl ?_ ?_ <;> clear hF <;> intro c48 hF <;> try simp only [zb1, zb2, zb3, zb4, zb5, zb6, zb7, zb8] at c48
  ·
    refine ws fun K49 hK49 => ?_
    refine wl_mvs (A := [_]) hF rfl ?_; clear hF a; intro a hF
    refine wl_nil (hK49 _ _ ?_)
    refine wp_ret ?_
    try simp only [Exit.then, Exit.inBlock, ↓reduceIte]
    refine ret1 rfl hF rfl ⟨⟨_, rfl, ?_⟩, hS.old⟩
    first
      | (rw [decide_eq_true (show pc ∈ pcs from by subst_vars; decide)]; rfl)
      | (rw [decide_eq_false (show ¬ pc ∈ pcs from by unfold pcs; simp only [List.mem_cons, List.not_mem_nil, or_false]; omega)]; rfl)
  refine ws fun K50 hK50 => ?_
  refine wl hF rfl rfl rfl (r_eql (hF.ev rfl) ec) ?_; clear hF a; intro a hF
  refine wl_mvs (A := [_]) hF rfl ?_; clear hF a; intro a hF
  refine wl_nil (hK50 _ _ ?_)
  refine wc_fx (t := 50) hF rfl ?_ ?_ <;> clear hF <;> intro c50 hF <;> try simp only [zb1, zb2, zb3, zb4, zb5, zb6, zb7, zb8] at c50
  ·
    refine ws fun K51 hK51 => ?_
    refine wl_mvs (A := [_]) hF rfl ?_; clear hF a; intro a hF
    refine wl_nil (hK51 _ _ ?_)
    refine wp_ret ?_
    try simp only [Exit.then, Exit.inBlock, ↓reduceIte]
    refine ret1 rfl hF rfl ⟨⟨_, rfl, ?_⟩, hS.old⟩
    first
      | (rw [decide_eq_true (show pc ∈ pcs from by subst_vars; decide)]; rfl)
      | (rw [decide_eq_false (show ¬ pc ∈ pcs from by unfold pcs; simp only [List.mem_cons, List.not_mem_nil, or_false]; omega)]; rfl)
  refine ws fun K52 hK52 => ?_
  refine wl hF rfl rfl rfl (r_eql (hF.ev rfl) ec) ?_; clear hF a; intro a hF
  refine wl_mvs (A := [_]) hF rfl ?_; clear hF a; intro a hF
  refine wl_nil (hK52 _ _ ?_)
  refine wc_fx (t := 52) hF rfl ?_ ?_ <;> clear hF <;> intro c52 hF <;> try simp only [zb1, zb2, zb3, zb4, zb5, zb6, zb7, zb8] at c52
  ·
    refine ws fun K53 hK53 => ?_
    refine wl_mvs (A := [_]) hF rfl ?_; clear hF a; intro a hF
    refine wl_nil (hK53 _ _ ?_)
    refine wp_ret ?_
    try simp only [Exit.then, Exit.inBlock, ↓reduceIte]
    refine ret1 rfl hF rfl ⟨⟨_, rfl, ?_⟩, hS.old⟩
    first
      | (rw [decide_eq_true (show pc ∈ pcs from by subst_vars; decide)]; rfl)
      | (rw [decide_eq_false (show ¬ pc ∈ pcs from by unfold pcs; simp only [List.mem_cons, List.not_mem_nil, or_false]; omega)]; rfl)
  refine ws fun K54 hK54 => ?_
  refine wl hF rfl rfl rfl (r_eql (hF.ev rfl) ec) ?_; clear hF a; intro a hF
  refine wl_mvs (A := [_]) hF rfl ?_; clear hF a; intro a hF
  refine wl_nil (hK54 _ _ ?_)
  refine wc_fx (t := 54) hF rfl ?_ ?_ <;> clear hF <;> intro c54 hF <;> try simp only [zb1, zb2, zb3, zb4, zb5, zb6, zb7, zb8] at c54
  ·
    refine ws fun K55 hK55 => ?_
    refine wl_mvs (A := [_]) hF rfl ?_; clear hF a; intro a hF
    refine wl_nil (hK55 _ _ ?_)
    refine wp_ret ?_
    try simp only [Exit.then, Exit.inBlock, ↓reduceIte]
    refine ret1 rfl hF rfl ⟨⟨_, rfl, ?_⟩, hS.old⟩
    first
      | (rw [decide_eq_true (show pc ∈ pcs from by subst_vars; decide)]; rfl)
      | (rw [decide_eq_false (show ¬ pc ∈ pcs from by unfold pcs; simp only [List.mem_cons, List.not_mem_nil, or_false]; omega)]; rfl)
  refine ws fun K56 hK56 => ?_
  refine wl hF rfl rfl rfl (r_eql (hF.ev rfl) ec) ?_; clear hF a; intro a hF
  refine wl_mvs (A := [_]) hF rfl ?_; clear hF a; intro a hF
  refine wl_nil (hK56 _ _ ?_)
  refine wc_fx (t := 56) hF rfl ?_ ?_ <;> clear hF <;> intro c56 hF <;> try simp only [zb1, zb2, zb3, zb4, zb5, zb6, zb7, zb8] at c56
  ·
    refine ws fun K57 hK57 => ?_
    refine wl_mvs (A := [_]) hF rfl ?_; clear hF a; intro a hF
    refine wl_nil (hK57 _ _ ?_)
    refine wp_ret ?_
    try simp only [Exit.then, Exit.inBlock, ↓reduceIte]
    refine ret1 rfl hF rfl ⟨⟨_, rfl, ?_⟩, hS.old⟩
    first
      | (rw [decide_eq_true (show pc ∈ pcs from by subst_vars; decide)]; rfl)
      | (rw [decide_eq_false (show ¬ pc ∈ pcs from by unfold pcs; simp only [List.mem_cons, List.not_mem_nil, or_false]; omega)]; rfl)
  refine ws fun K58 hK58 => ?_
  refine wl hF rfl rfl rfl (r_eql (hF.ev rfl) ec) ?_; clear hF a; intro a hF
  refine wl_mvs (A := [_]) hF rfl ?_; clear hF a; intro a hF
  refine wl_nil (hK58 _ _ ?_)
  refine wc_fx (t := 58) hF rfl ?_ ?_ <;> clear hF <;> intro c58 hF <;> try simp only [zb1, zb2, zb3, zb4, zb5, zb6, zb7, zb8] at c58
  ·
    refine ws fun K59 hK59 => ?_
    refine wl_mvs (A := [_]) hF rfl ?_; clear hF a; intro a hF
    refine wl_nil (hK59 _ _ ?_)
    refine wp_ret ?_
    try simp only [Exit.then, Exit.inBlock, ↓reduceIte]
    refine ret1 rfl hF rfl ⟨⟨_, rfl, ?_⟩, hS.old⟩
    first
      | (rw [decide_eq_true (show pc ∈ pcs from by subst_vars; decide)]; rfl)
      | (rw [decide_eq_false (show ¬ pc ∈ pcs from by unfold pcs; simp only [List.mem_cons, List.not_mem_nil, or_false]; omega)]; rfl)
  refine ws fun K60 hK60 => ?_
  refine wl hF rfl rfl rfl (r_eql (hF.ev rfl) ec) ?_; clear hF a; intro a hF
  refine wl_mvs (A := [_]) hF rfl ?_; clear hF a; intro a hF
  refine wl_nil (hK60 _ _ ?_)
  refine wc_fx (t := 60) hF rfl ?_ ?_ <;> clear hF <;> intro c60 hF <;> try simp only [zb1, zb2, zb3, zb4, zb5, zb6, zb7, zb8] at c60
  ·
    refine ws fun K61 hK61 => ?_
    refine wl_mvs (A := [_]) hF rfl ?_; clear hF a; intro a hF
    refine wl_nil (hK61 _ _ ?_)
    refine wp_ret ?_
    try simp only [Exit.then, Exit.inBlock, ↓reduceIte]
    refine ret1 rfl hF rfl ⟨⟨_, rfl, ?_⟩, hS.old⟩
    first
      | (rw [decide_eq_true (show pc ∈ pcs from by subst_vars; decide)]; rfl)
      | (rw [decide_eq_false (show ¬ pc ∈ pcs from by unfold pcs; simp only [List.mem_cons, List.not_mem_nil, or_false]; omega)]; rfl)
  refine ws fun K62 hK62 => ?_
  refine wl hF rfl rfl rfl (r_eql (hF.ev rfl) ec) ?_; clear hF a; intro a hF
  refine wl_mvs (A := [_]) hF rfl ?_; clear hF a; intro a hF
  refine wl_nil (hK62 _ _ ?_)
  refine wc_fx (t := 62) hF rfl ?_ ?_ <;> clear hF <;> intro c62 hF <;> try simp only [zb1, zb2, zb3, zb4, zb5, zb6, zb7, zb8] at c62
  ·
    refine ws fun K63 hK63 => ?_
    refine wl_mvs (A := [_]) hF rfl ?_; clear hF a; intro a hF
    refine wl_nil (hK63 _ _ ?_)
    refine wp_ret ?_
    try simp only [Exit.then, Exit.inBlock, ↓reduceIte]
    refine ret1 rfl hF rfl ⟨⟨_, rfl, ?_⟩, hS.old⟩
    first
      | (rw [decide_eq_true (show pc ∈ pcs from by subst_vars; decide)]; rfl)
      | (rw [decide_eq_false (show ¬ pc ∈ pcs from by unfold pcs; simp only [List.mem_cons, List.not_mem_nil, or_false]; omega)]; rfl)
  refine ws fun K64 hK64 => ?_
  refine wl hF rfl rfl rfl (r_eql (hF.ev rfl) ec) ?_; clear hF a; intro a hF
  refine wl_mvs (A := [_]) hF rfl ?_; clear hF a; intro a hF
  refine wl_nil (hK64 _ _ ?_)
  refine wc_fx (t := 64) hF rfl ?_ ?_ <;> clear hF <;> intro c64 hF <;> try simp only [zb1, zb2, zb3, zb4, zb5, zb6, zb7, zb8] at c64
  ·
    refine ws fun K65 hK65 => ?_
    refine wl_mvs (A := [_]) hF rfl ?_; clear hF a; intro a hF
    refine wl_nil (hK65 _ _ ?_)
    refine wp_ret ?_
    try simp only [Exit.then, Exit.inBlock, ↓reduceIte]
    refine ret1 rfl hF rfl ⟨⟨_, rfl, ?_⟩, hS.old⟩
    first
      | (rw [decide_eq_true (show pc ∈ pcs from by subst_vars; decide)]; rfl)
      | (rw [decide_eq_false (show ¬ pc ∈ pcs from by unfold pcs; simp only [List.mem_cons, List.not_mem_nil, or_false]; omega)]; rfl)
  refine ws fun K66 hK66 => ?_
  refine wl hF rfl rfl rfl (r_eql (hF.ev rfl) ec) ?_; clear hF a; intro a hF
  refine wl_mvs (A := [_]) hF rfl ?_; clear hF a; intro a hF
  refine wl_nil (hK66 _ _ ?_)
  refine wc_fx (t := 66) hF rfl ?_ ?_ <;> clear hF <;> intro c66 hF <;> try simp only [zb1, zb2, zb3, zb4, zb5, zb6, zb7, zb8] at c66
  ·
    refine ws fun K67 hK67 => ?_
    refine wl_mvs (A := [_]) hF rfl ?_; clear hF a; intro a hF
    refine wl_nil (hK67 _ _ ?_)
    refine wp_ret ?_
    try simp only [Exit.then, Exit.inBlock, ↓reduceIte]
    refine ret1 rfl hF rfl ⟨⟨_, rfl, ?_⟩, hS.old⟩
    first
      | (rw [decide_eq_true (show pc ∈ pcs from by subst_vars; decide)]; rfl)
      | (rw [decide_eq_false (show ¬ pc ∈ pcs from by unfold pcs; simp only [List.mem_cons, List.not_mem_nil, or_false]; omega)]; rfl)
  refine ws fun K68 hK68 => ?_
  refine wl hF rfl rfl rfl (r_eql (hF.ev rfl) ec) ?_; clear hF a; intro a hF
  refine wl_mvs (A := [_]) hF rfl ?_; clear hF a; intro a hF
  refine wl_nil (hK68 _ _ ?_)
  refine wc_fx (t := 68) hF rfl ?_ ?_ <;> clear hF <;> intro c68 hF <;> try simp only [zb1, zb2, zb3, zb4, zb5, zb6, zb7, zb8] at c68
  ·
    refine ws fun K69 hK69 => ?_
    refine wl_mvs (A := [_]) hF rfl ?_; clear hF a; intro a hF
    refine wl_nil (hK69 _ _ ?_)
    refine wp_ret ?_
    try simp only [Exit.then, Exit.inBlock, ↓reduceIte]
    refine ret1 rfl hF rfl ⟨⟨_, rfl, ?_⟩, hS.old⟩
    first
      | (rw [decide_eq_true (show pc ∈ pcs from by subst_vars; decide)]; rfl)
      | (rw [decide_eq_false (show ¬ pc ∈ pcs from by unfold pcs; simp only [List.mem_cons, List.not_mem_nil, or_false]; omega)]; rfl)
  refine ws fun K70 hK70 => ?_
  refine wl hF rfl rfl rfl (r_eql (hF.ev rfl) ec) ?_; clear hF a; intro a hF
  refine wl_mvs (A := [_]) hF rfl ?_; clear hF a; intro a hF
  refine wl_nil (hK70 _ _ ?_)
  refine wc_fx (t := 70) hF rfl ?_ ?_ <;> clear hF <;> intro c70 hF <;> try simp only [zb1, zb2, zb3, zb4, zb5, zb6, zb7, zb8] at c70
  ·
    refine ws fun K71 hK71 => ?_
    refine wl_mvs (A := [_]) hF rfl ?_; clear hF a; intro a hF
    refine wl_nil (hK71 _ _ ?_)
    refine wp_ret ?_
    try simp only [Exit.then, Exit.inBlock, ↓reduceIte]
    refine ret1 rfl hF rfl ⟨⟨_, rfl, ?_⟩, hS.old⟩
    first
      | (rw [decide_eq_true (show pc ∈ pcs from by subst_vars; decide)]; rfl)
      | (rw [decide_eq_false (show ¬ pc ∈ pcs from by unfold pcs; simp only [List.mem_cons, List.not_mem_nil, or_false]; omega)]; rfl)
  refine ws fun K72 hK72 => ?_
  refine wl hF rfl rfl rfl (r_eql (hF.ev rfl) ec) ?_; clear hF a; intro a hF
  refine wl_mvs (A := [_]) hF rfl ?_; clear hF a; intro a hF
  refine wl_nil (hK72 _ _ ?_)
  refine wc_fx (t := 72) hF rfl ?_ ?_ <;> clear hF <;> intro c72 hF <;> try simp only [zb1, zb2, zb3, zb4, zb5, zb6, zb7, zb8] at c72
  ·
    refine ws fun K73 hK73 => ?_
    refine wl_mvs (A := [_]) hF rfl ?_; clear hF a; intro a hF
    refine wl_nil (hK73 _ _ ?_)
    refine wp_ret ?_
    try simp only [Exit.then, Exit.inBlock, ↓reduceIte]
    refine ret1 rfl hF rfl ⟨⟨_, rfl, ?_⟩, hS.old⟩
    first
      | (rw [decide_eq_true (show pc ∈ pcs from by subst_vars; decide)]; rfl)
      | (rw [decide_eq_false (show ¬ pc ∈ pcs from by unfold pcs; simp only [List.mem_cons, List.not_mem_nil, or_false]; omega)]; rfl)
  refine ws fun K74 hK74 => ?_
  refine wl hF rfl rfl rfl (r_eql (hF.ev rfl) ec) ?_; clear hF a; intro a hF
  refine wl_mvs (A := [_]) hF rfl ?_; clear hF a; intro a hF
  refine wl_nil (hK74 _ _ ?_)
  refine wc_fx (t := 74) hF rfl ?_ ?_ <;> clear hF <;> intro c74 hF <;> try simp only [zb1, zb2, zb3, zb4, zb5, zb6, zb7, zb8] at c74
  ·
    refine ws fun K75 hK75 => ?_
    refine wl_mvs (A := [_]) hF rfl ?_; clear hF a; intro a hF
    refine wl_nil (hK75 _ _ ?_)
    refine wp_ret ?_
    try simp only [Exit.then, Exit.inBlock, ↓reduceIte]
    refine ret1 rfl hF rfl ⟨⟨_, rfl, ?_⟩, hS.old⟩
    first
      | (rw [decide_eq_true (show pc ∈ pcs from by subst_vars; decide)]; rfl)
      | (rw [decide_eq_false (show ¬ pc ∈ pcs from by unfold pcs; simp only [List.mem_cons, List.not_mem_nil, or_false]; omega)]; rfl)
  refine ws fun K76 hK76 => ?_
  refine wl hF rfl rfl rfl (r_eql (hF.ev rfl) ec) ?_; clear hF a; intro a hF
  refine wl_mvs (A := [_]) hF rfl ?_; clear hF a; intro a hF
  refine wl_nil (hK76 _ _ ?_)
  refine wc_fx (t := 76) hF rfl ?_ ?_ <;> clear hF <;> intro c76 hF <;> try simp only [zb1, zb2, zb3, zb4, zb5, zb6, zb7, zb8] at c76
  ·
    refine ws fun K77 hK77 => ?_
    refine wl_mvs (A := [_]) hF rfl ?_; clear hF a; intro a hF
    refine wl_nil (hK77 _ _ ?_)
    refine wp_ret ?_
    try simp only [Exit.then, Exit.inBlock, ↓reduceIte]
    refine ret1 rfl hF rfl ⟨⟨_, rfl, ?_⟩, hS.old⟩
    first
      | (rw [decide_eq_true (show pc ∈ pcs from by subst_vars; decide)]; rfl)
      | (rw [decide_eq_false (show ¬ pc ∈ pcs from by unfold pcs; simp only [List.mem_cons, List.not_mem_nil, or_false]; omega)]; rfl)
  refine ws fun K78 hK78 => ?_
  refine wl hF rfl rfl rfl (r_eql (hF.ev rfl) ec) ?_; clear hF a; intro a hF
  refine wl_mvs (A := [_]) hF rfl ?_; clear hF a; intro a hF
  refine wl_nil (hK78 _ _ ?_)
  refine wc_fx (t := 78) hF rfl ?_ ?_ <;> clear hF <;> intro c78 hF <;> try simp only [zb1, zb2, zb3, zb4, zb5, zb6, zb7, zb8] at c78
  ·
    refine ws fun K79 hK79 => ?_
    refine wl_mvs (A := [_]) hF rfl ?_; clear hF a; intro a hF
    refine wl_nil (hK79 _ _ ?_)
    refine wp_ret ?_
    try simp only [Exit.then, Exit.inBlock, ↓reduceIte]
    refine ret1 rfl hF rfl ⟨⟨_, rfl, ?_⟩, hS.old⟩
    first
      | (rw [decide_eq_true (show pc ∈ pcs from by subst_vars; decide)]; rfl)
      | (rw [decide_eq_false (show ¬ pc ∈ pcs from by unfold pcs; simp only [List.mem_cons, List.not_mem_nil, or_false]; omega)]; rfl)
  refine ws fun K80 hK80 => ?_
  refine wl hF rfl rfl rfl (r_eql (hF.ev rfl) ec) ?_; clear hF a; intro a hF
  refine wl_mvs (A := [_]) hF rfl ?_; clear hF a; intro a hF
  refine wl_nil (hK80 _ _ ?_)
  refine wc_fx (t := 80) hF rfl ?_ ?_ <;> clear hF <;> intro c80 hF <;> try simp only [zb1, zb2, zb3, zb4, zb5, zb6, zb7, zb8] at c80
  ·
    refine ws fun K81 hK81 => ?_
    refine wl_mvs (A := [_]) hF rfl ?_; clear hF a; intro a hF
    refine wl_nil (hK81 _ _ ?_)
    refine wp_ret ?_
    try simp only [Exit.then, Exit.inBlock, ↓reduceIte]
    refine ret1 rfl hF rfl ⟨⟨_, rfl, ?_⟩, hS.old⟩
    first
      | (rw [decide_eq_true (show pc ∈ pcs from by subst_vars; decide)]; rfl)
      | (rw [decide_eq_false (show ¬ pc ∈ pcs from by unfold pcs; simp only [List.mem_cons, List.not_mem_nil, or_false]; omega)]; rfl)
  refine ws fun K82 hK82 => ?_
  refine wl hF rfl rfl rfl (r_eql (hF.ev rfl) ec) ?_; clear hF a; intro a hF
  refine wl_mvs (A := [_]) hF rfl ?_; clear hF a; intro a hF
  refine wl_nil (hK82 _ _ ?_)
  refine wc_fx (t := 82) hF rfl ?_ ?_ <;> clear hF <;> intro c82 hF <;> try simp only [zb1, zb2, zb3, zb4, zb5, zb6, zb7, zb8] at c82
  ·
    refine ws fun K83 hK83 => ?_
    refine wl_mvs (A := [_]) hF rfl ?_; clear hF a; intro a hF
    refine wl_nil (hK83 _ _ ?_)
    refine wp_ret ?_
    try simp only [Exit.then, Exit.inBlock, ↓reduceIte]
    refine ret1 rfl hF rfl ⟨⟨_, rfl, ?_⟩, hS.old⟩
    first
      | (rw [decide_eq_true (show pc ∈ pcs from by subst_vars; decide)]; rfl)
      | (rw [decide_eq_false (show ¬ pc ∈ pcs from by unfold pcs; simp only [List.mem_cons, List.not_mem_nil, or_false]; omega)]; rfl)
  refine ws fun K84 hK84 => ?_
  refine wl hF rfl rfl rfl (r_eql (hF.ev rfl) ec) ?_; clear hF a; intro a hF
  refine wl_mvs (A := [_]) hF rfl ?_; clear hF a; intro a hF
  refine wl_nil (hK84 _ _ ?_)
  refine wc_fx (t := 84) hF rfl ?_ ?_ <;> clear hF <;> intro c84 hF <;> try simp only [zb1, zb2, zb3, zb4, zb5, zb6, zb7, zb8] at c84
  ·
    refine ws fun K85 hK85 => ?_
    refine wl_mvs (A := [_]) hF rfl ?_; clear hF a; intro a hF
    refine wl_nil (hK85 _ _ ?_)
    refine wp_ret ?_
    try simp only [Exit.then, Exit.inBlock, ↓reduceIte]
    refine ret1 rfl hF rfl ⟨⟨_, rfl, ?_⟩, hS.old⟩
    first
      | (rw [decide_eq_true (show pc ∈ pcs from by subst_vars; decide)]; rfl)
      | (rw [decide_eq_false (show ¬ pc ∈ pcs from by unfold pcs; simp only [List.mem_cons, List.not_mem_nil, or_false]; omega)]; rfl)
  refine ws fun K86 hK86 => ?_
  refine wl hF rfl rfl rfl (r_eql (hF.ev rfl) ec) ?_; clear hF a; intro a hF
  refine wl_mvs (A := [_]) hF rfl ?_; clear hF a; intro a hF
  refine wl_nil (hK86 _ _ ?_)
  refine wc_fx (t := 86) hF rfl ?_ ?_ <;> clear hF <;> intro c86 hF <;> try simp only [zb1, zb2, zb3, zb4, zb5, zb6, zb7, zb8] at c86
  ·
    refine ws fun K87 hK87 => ?_
    refine wl_mvs (A := [_]) hF rfl ?_; clear hF a; intro a hF
    refine wl_nil (hK87 _ _ ?_)
    refine wp_ret ?_
    try simp only [Exit.then, Exit.inBlock, ↓reduceIte]
    refine ret1 rfl hF rfl ⟨⟨_, rfl, ?_⟩, hS.old⟩
    first
      | (rw [decide_eq_true (show pc ∈ pcs from by subst_vars; decide)]; rfl)
      | (rw [decide_eq_false (show ¬ pc ∈ pcs from by unfold pcs; simp only [List.mem_cons, List.not_mem_nil, or_false]; omega)]; rfl)
  refine ws fun K88 hK88 => ?_
  refine wl hF rfl rfl rfl (r_eql (hF.ev rfl) ec) ?_; clear hF a; intro a hF
  refine wl_mvs (A := [_]) hF rfl ?_; clear hF a; intro a hF
  refine wl_nil (hK88 _ _ ?_)
  refine wc_fx (t := 88) hF rfl ?_ ?_ <;> clear hF <;> intro c88 hF <;> try simp only [zb1, zb2, zb3, zb4, zb5, zb6, zb7, zb8] at c88
  ·
    refine ws fun K89 hK89 => ?_
    refine wl_mvs (A := [_]) hF rfl ?_; clear hF a; intro a hF
    refine wl_nil (hK89 _ _ ?_)
    refine wp_ret ?_
    try simp only [Exit.then, Exit.inBlock, ↓reduceIte]
    refine ret1 rfl hF rfl ⟨⟨_, rfl, ?_⟩, hS.old⟩
    first
      | (rw [decide_eq_true (show pc ∈ pcs from by subst_vars; decide)]; rfl)
      | (rw [decide_eq_false (show ¬ pc ∈ pcs from by unfold pcs; simp only [List.mem_cons, List.not_mem_nil, or_false]; omega)]; rfl)
  refine wp_skip ?_
  simp only [Exit.then, Exit.inBlock, ↓reduceIte]
  refine hK2 _ _ ?_
  refine ws fun K90 hK90 => ?_
  refine wl_mvs (A := [_]) hF rfl ?_; clear hF a; intro a hF
  refine wl_nil (hK90 _ _ ?_)
  refine wp_ret ?_
  try simp only [Exit.then, Exit.inBlock, ↓reduceIte]
  refine ret1 rfl hF rfl ⟨⟨_, rfl, ?_⟩, hS.old⟩
  first
    | (rw [decide_eq_true (show pc ∈ pcs from by subst_vars; decide)]; rfl)
    | (rw [decide_eq_false (show ¬ pc ∈ pcs from by unfold pcs; simp only [List.mem_cons, List.not_mem_nil, or_false]; omega)]; rfl)
set_option maxHeartbeats 4000000 in
set_option maxRecDepth 20000 in
theorem specIsPc_c {W : World} {pc : Int} : Calls Tryz.prog 155 #[vi pc] W (Ret fun v w' => v = .bool (decide (pc ∈ pcs)) ∧ Below W.heap.size W w') := by
  refine calls_fr Tryz.func155 rfl Tryz.ntmps155 rfl ?_
  intro a hF
  have hS := Sep.refl W
  refine ws fun K1 hK1 => ?_
  refine wl_mvs (A := [_]) hF rfl ?_; clear hF a; intro a hF
  refine wl_nil (hK1 _ _ ?_)
  refine ws fun K2 hK2 => ?_
  refine wl_mvs (A := [_]) hF rfl ?_; clear hF a; intro a hF
  refine wl_call hF rfl rfl rfl (r_call1 en186 (hF.ev rfl)) (specPcName_c) ?_; clear hF a; rintro v w1 a ⟨⟨s4, rfl, hp4⟩, hB_⟩ hF; replace hS := hS.ext hB_; clear hB_
  refine wl hF rfl rfl rfl (r_neqs (hF.ev rfl) ec) ?_; clear hF a; intro a hF
  refine wl_mvs (A := [_]) hF rfl ?_; clear hF a; intro a hF
  refine wl_nil (hK2 _ _ ?_)
  refine wp_ret ?_
  try simp only [Exit.then, Exit.inBlock, ↓reduceIte]
  refine ret1 rfl hF rfl ⟨congrArg Value.bool ?_, hS.old⟩
  show (!(s4.data.toList == [])) = _
  rw [hp4, Bool.not_not]
set_option maxHeartbeats 4000000 in
set_option maxRecDepth 20000 in
theorem implIsPc_c {W : World} {pc : Int} : Calls Tryz.prog 160 #[vi pc] W (Ret fun v w' => v = .bool (decide (pc ∈ pcs)) ∧ Below W.heap.size W w') := by
  refine calls_fr Tryz.func160 rfl Tryz.ntmps160 rfl ?_
  intro a hF
  have hS := Sep.refl W
  refine ws fun K1 hK1 => ?_
  refine wl_mvs (A := [_]) hF rfl ?_; clear hF a; intro a hF
  refine wl_nil (hK1 _ _ ?_)
  refine ws fun K2 hK2 => ?_
  refine wl_mvs (A := [_]) hF rfl ?_; clear hF a; intro a hF
  refine wl_call hF rfl rfl rfl (r_call1 en187 (hF.ev rfl)) (implPcName_c) ?_; clear hF a; rintro v w1 a ⟨⟨s4, rfl, hp4⟩, hB_⟩ hF; replace hS := hS.ext hB_; clear hB_
  refine wl hF rfl rfl rfl (r_neqs (hF.ev rfl) ec) ?_; clear hF a; intro a hF
  refine wl_mvs (A := [_]) hF rfl ?_; clear hF a; intro a hF
  refine wl_nil (hK2 _ _ ?_)
  refine wp_ret ?_
  try simp only [Exit.then, Exit.inBlock, ↓reduceIte]
  refine ret1 rfl hF rfl ⟨congrArg Value.bool ?_, hS.old⟩
  show (!(s4.data.toList == [])) = _
  rw [hp4, Bool.not_not]
end Go.Proofs.YtifhfodphoeeoaaGreat.Wk
