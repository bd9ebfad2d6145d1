/- Walks: handles. -/
import Derived.Test.YtifhfodphoeeoaaGreatChecked
import Derived.Test.YtifhfodphoeeoaaGreatWkE
import Derived.Test.YtifhfodphoeeoaaGreatOpen
namespace Go.Proofs.YtifhfodphoeeoaaGreat.Wk
open Go Go.RowKit Sl
set_option linter.unusedVariables false
set_option linter.unusedSimpArgs false
set_option maxRecDepth 20000

/-- handles, as the reference reads them -/
def isHandle (h : Int) : Bool := decide (1 < h) && decide (0 < h / 2 % 64) && decide (h / 2 / 64 ≤ 9999)
def indexOf (h : Int) : Int := if isHandle h = true then h / 2 % 64 - 1 else -1
def genOf (h : Int) : Int := if isHandle h = true then h / 2 / 64 else -1
def isMarked (h : Int) : Bool := decide (h = 1) || (isHandle h && decide (h % 2 = 1))
def unmarked (h : Int) : Int := if isMarked h = true then h - 1 else h
def isNode (c : Config) (h : Int) : Bool := isHandle h && decide (indexOf h < c.capacity)
def isLink (c : Config) (h : Int) : Bool := decide (h = 0) || (isNode c h && !isMarked h)
def zeroOk (c : Config) (h : Int) : Bool := decide (unmarked h = 0) || isNode c (unmarked h)
section
variable {h : Int}
theorem isHandle_iff : isHandle h = true ↔ 1 < h ∧ 0 < h / 2 % 64 ∧ h / 2 / 64 ≤ 9999 := by
  simp only [isHandle, Bool.and_eq_true, decide_eq_true_eq, and_assoc]
theorem half_pos (h0 : 0 ≤ h) (h1 : int64 h) : IntKind.i64.wrap (h.tdiv 2) = h / 2 := by
  unfold int64 at h1
  rw [Int.tdiv_eq_ediv_of_nonneg h0, w64_id (by omega) (by omega)]
theorem q64_pos (h0 : 0 ≤ h) (h1 : int64 h) : IntKind.i64.wrap (h.tdiv 64) = h / 64 := by
  unfold int64 at h1
  rw [Int.tdiv_eq_ediv_of_nonneg h0, w64_id (by omega) (by omega)]
theorem rem_pos (m : Int) (h0 : 0 ≤ h) : h.tmod m = h % m := Int.tmod_eq_emod_of_nonneg h0
theorem int64_half (h1 : int64 h) (h0 : 0 ≤ h) : int64 (h / 2) := by unfold int64 at *; omega
theorem isMarked_unmarked : isMarked (unmarked h) = false := by
  unfold unmarked
  split
  · rename_i hm
    unfold isMarked at hm ⊢
    simp only [Bool.or_eq_true, Bool.and_eq_true, decide_eq_true_eq, isHandle_iff, Bool.or_eq_false_iff, decide_eq_false_iff_not, Bool.and_eq_false_iff] at hm ⊢
    omega
  · rename_i hm; simpa using hm
theorem isLink_unmarked {c : Config} : isLink c (unmarked h) = zeroOk c h := by simp [isLink, zeroOk, isMarked_unmarked]
theorem isLink_zero {c : Config} : isLink c h = (zeroOk c h && !isMarked h) := by
  unfold zeroOk unmarked isLink
  split
  · rename_i hm
    have : ¬ h = 0 := by
      intro e; subst e; revert hm; decide
    simp [hm, this]
  · rename_i hm
    have hm' : isMarked h = false := by simpa using hm
    simp [hm']
theorem unmark_wrap (hm : isMarked h = true) (h1 : int64 h) : IntKind.i64.wrap (h - 1) = h - 1 := by
  unfold isMarked at hm
  simp only [Bool.or_eq_true, Bool.and_eq_true, decide_eq_true_eq, isHandle_iff] at hm
  unfold int64 at h1
  exact w64_id (by omega) (by omega)
theorem int64_unmarked (h1 : int64 h) : int64 (unmarked h) := by
  unfold unmarked
  split
  · rename_i hm
    unfold isMarked at hm
    simp only [Bool.or_eq_true, Bool.and_eq_true, decide_eq_true_eq, isHandle_iff] at hm
    unfold int64 at *; omega
  · exact h1
end

set_option maxHeartbeats 4000000 in
set_option maxRecDepth 20000 in
theorem specIsHandle_c {W : World} {h : Int} (h1 : int64 h) : Calls Tryz.prog 143 #[vi h] W (Ret fun v w' => v = .bool (isHandle h) ∧ Below W.heap.size W w') := by
  refine calls_fr Tryz.func143 rfl Tryz.ntmps143 rfl ?_
  intro a hF
  have hS := Sep.refl W
  refine ws fun K1 hK1 => ?_
  refine wl_mvs (A := [_]) hF rfl ?_; clear hF a; intro a hF
  refine wl_nil (hK1 _ _ ?_)
  refine ws fun K2 hK2 => ?_
  refine wl_mvs (A := [_]) hF rfl ?_; clear hF a; intro a hF
  refine wl hF rfl rfl rfl (r_quo (by first | decide | omega) (hF.ev rfl) ec) ?_; clear hF a; intro a hF
  refine wl_mvs (A := [_]) hF rfl ?_; clear hF a; intro a hF
  refine wl_nil (hK2 _ _ ?_)
  refine ws fun K3 hK3 => ?_
  refine wl_mvs (A := [_]) hF rfl ?_; clear hF a; intro a hF
  refine wl hF rfl rfl rfl (r_gtr (hF.ev rfl) ec) ?_; clear hF a; intro a hF
  refine wl_mvs (A := [_]) hF rfl ?_; clear hF a; intro a hF
  apply wl_and (A := [_, _, _, _]) (pk := 12) hF hS (tc := 8) rfl
  ·
    intro hg8 a hF; try simp only [zb1, zb2, zb3, zb4, zb5, zb6, zb7, zb8] at hg8
    refine wl_mvs (A := [_]) hF rfl ?_; clear hF a; intro a hF
    refine wl_take hF rfl rfl rfl rfl ?_
    refine wl hF rfl rfl rfl (r_rem (by first | decide | omega) (hF.ev rfl) ec) ?_; clear hF a; intro a hF
    refine wl_take hF rfl rfl rfl rfl ?_
    refine wl hF rfl rfl rfl (r_gtr (hF.ev rfl) ec) ?_; clear hF a; intro a hF
    refine wl hF rfl rfl rfl (r_pick_t (hF.ev rfl) (hF.ev rfl)) ?_; clear hF a; intro a hF
    exact wl_nil ⟨rfl, (Fr.pre (A := [_, _, _, _]) hF rfl).keep hF (t := 12) rfl, hS⟩
  ·
    intro hg8 a hF; try simp only [zb1, zb2, zb3, zb4, zb5, zb6, zb7, zb8] at hg8
    refine wl_mvs (A := [_, _, _]) hF rfl ?_; clear hF a; intro a hF
    refine wl hF rfl rfl rfl (r_pick_f (hF.ev rfl) ec) ?_; clear hF a; intro a hF
    exact wl_nil ⟨rfl, (Fr.pre (A := [_, _, _, _]) hF rfl).keep hF (t := 12) rfl, hS⟩
  clear hF a hS; intro a w1 hF hS
  refine wl_mvs (A := [_]) hF rfl ?_; clear hF a; intro a hF
  apply wl_and (A := [_, _, _, _]) (pk := 17) hF hS (tc := 13) rfl
  ·
    intro hg13 a hF; try simp only [zb1, zb2, zb3, zb4, zb5, zb6, zb7, zb8] at hg13
    refine wl_mvs (A := [_]) hF rfl ?_; clear hF a; intro a hF
    refine wl_take hF rfl rfl rfl rfl ?_
    refine wl hF rfl rfl rfl (r_quo (by first | decide | omega) (hF.ev rfl) ec) ?_; clear hF a; intro a hF
    refine wl_take hF rfl rfl rfl rfl ?_
    refine wl hF rfl rfl rfl (r_leq (hF.ev rfl) ec) ?_; clear hF a; intro a hF
    refine wl hF rfl rfl rfl (r_pick_t (hF.ev rfl) (hF.ev rfl)) ?_; clear hF a; intro a hF
    exact wl_nil ⟨rfl, (Fr.pre (A := [_, _, _, _]) hF rfl).keep hF (t := 17) rfl, hS⟩
  ·
    intro hg13 a hF; try simp only [zb1, zb2, zb3, zb4, zb5, zb6, zb7, zb8] at hg13
    refine wl_mvs (A := [_, _, _]) hF rfl ?_; clear hF a; intro a hF
    refine wl hF rfl rfl rfl (r_pick_f (hF.ev rfl) ec) ?_; clear hF a; intro a hF
    exact wl_nil ⟨rfl, (Fr.pre (A := [_, _, _, _]) hF rfl).keep hF (t := 17) rfl, hS⟩
  clear hF a hS; intro a w2 hF hS
  refine wl_mvs (A := [_]) hF rfl ?_; clear hF a; intro a hF
  refine wl_nil (hK3 _ _ ?_)
  refine wp_ret ?_
  try simp only [Exit.then, Exit.inBlock, ↓reduceIte]
  refine ret1 rfl hF rfl ⟨congrArg Value.bool ?_, hS.old⟩
  by_cases h0 : 0 ≤ h
  · rw [half_pos h0 h1, rem_pos _ (by omega), q64_pos (by omega) (int64_half h1 h0)]; rfl
  · unfold isHandle; rw [decide_eq_false (show ¬ 1 < h by omega)]; rfl

set_option maxHeartbeats 4000000 in
set_option maxRecDepth 20000 in
theorem specIndexOf_c {W : World} {h : Int} (h1 : int64 h) : Calls Tryz.prog 104 #[vi h] W (Ret fun v w' => v = vi (indexOf h) ∧ Below W.heap.size W w') := by
  refine calls_fr Tryz.func104 rfl Tryz.ntmps104 rfl ?_
  intro a hF
  have hS := Sep.refl W
  refine ws fun K1 hK1 => ?_
  refine wl_mvs (A := [_]) hF rfl ?_; clear hF a; intro a hF
  refine wl_nil (hK1 _ _ ?_)
  refine wp_seq_k fun K2 hK2 => ?_
  refine ws fun K3 hK3 => ?_
  refine wl_mvs (A := [_]) hF rfl ?_; clear hF a; intro a hF
  refine wl_call hF rfl rfl rfl (r_call1 en143 (hF.ev rfl)) (specIsHandle_c h1) ?_; clear hF a; rintro v w1 a ⟨rfl, hB_⟩ hF; replace hS := hS.ext hB_; clear hB_
  refine wl hF rfl rfl rfl (r_not (hF.ev rfl)) ?_; clear hF a; intro a hF
  refine wl_nil (hK3 _ _ ?_)
  refine wc_fx (t := 5) hF rfl ?_ ?_ <;> clear hF <;> intro c5 hF <;> try simp only [zb1, zb2, zb3, zb4, zb5, zb6, zb7, zb8] at c5
  ·
    refine ws fun K4 hK4 => ?_
    refine wl_mvs (A := [_]) hF rfl ?_; clear hF a; intro a hF
    refine wl_nil (hK4 _ _ ?_)
    refine wp_ret ?_
    try simp only [Exit.then, Exit.inBlock, ↓reduceIte]
    refine ret1 rfl hF rfl ⟨?_, hS.old⟩
    unfold indexOf; rw [c5]
    first | rfl | (have hi := isHandle_iff.1 c5; have h1u := h1; unfold int64 at h1u; rw [if_pos rfl, half_pos (by omega) h1, rem_pos _ (by omega), w64_id (by omega) (by omega)])
  refine wp_skip ?_
  refine hK2 _ _ ?_
  refine ws fun K5 hK5 => ?_
  refine wl_mvs (A := [_]) hF rfl ?_; clear hF a; intro a hF
  refine wl hF rfl rfl rfl (r_quo (by first | decide | omega) (hF.ev rfl) ec) ?_; clear hF a; intro a hF
  refine wl hF rfl rfl rfl (r_rem (by first | decide | omega) (hF.ev rfl) ec) ?_; clear hF a; intro a hF
  refine wl hF rfl rfl rfl (r_sub (hF.ev rfl) ec) ?_; clear hF a; intro a hF
  refine wl_mvs (A := [_]) hF rfl ?_; clear hF a; intro a hF
  refine wl_nil (hK5 _ _ ?_)
  refine wp_ret ?_
  try simp only [Exit.then, Exit.inBlock, ↓reduceIte]
  refine ret1 rfl hF rfl ⟨?_, hS.old⟩
  unfold indexOf; rw [c5]
  first | rfl | (have hi := isHandle_iff.1 c5; have h1u := h1; unfold int64 at h1u; rw [if_pos rfl, half_pos (by omega) h1, rem_pos _ (by omega), w64_id (by omega) (by omega)])

set_option maxHeartbeats 4000000 in
set_option maxRecDepth 20000 in
theorem specGenOf_c {W : World} {h : Int} (h1 : int64 h) : Calls Tryz.prog 144 #[vi h] W (Ret fun v w' => v = vi (genOf h) ∧ Below W.heap.size W w') := by
  refine calls_fr Tryz.func144 rfl Tryz.ntmps144 rfl ?_
  intro a hF
  have hS := Sep.refl W
  refine ws fun K1 hK1 => ?_
  refine wl_mvs (A := [_]) hF rfl ?_; clear hF a; intro a hF
  refine wl_nil (hK1 _ _ ?_)
  refine wp_seq_k fun K2 hK2 => ?_
  refine ws fun K3 hK3 => ?_
  refine wl_mvs (A := [_]) hF rfl ?_; clear hF a; intro a hF
  refine wl_call hF rfl rfl rfl (r_call1 en143 (hF.ev rfl)) (specIsHandle_c h1) ?_; clear hF a; rintro v w1 a ⟨rfl, hB_⟩ hF; replace hS := hS.ext hB_; clear hB_
  refine wl hF rfl rfl rfl (r_not (hF.ev rfl)) ?_; clear hF a; intro a hF
  refine wl_nil (hK3 _ _ ?_)
  refine wc_fx (t := 5) hF rfl ?_ ?_ <;> clear hF <;> intro c5 hF <;> try simp only [zb1, zb2, zb3, zb4, zb5, zb6, zb7, zb8] at c5
  ·
    refine ws fun K4 hK4 => ?_
    refine wl_mvs (A := [_]) hF rfl ?_; clear hF a; intro a hF
    refine wl_nil (hK4 _ _ ?_)
    refine wp_ret ?_
    try simp only [Exit.then, Exit.inBlock, ↓reduceIte]
    refine ret1 rfl hF rfl ⟨?_, hS.old⟩
    unfold genOf; rw [c5]
    first | rfl | (have hi := isHandle_iff.1 c5; rw [if_pos rfl, half_pos (by omega) h1, q64_pos (by omega) (int64_half h1 (by omega))])
  refine wp_skip ?_
  refine hK2 _ _ ?_
  refine ws fun K5 hK5 => ?_
  refine wl_mvs (A := [_]) hF rfl ?_; clear hF a; intro a hF
  refine wl hF rfl rfl rfl (r_quo (by first | decide | omega) (hF.ev rfl) ec) ?_; clear hF a; intro a hF
  refine wl hF rfl rfl rfl (r_quo (by first | decide | omega) (hF.ev rfl) ec) ?_; clear hF a; intro a hF
  refine wl_mvs (A := [_]) hF rfl ?_; clear hF a; intro a hF
  refine wl_nil (hK5 _ _ ?_)
  refine wp_ret ?_
  try simp only [Exit.then, Exit.inBlock, ↓reduceIte]
  refine ret1 rfl hF rfl ⟨?_, hS.old⟩
  unfold genOf; rw [c5]
  first | rfl | (have hi := isHandle_iff.1 c5; rw [if_pos rfl, half_pos (by omega) h1, q64_pos (by omega) (int64_half h1 (by omega))])

set_option maxHeartbeats 4000000 in
set_option maxRecDepth 20000 in
theorem specIsMarked_c {W : World} {h : Int} (h1 : int64 h) : Calls Tryz.prog 93 #[vi h] W (Ret fun v w' => v = .bool (isMarked h) ∧ Below W.heap.size W w') := by
  refine calls_fr Tryz.func93 rfl Tryz.ntmps93 rfl ?_
  intro a hF
  have hS := Sep.refl W
  refine ws fun K1 hK1 => ?_
  refine wl_mvs (A := [_]) hF rfl ?_; clear hF a; intro a hF
  refine wl_nil (hK1 _ _ ?_)
  refine ws fun K2 hK2 => ?_
  refine wl_mvs (A := [_]) hF rfl ?_; clear hF a; intro a hF
  refine wl hF rfl rfl rfl (r_eql (hF.ev rfl) ec) ?_; clear hF a; intro a hF
  refine wl_mvs (A := [_]) hF rfl ?_; clear hF a; intro a hF
  apply wl_or (A := [_, _, _, _, _, _, _, _]) (pk := 13) hF hS (tc := 5) rfl
  ·
    intro hg5 a hF; try simp only [zb1, zb2, zb3, zb4, zb5, zb6, zb7, zb8] at hg5
    refine wl_mvs (A := [_]) hF rfl ?_; clear hF a; intro a hF
    refine wl_take hF rfl rfl rfl rfl ?_
    refine wl_call hF rfl rfl rfl (r_call1 en143 (hF.ev rfl)) (specIsHandle_c h1) ?_; clear hF a; rintro v w1 a ⟨rfl, hB_⟩ hF; replace hS := hS.ext hB_; clear hB_
    refine wl_mvs (A := [_]) hF rfl ?_; clear hF a; intro a hF
    apply wl_and (A := [_, _, _, _]) (pk := 12) hF hS (tc := 8) rfl
    ·
      intro hg8 a hF; try simp only [zb1, zb2, zb3, zb4, zb5, zb6, zb7, zb8] at hg8
      refine wl_mvs (A := [_]) hF rfl ?_; clear hF a; intro a hF
      refine wl_take hF rfl rfl rfl rfl ?_
      refine wl hF rfl rfl rfl (r_rem (by first | decide | omega) (hF.ev rfl) ec) ?_; clear hF a; intro a hF
      refine wl_take hF rfl rfl rfl rfl ?_
      refine wl hF rfl rfl rfl (r_eql (hF.ev rfl) ec) ?_; clear hF a; intro a hF
      refine wl_take hF rfl rfl rfl rfl ?_
      refine wl hF rfl rfl rfl (r_pick_t (hF.ev rfl) (hF.ev rfl)) ?_; clear hF a; intro a hF
      exact wl_nil ⟨rfl, (Fr.pre (A := [_, _, _, _]) hF rfl).keep hF (t := 12) rfl, hS⟩
    ·
      intro hg8 a hF; try simp only [zb1, zb2, zb3, zb4, zb5, zb6, zb7, zb8] at hg8
      refine wl_mvs (A := [_, _, _]) hF rfl ?_; clear hF a; intro a hF
      refine wl_take hF rfl rfl rfl rfl ?_
      refine wl hF rfl rfl rfl (r_pick_f (hF.ev rfl) ec) ?_; clear hF a; intro a hF
      exact wl_nil ⟨rfl, (Fr.pre (A := [_, _, _, _]) hF rfl).keep hF (t := 12) rfl, hS⟩
    intro a w2 hF hS
    refine wl hF rfl rfl rfl (r_pick_f (hF.ev rfl) (hF.ev rfl)) ?_; clear hF a; intro a hF
    exact wl_nil ⟨rfl, (Fr.pre (A := [_, _, _, _, _]) hF rfl).keep hF (t := 13) rfl, hS⟩
  ·
    intro hg5 a hF; try simp only [zb1, zb2, zb3, zb4, zb5, zb6, zb7, zb8] at hg5
    refine wl_mvs (A := [_, _, _, _, _, _, _]) hF rfl ?_; clear hF a; intro a hF
    refine wl hF rfl rfl rfl (r_pick_t (hF.ev rfl) ec) ?_; clear hF a; intro a hF
    exact wl_nil ⟨rfl, (Fr.pre (A := [_, _, _, _, _, _, _, _]) hF rfl).keep hF (t := 13) rfl, hS⟩
  clear hF a hS; intro a w3 hF hS
  refine wl_mvs (A := [_]) hF rfl ?_; clear hF a; intro a hF
  refine wl_nil (hK2 _ _ ?_)
  refine wp_ret ?_
  try simp only [Exit.then, Exit.inBlock, ↓reduceIte]
  refine ret1 rfl hF rfl ⟨congrArg Value.bool ?_, hS.old⟩
  by_cases h0 : 0 ≤ h
  · rw [rem_pos _ h0]; rfl
  · have e : isHandle h = false := by rw [Bool.eq_false_iff]; intro e; rw [isHandle_iff] at e; omega
    unfold isMarked; rw [e, Bool.false_and, Bool.false_and]

set_option maxHeartbeats 4000000 in
set_option maxRecDepth 20000 in
theorem specUnmarked_c {W : World} {h : Int} (h1 : int64 h) : Calls Tryz.prog 87 #[vi h] W (Ret fun v w' => v = vi (unmarked h) ∧ Below W.heap.size W w') := by
  refine calls_fr Tryz.func87 rfl Tryz.ntmps87 rfl ?_
  intro a hF
  have hS := Sep.refl W
  refine ws fun K1 hK1 => ?_
  refine wl_mvs (A := [_]) hF rfl ?_; clear hF a; intro a hF
  refine wl_nil (hK1 _ _ ?_)
  refine wp_seq_k fun K2 hK2 => ?_
  refine ws fun K3 hK3 => ?_
  refine wl_mvs (A := [_]) hF rfl ?_; clear hF a; intro a hF
  refine wl_call hF rfl rfl rfl (r_call1 en93 (hF.ev rfl)) (specIsMarked_c h1) ?_; clear hF a; rintro v w1 a ⟨rfl, hB_⟩ hF; replace hS := hS.ext hB_; clear hB_
  refine wl_nil (hK3 _ _ ?_)
  refine wc_fx (t := 4) hF rfl ?_ ?_ <;> clear hF <;> intro c4 hF <;> try simp only [zb1, zb2, zb3, zb4, zb5, zb6, zb7, zb8] at c4
  ·
    refine ws fun K4 hK4 => ?_
    refine wl_mvs (A := [_]) hF rfl ?_; clear hF a; intro a hF
    refine wl hF rfl rfl rfl (r_sub (hF.ev rfl) ec) ?_; clear hF a; intro a hF
    refine wl_mvs (A := [_]) hF rfl ?_; clear hF a; intro a hF
    refine wl_nil (hK4 _ _ ?_)
    refine wp_ret ?_
    try simp only [Exit.then, Exit.inBlock, ↓reduceIte]
    refine ret1 rfl hF rfl ⟨?_, hS.old⟩
    unfold unmarked; rw [c4]
    first | rfl | (rw [if_pos rfl, unmark_wrap c4 h1])
  refine wp_skip ?_
  refine hK2 _ _ ?_
  refine ws fun K5 hK5 => ?_
  refine wl_mvs (A := [_, _]) hF rfl ?_; clear hF a; intro a hF
  refine wl_nil (hK5 _ _ ?_)
  refine wp_ret ?_
  try simp only [Exit.then, Exit.inBlock, ↓reduceIte]
  refine ret1 rfl hF rfl ⟨?_, hS.old⟩
  unfold unmarked; rw [c4]
  first | rfl | (rw [if_pos rfl, unmark_wrap c4 h1])

set_option maxHeartbeats 4000000 in
set_option maxRecDepth 20000 in
theorem parts_c {W : World} {h : Int} (h1 : int64 h) : Calls Tryz.prog 148 #[vi h] W (Ret fun v w' => v = .tuple #[vi (indexOf h), vi (genOf h), .bool (isHandle h)] ∧ Below W.heap.size W w') := by
  refine calls_fr Tryz.func148 rfl Tryz.ntmps148 rfl ?_
  intro a hF
  have hS := Sep.refl W
  refine ws fun K1 hK1 => ?_
  refine wl_mvs (A := [_, _, _]) hF rfl ?_; clear hF a; intro a hF
  refine wl_nil (hK1 _ _ ?_)
  refine wp_seq_k fun K2 hK2 => ?_
  refine ws fun K3 hK3 => ?_
  refine wl_mvs (A := [_]) hF rfl ?_; clear hF a; intro a hF
  refine wl hF rfl rfl rfl (r_lss (hF.ev rfl) ec) ?_; clear hF a; intro a hF
  refine wl_nil (hK3 _ _ ?_)
  refine wc_fx (t := 7) hF rfl ?_ ?_ <;> clear hF <;> intro c7 hF <;> try simp only [zb1, zb2, zb3, zb4, zb5, zb6, zb7, zb8] at c7
  ·
    refine ws fun K4 hK4 => ?_
    refine wl_mvs (A := [_, _, _]) hF rfl ?_; clear hF a; intro a hF
    refine wl_nil (hK4 _ _ ?_)
    refine wp_ret ?_
    try simp only [Exit.then, Exit.inBlock, ↓reduceIte]
    first
      | (have e : isHandle h = false := by rw [Bool.eq_false_iff]; intro e; rw [isHandle_iff] at e; omega
         exact ret3 rfl hF rfl rfl rfl ⟨by unfold indexOf genOf; rw [e]; rfl, hS.old⟩)
      | (have e : isHandle h = true := by rw [isHandle_iff]; omega
         refine ret3 rfl hF rfl rfl rfl ⟨?_, hS.old⟩
         unfold indexOf genOf; rw [e, if_pos rfl, if_pos rfl]
         rw [hw3, hw4, show (h / 2 - 1) % 64 = h / 2 % 64 - 1 by omega, show (h / 2 - 1) / 64 = h / 2 / 64 by omega])
  have hw1 := half_pos (by omega) h1
  have h1u := h1; unfold int64 at h1u
  have hw2 : IntKind.i64.wrap (h / 2 - 1) = h / 2 - 1 := w64_id (by omega) (by omega)
  have hw3 := rem_pos (h := h / 2 - 1) 64 (by omega)
  have hw4 := q64_pos (h := h / 2 - 1) (by omega) (by unfold int64; omega)
  refine wp_skip ?_
  refine hK2 _ _ ?_
  refine ws fun K5 hK5 => ?_
  refine wl_mvs (A := [_]) hF rfl ?_; clear hF a; intro a hF
  refine wl hF rfl rfl rfl (r_quo (by first | decide | omega) (hF.ev rfl) ec) ?_; clear hF a; intro a hF
  refine wl hF rfl rfl rfl (r_sub (hF.ev rfl) ec) ?_; clear hF a; intro a hF
  refine wl_mvs (A := [_]) hF rfl ?_; clear hF a; intro a hF
  refine wl_nil (hK5 _ _ ?_)
  refine wp_seq_k fun K6 hK6 => ?_
  refine ws fun K7 hK7 => ?_
  refine wl_mvs (A := [_]) hF rfl ?_; clear hF a; intro a hF
  refine wl hF rfl rfl rfl (r_rem (by first | decide | omega) (hF.ev rfl) ec) ?_; clear hF a; intro a hF
  refine wl hF rfl rfl rfl (r_gtr (hF.ev rfl) ec) ?_; clear hF a; intro a hF
  refine wl_mvs (A := [_]) hF rfl ?_; clear hF a; intro a hF
  apply wl_or (A := [_, _, _, _]) (pk := 18) hF hS (tc := 14) rfl
  ·
    intro hg14 a hF; try simp only [zb1, zb2, zb3, zb4, zb5, zb6, zb7, zb8] at hg14
    refine wl_mvs (A := [_]) hF rfl ?_; clear hF a; intro a hF
    refine wl_take hF rfl rfl rfl rfl ?_
    refine wl hF rfl rfl rfl (r_quo (by first | decide | omega) (hF.ev rfl) ec) ?_; clear hF a; intro a hF
    refine wl_take hF rfl rfl rfl rfl ?_
    refine wl hF rfl rfl rfl (r_gtr (hF.ev rfl) ec) ?_; clear hF a; intro a hF
    refine wl hF rfl rfl rfl (r_pick_f (hF.ev rfl) (hF.ev rfl)) ?_; clear hF a; intro a hF
    exact wl_nil ⟨rfl, (Fr.pre (A := [_, _, _, _]) hF rfl).keep hF (t := 18) rfl, hS⟩
  ·
    intro hg14 a hF; try simp only [zb1, zb2, zb3, zb4, zb5, zb6, zb7, zb8] at hg14
    refine wl_mvs (A := [_, _, _]) hF rfl ?_; clear hF a; intro a hF
    refine wl hF rfl rfl rfl (r_pick_t (hF.ev rfl) ec) ?_; clear hF a; intro a hF
    exact wl_nil ⟨rfl, (Fr.pre (A := [_, _, _, _]) hF rfl).keep hF (t := 18) rfl, hS⟩
  clear hF a hS; intro a w1 hF hS
  refine wl_nil (hK7 _ _ ?_)
  refine wc_fx (t := 18) hF rfl ?_ ?_ <;> clear hF <;> intro c18 hF <;> try simp only [zb1, zb2, zb3, zb4, zb5, zb6, zb7, zb8] at c18
  ·
    rw [hw1, hw2, hw3, hw4] at c18
    refine ws fun K8 hK8 => ?_
    refine wl_mvs (A := [_, _, _]) hF rfl ?_; clear hF a; intro a hF
    refine wl_nil (hK8 _ _ ?_)
    refine wp_ret ?_
    try simp only [Exit.then, Exit.inBlock, ↓reduceIte]
    first
      | (have e : isHandle h = false := by rw [Bool.eq_false_iff]; intro e; rw [isHandle_iff] at e; omega
         exact ret3 rfl hF rfl rfl rfl ⟨by unfold indexOf genOf; rw [e]; rfl, hS.old⟩)
      | (have e : isHandle h = true := by rw [isHandle_iff]; omega
         refine ret3 rfl hF rfl rfl rfl ⟨?_, hS.old⟩
         unfold indexOf genOf; rw [e, if_pos rfl, if_pos rfl]
         rw [hw3, hw4, show (h / 2 - 1) % 64 = h / 2 % 64 - 1 by omega, show (h / 2 - 1) / 64 = h / 2 / 64 by omega])
  rw [hw1, hw2, hw3, hw4] at c18
  rw [hw1, hw2, hw3, hw4] at hF
  refine wp_skip ?_
  refine hK6 _ _ ?_
  refine ws fun K9 hK9 => ?_
  refine wl_mvs (A := [_]) hF rfl ?_; clear hF a; intro a hF
  refine wl hF rfl rfl rfl (r_rem (by first | decide | omega) (hF.ev rfl) ec) ?_; clear hF a; intro a hF
  refine wl_mvs (A := [_]) hF rfl ?_; clear hF a; intro a hF
  refine wl hF rfl rfl rfl (r_quo (by first | decide | omega) (hF.ev rfl) ec) ?_; clear hF a; intro a hF
  refine wl_mvs (A := [_, _, _]) hF rfl ?_; clear hF a; intro a hF
  refine wl_nil (hK9 _ _ ?_)
  refine wp_ret ?_
  try simp only [Exit.then, Exit.inBlock, ↓reduceIte]
  first
    | (have e : isHandle h = false := by rw [Bool.eq_false_iff]; intro e; rw [isHandle_iff] at e; omega
       exact ret3 rfl hF rfl rfl rfl ⟨by unfold indexOf genOf; rw [e]; rfl, hS.old⟩)
    | (have e : isHandle h = true := by rw [isHandle_iff]; omega
       refine ret3 rfl hF rfl rfl rfl ⟨?_, hS.old⟩
       unfold indexOf genOf; rw [e, if_pos rfl, if_pos rfl]
       rw [hw3, hw4, show (h / 2 - 1) % 64 = h / 2 % 64 - 1 by omega, show (h / 2 - 1) / 64 = h / 2 / 64 by omega])

set_option maxHeartbeats 4000000 in
set_option maxRecDepth 20000 in
theorem implIsHandle_c {W : World} {h : Int} (h1 : int64 h) : Calls Tryz.prog 146 #[vi h] W (Ret fun v w' => v = .bool (isHandle h) ∧ Below W.heap.size W w') := by
  refine calls_fr Tryz.func146 rfl Tryz.ntmps146 rfl ?_
  intro a hF
  have hS := Sep.refl W
  refine ws fun K1 hK1 => ?_
  refine wl_mvs (A := [_]) hF rfl ?_; clear hF a; intro a hF
  refine wl_nil (hK1 _ _ ?_)
  refine ws fun K2 hK2 => ?_
  refine wl_mvs (A := [_]) hF rfl ?_; clear hF a; intro a hF
  refine wl_call hF rfl rfl rfl (r_call1 en148 (hF.ev rfl)) (parts_c h1) ?_; clear hF a; rintro v w1 a ⟨rfl, hB_⟩ hF; replace hS := hS.ext hB_; clear hB_
  refine wl_mvs (A := [_]) hF rfl ?_; clear hF a; intro a hF
  refine wl hF rfl rfl rfl (r_extract (hF.ev rfl) rfl) ?_; clear hF a; intro a hF
  refine wl hF rfl rfl rfl (r_extract (hF.ev rfl) rfl) ?_; clear hF a; intro a hF
  refine wl hF rfl rfl rfl (r_extract (hF.ev rfl) rfl) ?_; clear hF a; intro a hF
  refine wl_mvs (A := [_, _, _]) hF rfl ?_; clear hF a; intro a hF
  refine wl_nil (hK2 _ _ ?_)
  refine ws fun K3 hK3 => ?_
  refine wl_mvs (A := [_, _]) hF rfl ?_; clear hF a; intro a hF
  refine wl_nil (hK3 _ _ ?_)
  refine wp_ret ?_
  try simp only [Exit.then, Exit.inBlock, ↓reduceIte]
  exact ret1 rfl hF rfl ⟨rfl, hS.old⟩

set_option maxHeartbeats 4000000 in
set_option maxRecDepth 20000 in
theorem implIndexOf_c {W : World} {h : Int} (h1 : int64 h) : Calls Tryz.prog 107 #[vi h] W (Ret fun v w' => v = vi (indexOf h) ∧ Below W.heap.size W w') := by
  refine calls_fr Tryz.func107 rfl Tryz.ntmps107 rfl ?_
  intro a hF
  have hS := Sep.refl W
  refine ws fun K1 hK1 => ?_
  refine wl_mvs (A := [_]) hF rfl ?_; clear hF a; intro a hF
  refine wl_nil (hK1 _ _ ?_)
  refine ws fun K2 hK2 => ?_
  refine wl_mvs (A := [_]) hF rfl ?_; clear hF a; intro a hF
  refine wl_call hF rfl rfl rfl (r_call1 en148 (hF.ev rfl)) (parts_c h1) ?_; clear hF a; rintro v w1 a ⟨rfl, hB_⟩ hF; replace hS := hS.ext hB_; clear hB_
  refine wl_mvs (A := [_]) hF rfl ?_; clear hF a; intro a hF
  refine wl hF rfl rfl rfl (r_extract (hF.ev rfl) rfl) ?_; clear hF a; intro a hF
  refine wl hF rfl rfl rfl (r_extract (hF.ev rfl) rfl) ?_; clear hF a; intro a hF
  refine wl hF rfl rfl rfl (r_extract (hF.ev rfl) rfl) ?_; clear hF a; intro a hF
  refine wl_mvs (A := [_, _, _]) hF rfl ?_; clear hF a; intro a hF
  refine wl_nil (hK2 _ _ ?_)
  refine ws fun K3 hK3 => ?_
  refine wl_mvs (A := [_, _]) hF rfl ?_; clear hF a; intro a hF
  refine wl_nil (hK3 _ _ ?_)
  refine wp_ret ?_
  try simp only [Exit.then, Exit.inBlock, ↓reduceIte]
  exact ret1 rfl hF rfl ⟨rfl, hS.old⟩

set_option maxHeartbeats 4000000 in
set_option maxRecDepth 20000 in
theorem implGenOf_c {W : World} {h : Int} (h1 : int64 h) : Calls Tryz.prog 180 #[vi h] W (Ret fun v w' => v = vi (genOf h) ∧ Below W.heap.size W w') := by
  refine calls_fr Tryz.func180 rfl Tryz.ntmps180 rfl ?_
  intro a hF
  have hS := Sep.refl W
  refine ws fun K1 hK1 => ?_
  refine wl_mvs (A := [_]) hF rfl ?_; clear hF a; intro a hF
  refine wl_nil (hK1 _ _ ?_)
  refine ws fun K2 hK2 => ?_
  refine wl_mvs (A := [_]) hF rfl ?_; clear hF a; intro a hF
  refine wl_call hF rfl rfl rfl (r_call1 en148 (hF.ev rfl)) (parts_c h1) ?_; clear hF a; rintro v w1 a ⟨rfl, hB_⟩ hF; replace hS := hS.ext hB_; clear hB_
  refine wl_mvs (A := [_]) hF rfl ?_; clear hF a; intro a hF
  refine wl hF rfl rfl rfl (r_extract (hF.ev rfl) rfl) ?_; clear hF a; intro a hF
  refine wl hF rfl rfl rfl (r_extract (hF.ev rfl) rfl) ?_; clear hF a; intro a hF
  refine wl hF rfl rfl rfl (r_extract (hF.ev rfl) rfl) ?_; clear hF a; intro a hF
  refine wl_mvs (A := [_, _, _]) hF rfl ?_; clear hF a; intro a hF
  refine wl_nil (hK2 _ _ ?_)
  refine ws fun K3 hK3 => ?_
  refine wl_mvs (A := [_, _]) hF rfl ?_; clear hF a; intro a hF
  refine wl_nil (hK3 _ _ ?_)
  refine wp_ret ?_
  try simp only [Exit.then, Exit.inBlock, ↓reduceIte]
  exact ret1 rfl hF rfl ⟨rfl, hS.old⟩

set_option maxHeartbeats 4000000 in
set_option maxRecDepth 20000 in
theorem implIsMarked_c {W : World} {h : Int} (h1 : int64 h) : Calls Tryz.prog 102 #[vi h] W (Ret fun v w' => v = .bool (isMarked h) ∧ Below W.heap.size W w') := by
  refine calls_fr Tryz.func102 rfl Tryz.ntmps102 rfl ?_
  intro a hF
  have hS := Sep.refl W
  refine ws fun K1 hK1 => ?_
  refine wl_mvs (A := [_]) hF rfl ?_; clear hF a; intro a hF
  refine wl_nil (hK1 _ _ ?_)
  refine ws fun K2 hK2 => ?_
  refine wl_mvs (A := [_]) hF rfl ?_; clear hF a; intro a hF
  refine wl hF rfl rfl rfl (r_eql (hF.ev rfl) ec) ?_; clear hF a; intro a hF
  refine wl_mvs (A := [_]) hF rfl ?_; clear hF a; intro a hF
  apply wl_or (A := [_, _, _, _, _, _, _, _]) (pk := 13) hF hS (tc := 5) rfl
  ·
    intro hg5 a hF; try simp only [zb1, zb2, zb3, zb4, zb5, zb6, zb7, zb8] at hg5
    refine wl_mvs (A := [_]) hF rfl ?_; clear hF a; intro a hF
    refine wl_take hF rfl rfl rfl rfl ?_
    refine wl_call hF rfl rfl rfl (r_call1 en146 (hF.ev rfl)) (implIsHandle_c h1) ?_; clear hF a; rintro v w1 a ⟨rfl, hB_⟩ hF; replace hS := hS.ext hB_; clear hB_
    refine wl_mvs (A := [_]) hF rfl ?_; clear hF a; intro a hF
    apply wl_and (A := [_, _, _, _]) (pk := 12) hF hS (tc := 8) rfl
    ·
      intro hg8 a hF; try simp only [zb1, zb2, zb3, zb4, zb5, zb6, zb7, zb8] at hg8
      refine wl_mvs (A := [_]) hF rfl ?_; clear hF a; intro a hF
      refine wl_take hF rfl rfl rfl rfl ?_
      refine wl hF rfl rfl rfl (r_rem (by first | decide | omega) (hF.ev rfl) ec) ?_; clear hF a; intro a hF
      refine wl_take hF rfl rfl rfl rfl ?_
      refine wl hF rfl rfl rfl (r_eql (hF.ev rfl) ec) ?_; clear hF a; intro a hF
      refine wl_take hF rfl rfl rfl rfl ?_
      refine wl hF rfl rfl rfl (r_pick_t (hF.ev rfl) (hF.ev rfl)) ?_; clear hF a; intro a hF
      exact wl_nil ⟨rfl, (Fr.pre (A := [_, _, _, _]) hF rfl).keep hF (t := 12) rfl, hS⟩
    ·
      intro hg8 a hF; try simp only [zb1, zb2, zb3, zb4, zb5, zb6, zb7, zb8] at hg8
      refine wl_mvs (A := [_, _, _]) hF rfl ?_; clear hF a; intro a hF
      refine wl_take hF rfl rfl rfl rfl ?_
      refine wl hF rfl rfl rfl (r_pick_f (hF.ev rfl) ec) ?_; clear hF a; intro a hF
      exact wl_nil ⟨rfl, (Fr.pre (A := [_, _, _, _]) hF rfl).keep hF (t := 12) rfl, hS⟩
    intro a w2 hF hS
    refine wl hF rfl rfl rfl (r_pick_f (hF.ev rfl) (hF.ev rfl)) ?_; clear hF a; intro a hF
    exact wl_nil ⟨rfl, (Fr.pre (A := [_, _, _, _, _]) hF rfl).keep hF (t := 13) rfl, hS⟩
  ·
    intro hg5 a hF; try simp only [zb1, zb2, zb3, zb4, zb5, zb6, zb7, zb8] at hg5
    refine wl_mvs (A := [_, _, _, _, _, _, _]) hF rfl ?_; clear hF a; intro a hF
    refine wl hF rfl rfl rfl (r_pick_t (hF.ev rfl) ec) ?_; clear hF a; intro a hF
    exact wl_nil ⟨rfl, (Fr.pre (A := [_, _, _, _, _, _, _, _]) hF rfl).keep hF (t := 13) rfl, hS⟩
  clear hF a hS; intro a w3 hF hS
  refine wl_mvs (A := [_]) hF rfl ?_; clear hF a; intro a hF
  refine wl_nil (hK2 _ _ ?_)
  refine wp_ret ?_
  try simp only [Exit.then, Exit.inBlock, ↓reduceIte]
  refine ret1 rfl hF rfl ⟨congrArg Value.bool ?_, hS.old⟩
  by_cases h0 : 0 ≤ h
  · rw [rem_pos _ h0]; rfl
  · have e : isHandle h = false := by rw [Bool.eq_false_iff]; intro e; rw [isHandle_iff] at e; omega
    unfold isMarked; rw [e, Bool.false_and, Bool.false_and]

set_option maxHeartbeats 4000000 in
set_option maxRecDepth 20000 in
theorem implUnmarked_c {W : World} {h : Int} (h1 : int64 h) : Calls Tryz.prog 95 #[vi h] W (Ret fun v w' => v = vi (unmarked h) ∧ Below W.heap.size W w') := by
  refine calls_fr Tryz.func95 rfl Tryz.ntmps95 rfl ?_
  intro a hF
  have hS := Sep.refl W
  refine ws fun K1 hK1 => ?_
  refine wl_mvs (A := [_]) hF rfl ?_; clear hF a; intro a hF
  refine wl_nil (hK1 _ _ ?_)
  refine wp_seq_k fun K2 hK2 => ?_
  refine ws fun K3 hK3 => ?_
  refine wl_mvs (A := [_]) hF rfl ?_; clear hF a; intro a hF
  refine wl_call hF rfl rfl rfl (r_call1 en102 (hF.ev rfl)) (implIsMarked_c h1) ?_; clear hF a; rintro v w1 a ⟨rfl, hB_⟩ hF; replace hS := hS.ext hB_; clear hB_
  refine wl_nil (hK3 _ _ ?_)
  refine wc_fx (t := 4) hF rfl ?_ ?_ <;> clear hF <;> intro c4 hF <;> try simp only [zb1, zb2, zb3, zb4, zb5, zb6, zb7, zb8] at c4
  ·
    refine ws fun K4 hK4 => ?_
    refine wl_mvs (A := [_]) hF rfl ?_; clear hF a; intro a hF
    refine wl hF rfl rfl rfl (r_sub (hF.ev rfl) ec) ?_; clear hF a; intro a hF
    refine wl_mvs (A := [_]) hF rfl ?_; clear hF a; intro a hF
    refine wl_nil (hK4 _ _ ?_)
    refine wp_ret ?_
    try simp only [Exit.then, Exit.inBlock, ↓reduceIte]
    refine ret1 rfl hF rfl ⟨?_, hS.old⟩
    unfold unmarked; rw [c4]
    first | rfl | (rw [if_pos rfl, unmark_wrap c4 h1])
  refine wp_skip ?_
  refine hK2 _ _ ?_
  refine ws fun K5 hK5 => ?_
  refine wl_mvs (A := [_, _]) hF rfl ?_; clear hF a; intro a hF
  refine wl_nil (hK5 _ _ ?_)
  refine wp_ret ?_
  try simp only [Exit.then, Exit.inBlock, ↓reduceIte]
  refine ret1 rfl hF rfl ⟨?_, hS.old⟩
  unfold unmarked; rw [c4]
  first | rfl | (rw [if_pos rfl, unmark_wrap c4 h1])

end Go.Proofs.YtifhfodphoeeoaaGreat.Wk
