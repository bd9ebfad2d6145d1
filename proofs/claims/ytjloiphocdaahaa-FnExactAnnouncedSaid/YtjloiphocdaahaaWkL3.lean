/- Walks: the laws on ListOf, StampsOf, VisibleAt, IsOrdered, Announced, Hazards. -/
import Derived.Test.YtjloiphocdaahaaChecked
import Derived.Test.YtjloiphocdaahaaWkLv
import Derived.Test.YtjloiphocdaahaaWkMs
import Derived.Test.YtjloiphocdaahaaFactsB
namespace Go.Proofs.Ytjloiphocdaahaa.Wk
open Go Go.RowKit Sl
set_option linter.unusedVariables false
set_option linter.unusedSimpArgs false
set_option maxRecDepth 20000

theorem ann_len {s : State} : (announced s).length ≤ s.cells.length := by
  unfold announced nz
  split
  · refine Nat.le_trans (List.length_filter_le _ _) ?_; simp; omega
  · simp
theorem haz_len {s : State} : (hazards s).length ≤ s.cells.length := by
  unfold hazards nz
  split
  · refine Nat.le_trans (List.length_filter_le _ _) ?_; simp; omega
  · simp

set_option maxHeartbeats 4000000 in
set_option maxRecDepth 20000 in
theorem law_FnExactVisibleAt {W : World} {s : Sl.State} {cs : List Value} (hm : stateEK.K W s cs) (hw : s.wf) {p st : Int} (hp : int64 p) (hf : int64 st) : Calls Try.prog 5 #[.agg cs.toArray, vi p, vi st] W (Ret fun v w' => v = .bool true ∧ Below W.heap.size W w') := by
  refine calls_fr Try.func5 rfl Try.ntmps5 rfl ?_
  intro a hF
  have hS := Sep.refl W
  obtain ⟨v0, v1, v2, rfl, r0, r1, r2⟩ := hm
  have hm : stateEK.K W s (s.encv v0 v1 v2) := ⟨_, _, _, rfl, r0, r1, r2⟩
  refine ws fun K1 hK1 => ?_
  refine wl_box (cs := [_, _, _, _, _, _, _, _, _, _, _, _, _]) hF hS rfl (hF.ev rfl) rfl ?_; clear hF a; intro g1 w1 a hS_ hB_ hF; replace hS := hS_; clear hS_ hB_
  refine wl_mvs (A := [_]) hF rfl ?_; clear hF a; intro a hF
  refine wl_nil (hK1 _ _ ?_)
  refine ws fun K2 hK2 => ?_
  refine wl_mvs (A := [_]) hF rfl ?_; clear hF a; intro a hF
  refine wl_nil (hK2 _ _ ?_)
  refine ws fun K3 hK3 => ?_
  refine wl hF rfl rfl rfl (r_loadn ag27 (hF.ev rfl) (hS.box_rd (i := 0) rfl) sz27) ?_; clear hF a; intro a hF
  refine wl_mvs (A := [_]) hF rfl ?_; clear hF a; intro a hF
  refine wl_call hF rfl rfl rfl (r_call2 en26 (hF.ev rfl) (hF.ev rfl)) (szState_c (hS.k hm) (by omega) (by omega)) ?_; clear hF a; rintro v w2 a ⟨⟨r15, rfl, e1_15, e2_15, e3_15⟩, hB_⟩ hF; replace hS := hS.ext hB_; clear hB_
  refine wl_mvs (A := [_]) hF rfl ?_; clear hF a; intro a hF
  refine wl_nil (hK3 _ _ ?_)
  refine wp_seq_k fun K4 hK4 => ?_
  refine ws fun K5 hK5 => ?_
  refine wl_mvs (A := [_]) hF rfl ?_; clear hF a; intro a hF
  refine wl hF rfl rfl rfl (r_lss (hF.ev rfl) ec) ?_; clear hF a; intro a hF
  refine wl_nil (hK5 _ _ ?_)
  first | refine wc_dec (hF.ev rfl) (fun c17 => ?_) (fun c17 => ?_) | refine wc_ndec (hF.ev rfl) (fun c17 => ?_) (fun c17 => ?_) | refine wc_b (hF.ev rfl) (fun c17 => ?_) (fun c17 => ?_)
  ·
    refine ws fun K6 hK6 => ?_
    refine wl_mvs (A := [_]) hF rfl ?_; clear hF a; intro a hF
    refine wl_nil (hK6 _ _ ?_)
    refine wp_ret ?_
    try simp only [Exit.then, Exit.inBlock, ↓reduceIte]
    exact ret1 rfl hF rfl ⟨rfl, hS.old⟩
  refine wp_skip ?_
  refine hK4 _ _ ?_
  refine ws fun K7 hK7 => ?_
  refine wl hF rfl rfl rfl (r_loadn ag27 (hF.ev rfl) (hS.box_rd (i := 0) rfl) sz27) ?_; clear hF a; intro a hF
  refine wl_mk hF hS rfl rfl rfl (r_call1 en28 (hF.ev rfl)) (toState_c (hS.k hm) (by omega)) ?_; clear hF a; rintro vs20 w3 a hS_ hF; replace hS := hS_; clear hS_; dsimp only [List.cons_append, List.nil_append] at hS
  refine wl_mvs (A := [_, _]) hF rfl ?_; clear hF a; intro a hF
  refine wl_call hF rfl rfl rfl (r_call3 en27 (hF.ev rfl) (hF.ev rfl) (hF.ev rfl)) (specVisibleAt_c (hS.part_k (i := 0) rfl) hw (by omega) hp hf) ?_; clear hF a; rintro v w4 a ⟨rfl, hB_⟩ hF; replace hS := hS.ext hB_; clear hB_
  refine wl_mvs (A := [_]) hF rfl ?_; clear hF a; intro a hF
  refine wl hF rfl rfl rfl (r_extract (hF.ev rfl) rfl) ?_; clear hF a; intro a hF
  refine wl hF rfl rfl rfl (r_extract (hF.ev rfl) rfl) ?_; clear hF a; intro a hF
  refine wl_mvs (A := [_, _]) hF rfl ?_; clear hF a; intro a hF
  refine wl_nil (hK7 _ _ ?_)
  refine ws fun K8 hK8 => ?_
  refine wl hF rfl rfl rfl (r_loadn ag27 (hF.ev rfl) (hS.box_rd (i := 1) rfl) sz27) ?_; clear hF a; intro a hF
  refine wl_mk hF hS rfl rfl rfl (r_call1 en28 (hF.ev rfl)) (toState_c (hS.k hm) (by omega)) ?_; clear hF a; rintro vs27 w5 a hS_ hF; replace hS := hS_; clear hS_; dsimp only [List.cons_append, List.nil_append] at hS
  refine wl_alloc hF hS rfl zr37 ?_; clear hF a; intro g2 w6 a hS_ hB_ hF; replace hS := hS_; clear hS_ hB_
  refine wl_storew hF hS (i := 0) rfl (hF.ev rfl) (hF.ev rfl) sz37 rfl rfl ?_; intro w7 hS_; replace hS := hS_; clear hS_; dsimp only [List.set, Nat.reduceAdd] at hS
  refine wl_nil (hK8 _ _ ?_)
  refine ws fun K9 hK9 => ?_
  refine wl hF rfl rfl rfl (r_loadn ag37 (hF.ev rfl) (hS.box_rd (i := 0) rfl) sz37) ?_; clear hF a; intro a hF
  refine wl_mvs (A := [_, _]) hF rfl ?_; clear hF a; intro a hF
  refine wl_call hF rfl rfl rfl (r_call3 en29 (hF.ev rfl) (hF.ev rfl) (hF.ev rfl)) (implVisibleAt_c (hS.part_k (i := 1) rfl) hw (by omega) hp hf) ?_; clear hF a; rintro v w8 a ⟨rfl, hB_⟩ hF; replace hS := hS.ext hB_; clear hB_
  refine wl_mvs (A := [_]) hF rfl ?_; clear hF a; intro a hF
  refine wl hF rfl rfl rfl (r_extract (hF.ev rfl) rfl) ?_; clear hF a; intro a hF
  refine wl hF rfl rfl rfl (r_extract (hF.ev rfl) rfl) ?_; clear hF a; intro a hF
  refine wl_mvs (A := [_, _]) hF rfl ?_; clear hF a; intro a hF
  refine wl_nil (hK9 _ _ ?_)
  refine wp_seq_k fun K10 hK10 => ?_
  refine ws fun K11 hK11 => ?_
  refine wl_mvs (A := [_, _]) hF rfl ?_; clear hF a; intro a hF
  refine wl hF rfl rfl rfl (r_neq (hF.ev rfl) (hF.ev rfl)) ?_; clear hF a; intro a hF
  refine wl_mvs (A := [_]) hF rfl ?_; clear hF a; intro a hF
  revert hF; intro hF0; refine bsplit (t := 38) hF0 rfl (fun b38 hF => ?_) (fun b38 hF => ?_)
  · exfalso; clear hF hF0; try simp only [decide_eq_true_eq, decide_eq_false_iff_not, Bool.not_eq_true', Bool.not_eq_false'] at b38
    first | omega | exact (b38 rfl).elim | (simp_all; done)
  clear hF0
  refine wl_mvs (A := [_, _]) hF rfl ?_; clear hF a; intro a hF
  refine wl_take hF rfl rfl rfl rfl ?_
  refine wl hF rfl rfl rfl (r_neqb bl4 (hF.ev rfl) (hF.ev rfl)) ?_; clear hF a; intro a hF
  refine wl hF rfl rfl rfl (r_pick_f (hF.ev rfl) (hF.ev rfl)) ?_; clear hF a; intro a hF
  refine wl_nil (hK11 _ _ ?_)
  first | refine wc_dec (hF.ev rfl) (fun c42 => ?_) (fun c42 => ?_) | refine wc_ndec (hF.ev rfl) (fun c42 => ?_) (fun c42 => ?_) | refine wc_b (hF.ev rfl) (fun c42 => ?_) (fun c42 => ?_)
  · exfalso; first | omega | exact (c42 rfl).elim | (simp_all; done)
  refine wp_skip ?_
  refine hK10 _ _ ?_
  refine wp_seq_k fun K12 hK12 => ?_
  refine wp_seq_k fun K13 hK13 => ?_
  refine wp_region_todo (is := [0, 1, 2, 3, 4]) [] [] (by kernel_rfl) hF hS ⟨trivial, by decide, by decide, by decide⟩ (by kernel_rfl) ?_; clear hF; intro hl_ wd hSd
  refine todo_quiet hl_ (by kernel_rfl) rfl rfl rfl rfl rfl (fun a w_ hF hB_ => r_loadn ag37 (hF.ev rfl) ((hSd.ext hB_).box_rd (i := 0) rfl) sz37) ?_
  refine todo_quiet hl_ (by kernel_rfl) rfl rfl rfl rfl rfl (fun a w_ hF hB_ => r_loadn ag27 (hF.ev rfl) ((hSd.ext hB_).box_rd (i := 3) rfl) sz27) ?_
  refine todo_mk hl_ rfl (by kernel_rfl) rfl rfl rfl rfl rfl (fun a w_ hF => r_call1 en28 (hF.ev rfl)) (fun w_ hS => toState_c (hS.k hm) (by omega)) ?_; rintro vs45
  refine todo_rd hl_ rfl (by kernel_rfl) rfl rfl rfl rfl rfl (fun a w_ hF => r_call2 en30 (hF.ev rfl) (hF.ev rfl)) (fun w_ hS => eqState_same (hS.part_k (i := 2) rfl) (hS.part_k (i := 0) rfl)) ?_
  refine todo_pure hl_ (by kernel_rfl) rfl rfl rfl rfl rfl (fun a w_ hF => r_not (hF.ev rfl)) ?_
  refine todo_fin hl_ rfl (by kernel_rfl) (tl := []) rfl ?_; clear hS a; intro a w9 hF hA_
  have hS := hA_.sep; clear hA_
  clear hl_; try clear hSd; try clear wd
  try dsimp only [List.cons_append, List.nil_append, List.set] at hS
  refine wl_nil ⟨rfl, ?_⟩
  refine hK13 _ _ ?_
  refine wc_false (hF.ev rfl) ?_
  refine wp_skip ?_
  refine hK12 _ _ ?_
  refine ws fun K14 hK14 => ?_
  refine wl_mvs (A := [_]) hF rfl ?_; clear hF a; intro a hF
  refine wl_nil (hK14 _ _ ?_)
  refine wp_ret ?_
  try simp only [Exit.then, Exit.inBlock, ↓reduceIte]
  exact ret1 rfl hF rfl ⟨rfl, hS.old⟩

set_option maxHeartbeats 4000000 in
set_option maxRecDepth 20000 in
theorem law_FnExactIsOrdered {W : World} {s : Sl.State} {cs : List Value} (hm : stateEK.K W s cs) (hw : s.wf) {p : Int} (hp : int64 p) : Calls Try.prog 6 #[.agg cs.toArray, vi p] W (Ret fun v w' => v = .bool true ∧ Below W.heap.size W w') := by
  refine calls_fr Try.func6 rfl Try.ntmps6 rfl ?_
  intro a hF
  have hS := Sep.refl W
  obtain ⟨v0, v1, v2, rfl, r0, r1, r2⟩ := hm
  have hm : stateEK.K W s (s.encv v0 v1 v2) := ⟨_, _, _, rfl, r0, r1, r2⟩
  refine ws fun K1 hK1 => ?_
  refine wl_box (cs := [_, _, _, _, _, _, _, _, _, _, _, _, _]) hF hS rfl (hF.ev rfl) rfl ?_; clear hF a; intro g1 w1 a hS_ hB_ hF; replace hS := hS_; clear hS_ hB_
  refine wl_mvs (A := [_]) hF rfl ?_; clear hF a; intro a hF
  refine wl_nil (hK1 _ _ ?_)
  refine ws fun K2 hK2 => ?_
  refine wl_mvs (A := [_]) hF rfl ?_; clear hF a; intro a hF
  refine wl_nil (hK2 _ _ ?_)
  refine ws fun K3 hK3 => ?_
  refine wl hF rfl rfl rfl (r_loadn ag27 (hF.ev rfl) (hS.box_rd (i := 0) rfl) sz27) ?_; clear hF a; intro a hF
  refine wl_mvs (A := [_]) hF rfl ?_; clear hF a; intro a hF
  refine wl_call hF rfl rfl rfl (r_call2 en26 (hF.ev rfl) (hF.ev rfl)) (szState_c (hS.k hm) (by omega) (by omega)) ?_; clear hF a; rintro v w2 a ⟨⟨r11, rfl, e1_11, e2_11, e3_11⟩, hB_⟩ hF; replace hS := hS.ext hB_; clear hB_
  refine wl_mvs (A := [_]) hF rfl ?_; clear hF a; intro a hF
  refine wl_nil (hK3 _ _ ?_)
  refine wp_seq_k fun K4 hK4 => ?_
  refine ws fun K5 hK5 => ?_
  refine wl_mvs (A := [_]) hF rfl ?_; clear hF a; intro a hF
  refine wl hF rfl rfl rfl (r_lss (hF.ev rfl) ec) ?_; clear hF a; intro a hF
  refine wl_nil (hK5 _ _ ?_)
  first | refine wc_dec (hF.ev rfl) (fun c13 => ?_) (fun c13 => ?_) | refine wc_ndec (hF.ev rfl) (fun c13 => ?_) (fun c13 => ?_) | refine wc_b (hF.ev rfl) (fun c13 => ?_) (fun c13 => ?_)
  ·
    refine ws fun K6 hK6 => ?_
    refine wl_mvs (A := [_]) hF rfl ?_; clear hF a; intro a hF
    refine wl_nil (hK6 _ _ ?_)
    refine wp_ret ?_
    try simp only [Exit.then, Exit.inBlock, ↓reduceIte]
    exact ret1 rfl hF rfl ⟨rfl, hS.old⟩
  refine wp_skip ?_
  refine hK4 _ _ ?_
  refine ws fun K7 hK7 => ?_
  refine wl hF rfl rfl rfl (r_loadn ag27 (hF.ev rfl) (hS.box_rd (i := 0) rfl) sz27) ?_; clear hF a; intro a hF
  refine wl_mk hF hS rfl rfl rfl (r_call1 en28 (hF.ev rfl)) (toState_c (hS.k hm) (by omega)) ?_; clear hF a; rintro vs15 w3 a hS_ hF; replace hS := hS_; clear hS_; dsimp only [List.cons_append, List.nil_append] at hS
  refine wl_mvs (A := [_]) hF rfl ?_; clear hF a; intro a hF
  refine wl_call hF rfl rfl rfl (r_call2 en31 (hF.ev rfl) (hF.ev rfl)) (specIsOrdered_c (hS.part_k (i := 0) rfl) hw (by omega) hp) ?_; clear hF a; rintro v w4 a ⟨rfl, hB_⟩ hF; replace hS := hS.ext hB_; clear hB_
  refine wl_mvs (A := [_]) hF rfl ?_; clear hF a; intro a hF
  refine wl_nil (hK7 _ _ ?_)
  refine ws fun K8 hK8 => ?_
  refine wl hF rfl rfl rfl (r_loadn ag27 (hF.ev rfl) (hS.box_rd (i := 1) rfl) sz27) ?_; clear hF a; intro a hF
  refine wl_mk hF hS rfl rfl rfl (r_call1 en28 (hF.ev rfl)) (toState_c (hS.k hm) (by omega)) ?_; clear hF a; rintro vs19 w5 a hS_ hF; replace hS := hS_; clear hS_; dsimp only [List.cons_append, List.nil_append] at hS
  refine wl_alloc hF hS rfl zr37 ?_; clear hF a; intro g2 w6 a hS_ hB_ hF; replace hS := hS_; clear hS_ hB_
  refine wl_storew hF hS (i := 0) rfl (hF.ev rfl) (hF.ev rfl) sz37 rfl rfl ?_; intro w7 hS_; replace hS := hS_; clear hS_; dsimp only [List.set, Nat.reduceAdd] at hS
  refine wl_nil (hK8 _ _ ?_)
  refine ws fun K9 hK9 => ?_
  refine wl hF rfl rfl rfl (r_loadn ag37 (hF.ev rfl) (hS.box_rd (i := 0) rfl) sz37) ?_; clear hF a; intro a hF
  refine wl_mvs (A := [_]) hF rfl ?_; clear hF a; intro a hF
  refine wl_call hF rfl rfl rfl (r_call2 en32 (hF.ev rfl) (hF.ev rfl)) (implIsOrdered_c (hS.part_k (i := 1) rfl) hw (by omega) hp) ?_; clear hF a; rintro v w8 a ⟨rfl, hB_⟩ hF; replace hS := hS.ext hB_; clear hB_
  refine wl_mvs (A := [_]) hF rfl ?_; clear hF a; intro a hF
  refine wl_nil (hK9 _ _ ?_)
  refine wp_seq_k fun K10 hK10 => ?_
  refine ws fun K11 hK11 => ?_
  refine wl_mvs (A := [_, _]) hF rfl ?_; clear hF a; intro a hF
  refine wl hF rfl rfl rfl (r_neqb bl4 (hF.ev rfl) (hF.ev rfl)) ?_; clear hF a; intro a hF
  refine wl_nil (hK11 _ _ ?_)
  first | refine wc_dec (hF.ev rfl) (fun c25 => ?_) (fun c25 => ?_) | refine wc_ndec (hF.ev rfl) (fun c25 => ?_) (fun c25 => ?_) | refine wc_b (hF.ev rfl) (fun c25 => ?_) (fun c25 => ?_)
  · exfalso; first | omega | exact (c25 rfl).elim | (simp_all; done)
  refine wp_skip ?_
  refine hK10 _ _ ?_
  refine wp_seq_k fun K12 hK12 => ?_
  refine wp_seq_k fun K13 hK13 => ?_
  refine wp_region_todo (is := [0, 1, 2, 3, 4]) [] [] (by kernel_rfl) hF hS ⟨trivial, by decide, by decide, by decide⟩ (by kernel_rfl) ?_; clear hF; intro hl_ wd hSd
  refine todo_quiet hl_ (by kernel_rfl) rfl rfl rfl rfl rfl (fun a w_ hF hB_ => r_loadn ag37 (hF.ev rfl) ((hSd.ext hB_).box_rd (i := 0) rfl) sz37) ?_
  refine todo_quiet hl_ (by kernel_rfl) rfl rfl rfl rfl rfl (fun a w_ hF hB_ => r_loadn ag27 (hF.ev rfl) ((hSd.ext hB_).box_rd (i := 3) rfl) sz27) ?_
  refine todo_mk hl_ rfl (by kernel_rfl) rfl rfl rfl rfl rfl (fun a w_ hF => r_call1 en28 (hF.ev rfl)) (fun w_ hS => toState_c (hS.k hm) (by omega)) ?_; rintro vs28
  refine todo_rd hl_ rfl (by kernel_rfl) rfl rfl rfl rfl rfl (fun a w_ hF => r_call2 en30 (hF.ev rfl) (hF.ev rfl)) (fun w_ hS => eqState_same (hS.part_k (i := 2) rfl) (hS.part_k (i := 0) rfl)) ?_
  refine todo_pure hl_ (by kernel_rfl) rfl rfl rfl rfl rfl (fun a w_ hF => r_not (hF.ev rfl)) ?_
  refine todo_fin hl_ rfl (by kernel_rfl) (tl := []) rfl ?_; clear hS a; intro a w9 hF hA_
  have hS := hA_.sep; clear hA_
  clear hl_; try clear hSd; try clear wd
  try dsimp only [List.cons_append, List.nil_append, List.set] at hS
  refine wl_nil ⟨rfl, ?_⟩
  refine hK13 _ _ ?_
  refine wc_false (hF.ev rfl) ?_
  refine wp_skip ?_
  refine hK12 _ _ ?_
  refine ws fun K14 hK14 => ?_
  refine wl_mvs (A := [_]) hF rfl ?_; clear hF a; intro a hF
  refine wl_nil (hK14 _ _ ?_)
  refine wp_ret ?_
  try simp only [Exit.then, Exit.inBlock, ↓reduceIte]
  exact ret1 rfl hF rfl ⟨rfl, hS.old⟩

set_option maxHeartbeats 4000000 in
set_option maxRecDepth 20000 in
theorem law_FnExactListOf {W : World} {s : Sl.State} {cs : List Value} (hm : stateEK.K W s cs) (hw : s.wf) {p : Int} (hp : int64 p) : Calls Try.prog 9 #[.agg cs.toArray, vi p] W (Ret fun v w' => v = .bool true ∧ Below W.heap.size W w') := by
  refine calls_fr Try.func9 rfl Try.ntmps9 rfl ?_
  intro a hF
  have hS := Sep.refl W
  obtain ⟨v0, v1, v2, rfl, r0, r1, r2⟩ := hm
  have hm : stateEK.K W s (s.encv v0 v1 v2) := ⟨_, _, _, rfl, r0, r1, r2⟩
  have hcs := state_cnt s
  have hll := listOf_len (s := s) (k := p)
  refine ws fun K1 hK1 => ?_
  refine wl_box (cs := [_, _, _, _, _, _, _, _, _, _, _, _, _]) hF hS rfl (hF.ev rfl) rfl ?_; clear hF a; intro g1 w1 a hS_ hB_ hF; replace hS := hS_; clear hS_ hB_
  refine wl_mvs (A := [_]) hF rfl ?_; clear hF a; intro a hF
  refine wl_nil (hK1 _ _ ?_)
  refine ws fun K2 hK2 => ?_
  refine wl_mvs (A := [_]) hF rfl ?_; clear hF a; intro a hF
  refine wl_nil (hK2 _ _ ?_)
  refine ws fun K3 hK3 => ?_
  refine wl hF rfl rfl rfl (r_loadn ag27 (hF.ev rfl) (hS.box_rd (i := 0) rfl) sz27) ?_; clear hF a; intro a hF
  refine wl_mvs (A := [_]) hF rfl ?_; clear hF a; intro a hF
  refine wl_call hF rfl rfl rfl (r_call2 en26 (hF.ev rfl) (hF.ev rfl)) (szState_c (hS.k hm) (by omega) (by omega)) ?_; clear hF a; rintro v w2 a ⟨⟨r15, rfl, e1_15, e2_15, e3_15⟩, hB_⟩ hF; replace hS := hS.ext hB_; clear hB_
  refine wl_mvs (A := [_]) hF rfl ?_; clear hF a; intro a hF
  refine wl_nil (hK3 _ _ ?_)
  refine wp_seq_k fun K4 hK4 => ?_
  refine ws fun K5 hK5 => ?_
  refine wl_mvs (A := [_]) hF rfl ?_; clear hF a; intro a hF
  refine wl hF rfl rfl rfl (r_lss (hF.ev rfl) ec) ?_; clear hF a; intro a hF
  refine wl_nil (hK5 _ _ ?_)
  first | refine wc_dec (hF.ev rfl) (fun c17 => ?_) (fun c17 => ?_) | refine wc_ndec (hF.ev rfl) (fun c17 => ?_) (fun c17 => ?_) | refine wc_b (hF.ev rfl) (fun c17 => ?_) (fun c17 => ?_)
  ·
    refine ws fun K6 hK6 => ?_
    refine wl_mvs (A := [_]) hF rfl ?_; clear hF a; intro a hF
    refine wl_nil (hK6 _ _ ?_)
    refine wp_ret ?_
    try simp only [Exit.then, Exit.inBlock, ↓reduceIte]
    exact ret1 rfl hF rfl ⟨rfl, hS.old⟩
  refine wp_skip ?_
  refine hK4 _ _ ?_
  refine ws fun K7 hK7 => ?_
  refine wl hF rfl rfl rfl (r_loadn ag27 (hF.ev rfl) (hS.box_rd (i := 0) rfl) sz27) ?_; clear hF a; intro a hF
  refine wl_mk hF hS rfl rfl rfl (r_call1 en28 (hF.ev rfl)) (toState_c (hS.k hm) (by omega)) ?_; clear hF a; rintro vs19 w3 a hS_ hF; replace hS := hS_; clear hS_; dsimp only [List.cons_append, List.nil_append] at hS
  refine wl_mvs (A := [_]) hF rfl ?_; clear hF a; intro a hF
  refine wl_mk hF hS rfl rfl rfl (r_call2 en41 (hF.ev rfl) (hF.ev rfl)) (specListOf_c (hS.part_k (i := 0) rfl) hw (by omega) hp) ?_; clear hF a; rintro s21 w4 a hS_ hF; replace hS := hS_; clear hS_; dsimp only [List.cons_append, List.nil_append] at hS
  refine wl_mvs (A := [_]) hF rfl ?_; clear hF a; intro a hF
  refine wl_nil (hK7 _ _ ?_)
  refine ws fun K8 hK8 => ?_
  refine wl hF rfl rfl rfl (r_loadn ag27 (hF.ev rfl) (hS.box_rd (i := 2) rfl) sz27) ?_; clear hF a; intro a hF
  refine wl_mk hF hS rfl rfl rfl (r_call1 en28 (hF.ev rfl)) (toState_c (hS.k hm) (by omega)) ?_; clear hF a; rintro vs23 w5 a hS_ hF; replace hS := hS_; clear hS_; dsimp only [List.cons_append, List.nil_append] at hS
  refine wl_alloc hF hS rfl zr37 ?_; clear hF a; intro g2 w6 a hS_ hB_ hF; replace hS := hS_; clear hS_ hB_
  refine wl_storew hF hS (i := 0) rfl (hF.ev rfl) (hF.ev rfl) sz37 rfl rfl ?_; intro w7 hS_; replace hS := hS_; clear hS_; dsimp only [List.set, Nat.reduceAdd] at hS
  refine wl_nil (hK8 _ _ ?_)
  refine ws fun K9 hK9 => ?_
  refine wl hF rfl rfl rfl (r_loadn ag37 (hF.ev rfl) (hS.box_rd (i := 0) rfl) sz37) ?_; clear hF a; intro a hF
  refine wl_mvs (A := [_]) hF rfl ?_; clear hF a; intro a hF
  refine wl_mk hF hS rfl rfl rfl (r_call2 en42 (hF.ev rfl) (hF.ev rfl)) (implListOf_c (hS.part_k (i := 1) rfl) hw (by omega) hp) ?_; clear hF a; rintro s26 w8 a hS_ hF; replace hS := hS_; clear hS_; dsimp only [List.cons_append, List.nil_append] at hS
  refine wl_mvs (A := [_]) hF rfl ?_; clear hF a; intro a hF
  refine wl_nil (hK9 _ _ ?_)
  refine wp_seq_k fun K10 hK10 => ?_
  refine ws fun K11 hK11 => ?_
  refine wl_mvs (A := [_, _]) hF rfl ?_; clear hF a; intro a hF
  refine wl_call hF rfl rfl rfl (r_call2 en35 (hF.ev rfl) (hF.ev rfl)) (eqIntS_same (hS.own_rd (i := 0) rfl) (hS.own_rd (i := 3) rfl)) ?_; clear hF a; rintro v w9 a ⟨rfl, hB_⟩ hF; replace hS := hS.ext hB_; clear hB_
  refine wl hF rfl rfl rfl (r_not (hF.ev rfl)) ?_; clear hF a; intro a hF
  refine wl_nil (hK11 _ _ ?_)
  refine wc_false (hF.ev rfl) ?_
  refine wp_skip ?_
  refine hK10 _ _ ?_
  refine wp_seq_k fun K12 hK12 => ?_
  refine wp_seq_k fun K13 hK13 => ?_
  refine wp_region_todo (is := [0, 1, 2, 3, 4]) [] [] (by kernel_rfl) hF hS ⟨trivial, by decide, by decide, by decide⟩ (by kernel_rfl) ?_; clear hF; intro hl_ wd hSd
  refine todo_quiet hl_ (by kernel_rfl) rfl rfl rfl rfl rfl (fun a w_ hF hB_ => r_loadn ag37 (hF.ev rfl) ((hSd.ext hB_).box_rd (i := 1) rfl) sz37) ?_
  refine todo_quiet hl_ (by kernel_rfl) rfl rfl rfl rfl rfl (fun a w_ hF hB_ => r_loadn ag27 (hF.ev rfl) ((hSd.ext hB_).box_rd (i := 5) rfl) sz27) ?_
  refine todo_mk hl_ rfl (by kernel_rfl) rfl rfl rfl rfl rfl (fun a w_ hF => r_call1 en28 (hF.ev rfl)) (fun w_ hS => toState_c (hS.k hm) (by omega)) ?_; rintro vs33
  refine todo_rd hl_ rfl (by kernel_rfl) rfl rfl rfl rfl rfl (fun a w_ hF => r_call2 en30 (hF.ev rfl) (hF.ev rfl)) (fun w_ hS => eqState_same (hS.part_k (i := 3) rfl) (hS.part_k (i := 0) rfl)) ?_
  refine todo_pure hl_ (by kernel_rfl) rfl rfl rfl rfl rfl (fun a w_ hF => r_not (hF.ev rfl)) ?_
  refine todo_fin hl_ rfl (by kernel_rfl) (tl := []) rfl ?_; clear hS a; intro a w10 hF hA_
  have hS := hA_.sep; clear hA_
  clear hl_; try clear hSd; try clear wd
  try dsimp only [List.cons_append, List.nil_append, List.set] at hS
  refine wl_nil ⟨rfl, ?_⟩
  refine hK13 _ _ ?_
  refine wc_false (hF.ev rfl) ?_
  refine wp_skip ?_
  refine hK12 _ _ ?_
  refine ws fun K14 hK14 => ?_
  refine wl_mvs (A := [_]) hF rfl ?_; clear hF a; intro a hF
  refine wl_nil (hK14 _ _ ?_)
  refine ws fun K15 hK15 => ?_
  refine wl hF rfl rfl rfl (r_loadn ag37 (hF.ev rfl) (hS.box_rd (i := 2) rfl) sz37) ?_; clear hF a; intro a hF
  refine wl_mvs (A := [_]) hF rfl ?_; clear hF a; intro a hF
  replace hS := hS.pull (p := 3) rfl; dsimp only [List.eraseIdx] at hS
  refine wl_call hF rfl rfl rfl (r_call2 en36 (hF.ev rfl) (hF.ev rfl)) (markState_c hS (by omega) (by omega)) ?_; clear hF a; rintro v w11 a ⟨rfl, hS_⟩ hF; replace hS := hS_; clear hS_
  refine wl_mvs (A := [_]) hF rfl ?_; clear hF a; intro a hF
  refine wl_nil (hK15 _ _ ?_)
  refine wp_seq_k fun K16 hK16 => ?_
  refine ws fun K17 hK17 => ?_
  refine wl_mvs (A := [_]) hF rfl ?_; clear hF a; intro a hF
  refine wl hF rfl rfl rfl (r_lss (hF.ev rfl) ec) ?_; clear hF a; intro a hF
  refine wl_mvs (A := [_]) hF rfl ?_; clear hF a; intro a hF
  revert hF; intro hF0; refine bsplit (t := 41) hF0 rfl (fun b41 hF => ?_) (fun b41 hF => ?_)
  · exfalso; clear hF hF0; try simp only [decide_eq_true_eq, decide_eq_false_iff_not, Bool.not_eq_true', Bool.not_eq_false'] at b41
    first | omega | exact (b41 rfl).elim | (simp_all; done)
  clear hF0
  refine wl_mvs (A := [_, _]) hF rfl ?_; clear hF a; intro a hF
  refine wl_take hF rfl rfl rfl rfl ?_
  refine wl_call hF rfl rfl rfl (r_call2 en35 (hF.ev rfl) (hF.ev rfl)) (eqIntS_same (hS.own_rd (i := 2) rfl) (hS.own_rd (i := 4) rfl)) ?_; clear hF a; rintro v w12 a ⟨rfl, hB_⟩ hF; replace hS := hS.ext hB_; clear hB_
  refine wl_take hF rfl rfl rfl rfl ?_
  refine wl hF rfl rfl rfl (r_not (hF.ev rfl)) ?_; clear hF a; intro a hF
  refine wl hF rfl rfl rfl (r_pick_f (hF.ev rfl) (hF.ev rfl)) ?_; clear hF a; intro a hF
  refine wl_nil (hK17 _ _ ?_)
  refine wc_false (hF.ev rfl) ?_
  refine wp_skip ?_
  refine hK16 _ _ ?_
  refine ws fun K18 hK18 => ?_
  refine wl_mvs (A := [_]) hF rfl ?_; clear hF a; intro a hF
  refine wl_nil (hK18 _ _ ?_)
  refine ws fun K19 hK19 => ?_
  refine wl_mvs (A := [_, _]) hF rfl ?_; clear hF a; intro a hF
  refine wl_call hF rfl rfl rfl (r_call2 en37 (hF.ev rfl) (hF.ev rfl)) (markIntS_c hS (q := 2) rfl (by omega) (by first | omega | (simp only [marks_length]; omega))) ?_; clear hF a; rintro v w13 a ⟨rfl, hS_⟩ hF; replace hS := hS_; clear hS_; dsimp only [List.set] at hS
  refine wl_mvs (A := [_]) hF rfl ?_; clear hF a; intro a hF
  refine wl_nil (hK19 _ _ ?_)
  refine ws fun K20 hK20 => ?_
  refine wl_mvs (A := [_]) hF rfl ?_; clear hF a; intro a hF
  refine wl_nil (hK20 _ _ ?_)
  refine ws fun K21 hK21 => ?_
  refine wl_mvs (A := [_, _]) hF rfl ?_; clear hF a; intro a hF
  refine wl_call hF rfl rfl rfl (r_call2 en38 (hF.ev rfl) (hF.ev rfl)) (heldIntS_c (hS.own_rd (i := 2) rfl) (by omega) (by first | omega | (simp only [marks_length]; omega))) ?_; clear hF a; rintro v w14 a ⟨rfl, hB_⟩ hF; replace hS := hS.ext hB_; clear hB_
  refine wl_mvs (A := [_]) hF rfl ?_; clear hF a; intro a hF
  refine wl_nil (hK21 _ _ ?_)
  refine wp_seq_k fun K22 hK22 => ?_
  refine ws fun K23 hK23 => ?_
  refine wl_mvs (A := [_]) hF rfl ?_; clear hF a; intro a hF
  refine wl hF rfl rfl rfl (r_lss (hF.ev rfl) ec) ?_; clear hF a; intro a hF
  refine wl_nil (hK23 _ _ ?_)
  first | refine wc_dec (hF.ev rfl) (fun c54 => ?_) (fun c54 => ?_) | refine wc_ndec (hF.ev rfl) (fun c54 => ?_) (fun c54 => ?_) | refine wc_b (hF.ev rfl) (fun c54 => ?_) (fun c54 => ?_)
  · exfalso; first | omega | exact (c54 rfl).elim | (simp_all; done)
  refine wp_skip ?_
  refine hK22 _ _ ?_
  refine wp_seq_k fun K24 hK24 => ?_
  refine ws fun K25 hK25 => ?_
  refine wl_mvs (A := [_, _]) hF rfl ?_; clear hF a; intro a hF
  refine wl hF rfl rfl rfl (r_neq (hF.ev rfl) (hF.ev rfl)) ?_; clear hF a; intro a hF
  refine wl_nil (hK25 _ _ ?_)
  first | refine wc_dec (hF.ev rfl) (fun c57 => ?_) (fun c57 => ?_) | refine wc_ndec (hF.ev rfl) (fun c57 => ?_) (fun c57 => ?_) | refine wc_b (hF.ev rfl) (fun c57 => ?_) (fun c57 => ?_)
  · exfalso; first | omega | exact (c57 rfl).elim | (simp_all; done)
  refine wp_skip ?_
  refine hK24 _ _ ?_
  refine ws fun K26 hK26 => ?_
  refine wl hF rfl rfl rfl (r_loadn ag27 (hF.ev rfl) (hS.box_rd (i := 6) rfl) sz27) ?_; clear hF a; intro a hF
  refine wl_mk hF hS rfl rfl rfl (r_call1 en28 (hF.ev rfl)) (toState_c (hS.k hm) (by omega)) ?_; clear hF a; rintro vs59 w15 a hS_ hF; replace hS := hS_; clear hS_; dsimp only [List.cons_append, List.nil_append] at hS
  refine wl_mvs (A := [_]) hF rfl ?_; clear hF a; intro a hF
  refine wl_mk hF hS rfl rfl rfl (r_call2 en42 (hF.ev rfl) (hF.ev rfl)) (implListOf_c (hS.part_k (i := 0) rfl) hw (by omega) hp) ?_; clear hF a; rintro s61 w16 a hS_ hF; replace hS := hS_; clear hS_; dsimp only [List.cons_append, List.nil_append] at hS
  refine wl_mvs (A := [_]) hF rfl ?_; clear hF a; intro a hF
  refine wl_nil (hK26 _ _ ?_)
  refine wp_seq_k fun K27 hK27 => ?_
  refine ws fun K28 hK28 => ?_
  refine wl_mvs (A := [_, _]) hF rfl ?_; clear hF a; intro a hF
  refine wl_call hF rfl rfl rfl (r_call2 en35 (hF.ev rfl) (hF.ev rfl)) (eqIntS_same (hS.own_rd (i := 0) rfl) (hS.own_rd (i := 6) rfl)) ?_; clear hF a; rintro v w17 a ⟨rfl, hB_⟩ hF; replace hS := hS.ext hB_; clear hB_
  refine wl hF rfl rfl rfl (r_not (hF.ev rfl)) ?_; clear hF a; intro a hF
  refine wl_nil (hK28 _ _ ?_)
  refine wc_false (hF.ev rfl) ?_
  refine wp_skip ?_
  refine hK27 _ _ ?_
  refine ws fun K29 hK29 => ?_
  refine wl_mvs (A := [_]) hF rfl ?_; clear hF a; intro a hF
  refine wl_nil (hK29 _ _ ?_)
  refine ws fun K30 hK30 => ?_
  refine wl_mvs (A := [_, _]) hF rfl ?_; clear hF a; intro a hF
  refine wl_call hF rfl rfl rfl (r_call2 en38 (hF.ev rfl) (hF.ev rfl)) (heldIntS_c (hS.own_rd (i := 4) rfl) (by omega) (by first | omega | (simp only [marks_length]; omega))) ?_; clear hF a; rintro v w18 a ⟨rfl, hB_⟩ hF; replace hS := hS.ext hB_; clear hB_
  refine wl_mvs (A := [_]) hF rfl ?_; clear hF a; intro a hF
  refine wl_nil (hK30 _ _ ?_)
  refine wp_seq_k fun K31 hK31 => ?_
  refine ws fun K32 hK32 => ?_
  refine wl_mvs (A := [_]) hF rfl ?_; clear hF a; intro a hF
  refine wl hF rfl rfl rfl (r_lss (hF.ev rfl) ec) ?_; clear hF a; intro a hF
  refine wl_nil (hK32 _ _ ?_)
  first | refine wc_dec (hF.ev rfl) (fun c70 => ?_) (fun c70 => ?_) | refine wc_ndec (hF.ev rfl) (fun c70 => ?_) (fun c70 => ?_) | refine wc_b (hF.ev rfl) (fun c70 => ?_) (fun c70 => ?_)
  · exfalso; first | omega | exact (c70 rfl).elim | (simp_all; done)
  refine wp_skip ?_
  refine hK31 _ _ ?_
  refine wp_seq_k fun K33 hK33 => ?_
  refine ws fun K34 hK34 => ?_
  refine wl_mvs (A := [_, _]) hF rfl ?_; clear hF a; intro a hF
  refine wl hF rfl rfl rfl (r_neq (hF.ev rfl) (hF.ev rfl)) ?_; clear hF a; intro a hF
  refine wl_nil (hK34 _ _ ?_)
  first | refine wc_dec (hF.ev rfl) (fun c73 => ?_) (fun c73 => ?_) | refine wc_ndec (hF.ev rfl) (fun c73 => ?_) (fun c73 => ?_) | refine wc_b (hF.ev rfl) (fun c73 => ?_) (fun c73 => ?_)
  · exfalso; first | omega | exact (c73 rfl).elim | (simp_all; done)
  refine wp_skip ?_
  refine hK33 _ _ ?_
  refine ws fun K35 hK35 => ?_
  refine wl_mvs (A := [_]) hF rfl ?_; clear hF a; intro a hF
  refine wl_nil (hK35 _ _ ?_)
  refine wp_ret ?_
  try simp only [Exit.then, Exit.inBlock, ↓reduceIte]
  exact ret1 rfl hF rfl ⟨rfl, hS.old⟩

set_option maxHeartbeats 4000000 in
set_option maxRecDepth 20000 in
theorem law_FnExactStampsOf {W : World} {s : Sl.State} {cs : List Value} (hm : stateEK.K W s cs) (hw : s.wf) {p : Int} (hp : int64 p) : Calls Try.prog 10 #[.agg cs.toArray, vi p] W (Ret fun v w' => v = .bool true ∧ Below W.heap.size W w') := by
  refine calls_fr Try.func10 rfl Try.ntmps10 rfl ?_
  intro a hF
  have hS := Sep.refl W
  obtain ⟨v0, v1, v2, rfl, r0, r1, r2⟩ := hm
  have hm : stateEK.K W s (s.encv v0 v1 v2) := ⟨_, _, _, rfl, r0, r1, r2⟩
  have hcs := state_cnt s
  have hll := listOf_len (s := s) (k := p)
  rw [← stampsOf_len] at hll
  refine ws fun K1 hK1 => ?_
  refine wl_box (cs := [_, _, _, _, _, _, _, _, _, _, _, _, _]) hF hS rfl (hF.ev rfl) rfl ?_; clear hF a; intro g1 w1 a hS_ hB_ hF; replace hS := hS_; clear hS_ hB_
  refine wl_mvs (A := [_]) hF rfl ?_; clear hF a; intro a hF
  refine wl_nil (hK1 _ _ ?_)
  refine ws fun K2 hK2 => ?_
  refine wl_mvs (A := [_]) hF rfl ?_; clear hF a; intro a hF
  refine wl_nil (hK2 _ _ ?_)
  refine ws fun K3 hK3 => ?_
  refine wl hF rfl rfl rfl (r_loadn ag27 (hF.ev rfl) (hS.box_rd (i := 0) rfl) sz27) ?_; clear hF a; intro a hF
  refine wl_mvs (A := [_]) hF rfl ?_; clear hF a; intro a hF
  refine wl_call hF rfl rfl rfl (r_call2 en26 (hF.ev rfl) (hF.ev rfl)) (szState_c (hS.k hm) (by omega) (by omega)) ?_; clear hF a; rintro v w2 a ⟨⟨r15, rfl, e1_15, e2_15, e3_15⟩, hB_⟩ hF; replace hS := hS.ext hB_; clear hB_
  refine wl_mvs (A := [_]) hF rfl ?_; clear hF a; intro a hF
  refine wl_nil (hK3 _ _ ?_)
  refine wp_seq_k fun K4 hK4 => ?_
  refine ws fun K5 hK5 => ?_
  refine wl_mvs (A := [_]) hF rfl ?_; clear hF a; intro a hF
  refine wl hF rfl rfl rfl (r_lss (hF.ev rfl) ec) ?_; clear hF a; intro a hF
  refine wl_nil (hK5 _ _ ?_)
  first | refine wc_dec (hF.ev rfl) (fun c17 => ?_) (fun c17 => ?_) | refine wc_ndec (hF.ev rfl) (fun c17 => ?_) (fun c17 => ?_) | refine wc_b (hF.ev rfl) (fun c17 => ?_) (fun c17 => ?_)
  ·
    refine ws fun K6 hK6 => ?_
    refine wl_mvs (A := [_]) hF rfl ?_; clear hF a; intro a hF
    refine wl_nil (hK6 _ _ ?_)
    refine wp_ret ?_
    try simp only [Exit.then, Exit.inBlock, ↓reduceIte]
    exact ret1 rfl hF rfl ⟨rfl, hS.old⟩
  refine wp_skip ?_
  refine hK4 _ _ ?_
  refine ws fun K7 hK7 => ?_
  refine wl hF rfl rfl rfl (r_loadn ag27 (hF.ev rfl) (hS.box_rd (i := 0) rfl) sz27) ?_; clear hF a; intro a hF
  refine wl_mk hF hS rfl rfl rfl (r_call1 en28 (hF.ev rfl)) (toState_c (hS.k hm) (by omega)) ?_; clear hF a; rintro vs19 w3 a hS_ hF; replace hS := hS_; clear hS_; dsimp only [List.cons_append, List.nil_append] at hS
  refine wl_mvs (A := [_]) hF rfl ?_; clear hF a; intro a hF
  refine wl_mk hF hS rfl rfl rfl (r_call2 en43 (hF.ev rfl) (hF.ev rfl)) (specStampsOf_c (hS.part_k (i := 0) rfl) hw (by omega) hp) ?_; clear hF a; rintro s21 w4 a hS_ hF; replace hS := hS_; clear hS_; dsimp only [List.cons_append, List.nil_append] at hS
  refine wl_mvs (A := [_]) hF rfl ?_; clear hF a; intro a hF
  refine wl_nil (hK7 _ _ ?_)
  refine ws fun K8 hK8 => ?_
  refine wl hF rfl rfl rfl (r_loadn ag27 (hF.ev rfl) (hS.box_rd (i := 2) rfl) sz27) ?_; clear hF a; intro a hF
  refine wl_mk hF hS rfl rfl rfl (r_call1 en28 (hF.ev rfl)) (toState_c (hS.k hm) (by omega)) ?_; clear hF a; rintro vs23 w5 a hS_ hF; replace hS := hS_; clear hS_; dsimp only [List.cons_append, List.nil_append] at hS
  refine wl_alloc hF hS rfl zr37 ?_; clear hF a; intro g2 w6 a hS_ hB_ hF; replace hS := hS_; clear hS_ hB_
  refine wl_storew hF hS (i := 0) rfl (hF.ev rfl) (hF.ev rfl) sz37 rfl rfl ?_; intro w7 hS_; replace hS := hS_; clear hS_; dsimp only [List.set, Nat.reduceAdd] at hS
  refine wl_nil (hK8 _ _ ?_)
  refine ws fun K9 hK9 => ?_
  refine wl hF rfl rfl rfl (r_loadn ag37 (hF.ev rfl) (hS.box_rd (i := 0) rfl) sz37) ?_; clear hF a; intro a hF
  refine wl_mvs (A := [_]) hF rfl ?_; clear hF a; intro a hF
  refine wl_mk hF hS rfl rfl rfl (r_call2 en44 (hF.ev rfl) (hF.ev rfl)) (implStampsOf_c (hS.part_k (i := 1) rfl) hw (by omega) hp) ?_; clear hF a; rintro s26 w8 a hS_ hF; replace hS := hS_; clear hS_; dsimp only [List.cons_append, List.nil_append] at hS
  refine wl_mvs (A := [_]) hF rfl ?_; clear hF a; intro a hF
  refine wl_nil (hK9 _ _ ?_)
  refine wp_seq_k fun K10 hK10 => ?_
  refine ws fun K11 hK11 => ?_
  refine wl_mvs (A := [_, _]) hF rfl ?_; clear hF a; intro a hF
  refine wl_call hF rfl rfl rfl (r_call2 en35 (hF.ev rfl) (hF.ev rfl)) (eqIntS_same (hS.own_rd (i := 0) rfl) (hS.own_rd (i := 3) rfl)) ?_; clear hF a; rintro v w9 a ⟨rfl, hB_⟩ hF; replace hS := hS.ext hB_; clear hB_
  refine wl hF rfl rfl rfl (r_not (hF.ev rfl)) ?_; clear hF a; intro a hF
  refine wl_nil (hK11 _ _ ?_)
  refine wc_false (hF.ev rfl) ?_
  refine wp_skip ?_
  refine hK10 _ _ ?_
  refine wp_seq_k fun K12 hK12 => ?_
  refine wp_seq_k fun K13 hK13 => ?_
  refine wp_region_todo (is := [0, 1, 2, 3, 4]) [] [] (by kernel_rfl) hF hS ⟨trivial, by decide, by decide, by decide⟩ (by kernel_rfl) ?_; clear hF; intro hl_ wd hSd
  refine todo_quiet hl_ (by kernel_rfl) rfl rfl rfl rfl rfl (fun a w_ hF hB_ => r_loadn ag37 (hF.ev rfl) ((hSd.ext hB_).box_rd (i := 1) rfl) sz37) ?_
  refine todo_quiet hl_ (by kernel_rfl) rfl rfl rfl rfl rfl (fun a w_ hF hB_ => r_loadn ag27 (hF.ev rfl) ((hSd.ext hB_).box_rd (i := 5) rfl) sz27) ?_
  refine todo_mk hl_ rfl (by kernel_rfl) rfl rfl rfl rfl rfl (fun a w_ hF => r_call1 en28 (hF.ev rfl)) (fun w_ hS => toState_c (hS.k hm) (by omega)) ?_; rintro vs33
  refine todo_rd hl_ rfl (by kernel_rfl) rfl rfl rfl rfl rfl (fun a w_ hF => r_call2 en30 (hF.ev rfl) (hF.ev rfl)) (fun w_ hS => eqState_same (hS.part_k (i := 3) rfl) (hS.part_k (i := 0) rfl)) ?_
  refine todo_pure hl_ (by kernel_rfl) rfl rfl rfl rfl rfl (fun a w_ hF => r_not (hF.ev rfl)) ?_
  refine todo_fin hl_ rfl (by kernel_rfl) (tl := []) rfl ?_; clear hS a; intro a w10 hF hA_
  have hS := hA_.sep; clear hA_
  clear hl_; try clear hSd; try clear wd
  try dsimp only [List.cons_append, List.nil_append, List.set] at hS
  refine wl_nil ⟨rfl, ?_⟩
  refine hK13 _ _ ?_
  refine wc_false (hF.ev rfl) ?_
  refine wp_skip ?_
  refine hK12 _ _ ?_
  refine ws fun K14 hK14 => ?_
  refine wl_mvs (A := [_]) hF rfl ?_; clear hF a; intro a hF
  refine wl_nil (hK14 _ _ ?_)
  refine ws fun K15 hK15 => ?_
  refine wl hF rfl rfl rfl (r_loadn ag37 (hF.ev rfl) (hS.box_rd (i := 2) rfl) sz37) ?_; clear hF a; intro a hF
  refine wl_mvs (A := [_]) hF rfl ?_; clear hF a; intro a hF
  replace hS := hS.pull (p := 3) rfl; dsimp only [List.eraseIdx] at hS
  refine wl_call hF rfl rfl rfl (r_call2 en36 (hF.ev rfl) (hF.ev rfl)) (markState_c hS (by omega) (by omega)) ?_; clear hF a; rintro v w11 a ⟨rfl, hS_⟩ hF; replace hS := hS_; clear hS_
  refine wl_mvs (A := [_]) hF rfl ?_; clear hF a; intro a hF
  refine wl_nil (hK15 _ _ ?_)
  refine wp_seq_k fun K16 hK16 => ?_
  refine ws fun K17 hK17 => ?_
  refine wl_mvs (A := [_]) hF rfl ?_; clear hF a; intro a hF
  refine wl hF rfl rfl rfl (r_lss (hF.ev rfl) ec) ?_; clear hF a; intro a hF
  refine wl_mvs (A := [_]) hF rfl ?_; clear hF a; intro a hF
  revert hF; intro hF0; refine bsplit (t := 41) hF0 rfl (fun b41 hF => ?_) (fun b41 hF => ?_)
  · exfalso; clear hF hF0; try simp only [decide_eq_true_eq, decide_eq_false_iff_not, Bool.not_eq_true', Bool.not_eq_false'] at b41
    first | omega | exact (b41 rfl).elim | (simp_all; done)
  clear hF0
  refine wl_mvs (A := [_, _]) hF rfl ?_; clear hF a; intro a hF
  refine wl_take hF rfl rfl rfl rfl ?_
  refine wl_call hF rfl rfl rfl (r_call2 en35 (hF.ev rfl) (hF.ev rfl)) (eqIntS_same (hS.own_rd (i := 2) rfl) (hS.own_rd (i := 4) rfl)) ?_; clear hF a; rintro v w12 a ⟨rfl, hB_⟩ hF; replace hS := hS.ext hB_; clear hB_
  refine wl_take hF rfl rfl rfl rfl ?_
  refine wl hF rfl rfl rfl (r_not (hF.ev rfl)) ?_; clear hF a; intro a hF
  refine wl hF rfl rfl rfl (r_pick_f (hF.ev rfl) (hF.ev rfl)) ?_; clear hF a; intro a hF
  refine wl_nil (hK17 _ _ ?_)
  refine wc_false (hF.ev rfl) ?_
  refine wp_skip ?_
  refine hK16 _ _ ?_
  refine ws fun K18 hK18 => ?_
  refine wl_mvs (A := [_]) hF rfl ?_; clear hF a; intro a hF
  refine wl_nil (hK18 _ _ ?_)
  refine ws fun K19 hK19 => ?_
  refine wl_mvs (A := [_, _]) hF rfl ?_; clear hF a; intro a hF
  refine wl_call hF rfl rfl rfl (r_call2 en37 (hF.ev rfl) (hF.ev rfl)) (markIntS_c hS (q := 2) rfl (by omega) (by first | omega | (simp only [marks_length]; omega))) ?_; clear hF a; rintro v w13 a ⟨rfl, hS_⟩ hF; replace hS := hS_; clear hS_; dsimp only [List.set] at hS
  refine wl_mvs (A := [_]) hF rfl ?_; clear hF a; intro a hF
  refine wl_nil (hK19 _ _ ?_)
  refine ws fun K20 hK20 => ?_
  refine wl_mvs (A := [_]) hF rfl ?_; clear hF a; intro a hF
  refine wl_nil (hK20 _ _ ?_)
  refine ws fun K21 hK21 => ?_
  refine wl_mvs (A := [_, _]) hF rfl ?_; clear hF a; intro a hF
  refine wl_call hF rfl rfl rfl (r_call2 en38 (hF.ev rfl) (hF.ev rfl)) (heldIntS_c (hS.own_rd (i := 2) rfl) (by omega) (by first | omega | (simp only [marks_length]; omega))) ?_; clear hF a; rintro v w14 a ⟨rfl, hB_⟩ hF; replace hS := hS.ext hB_; clear hB_
  refine wl_mvs (A := [_]) hF rfl ?_; clear hF a; intro a hF
  refine wl_nil (hK21 _ _ ?_)
  refine wp_seq_k fun K22 hK22 => ?_
  refine ws fun K23 hK23 => ?_
  refine wl_mvs (A := [_]) hF rfl ?_; clear hF a; intro a hF
  refine wl hF rfl rfl rfl (r_lss (hF.ev rfl) ec) ?_; clear hF a; intro a hF
  refine wl_nil (hK23 _ _ ?_)
  first | refine wc_dec (hF.ev rfl) (fun c54 => ?_) (fun c54 => ?_) | refine wc_ndec (hF.ev rfl) (fun c54 => ?_) (fun c54 => ?_) | refine wc_b (hF.ev rfl) (fun c54 => ?_) (fun c54 => ?_)
  · exfalso; first | omega | exact (c54 rfl).elim | (simp_all; done)
  refine wp_skip ?_
  refine hK22 _ _ ?_
  refine wp_seq_k fun K24 hK24 => ?_
  refine ws fun K25 hK25 => ?_
  refine wl_mvs (A := [_, _]) hF rfl ?_; clear hF a; intro a hF
  refine wl hF rfl rfl rfl (r_neq (hF.ev rfl) (hF.ev rfl)) ?_; clear hF a; intro a hF
  refine wl_nil (hK25 _ _ ?_)
  first | refine wc_dec (hF.ev rfl) (fun c57 => ?_) (fun c57 => ?_) | refine wc_ndec (hF.ev rfl) (fun c57 => ?_) (fun c57 => ?_) | refine wc_b (hF.ev rfl) (fun c57 => ?_) (fun c57 => ?_)
  · exfalso; first | omega | exact (c57 rfl).elim | (simp_all; done)
  refine wp_skip ?_
  refine hK24 _ _ ?_
  refine ws fun K26 hK26 => ?_
  refine wl hF rfl rfl rfl (r_loadn ag27 (hF.ev rfl) (hS.box_rd (i := 6) rfl) sz27) ?_; clear hF a; intro a hF
  refine wl_mk hF hS rfl rfl rfl (r_call1 en28 (hF.ev rfl)) (toState_c (hS.k hm) (by omega)) ?_; clear hF a; rintro vs59 w15 a hS_ hF; replace hS := hS_; clear hS_; dsimp only [List.cons_append, List.nil_append] at hS
  refine wl_mvs (A := [_]) hF rfl ?_; clear hF a; intro a hF
  refine wl_mk hF hS rfl rfl rfl (r_call2 en44 (hF.ev rfl) (hF.ev rfl)) (implStampsOf_c (hS.part_k (i := 0) rfl) hw (by omega) hp) ?_; clear hF a; rintro s61 w16 a hS_ hF; replace hS := hS_; clear hS_; dsimp only [List.cons_append, List.nil_append] at hS
  refine wl_mvs (A := [_]) hF rfl ?_; clear hF a; intro a hF
  refine wl_nil (hK26 _ _ ?_)
  refine wp_seq_k fun K27 hK27 => ?_
  refine ws fun K28 hK28 => ?_
  refine wl_mvs (A := [_, _]) hF rfl ?_; clear hF a; intro a hF
  refine wl_call hF rfl rfl rfl (r_call2 en35 (hF.ev rfl) (hF.ev rfl)) (eqIntS_same (hS.own_rd (i := 0) rfl) (hS.own_rd (i := 6) rfl)) ?_; clear hF a; rintro v w17 a ⟨rfl, hB_⟩ hF; replace hS := hS.ext hB_; clear hB_
  refine wl hF rfl rfl rfl (r_not (hF.ev rfl)) ?_; clear hF a; intro a hF
  refine wl_nil (hK28 _ _ ?_)
  refine wc_false (hF.ev rfl) ?_
  refine wp_skip ?_
  refine hK27 _ _ ?_
  refine ws fun K29 hK29 => ?_
  refine wl_mvs (A := [_]) hF rfl ?_; clear hF a; intro a hF
  refine wl_nil (hK29 _ _ ?_)
  refine ws fun K30 hK30 => ?_
  refine wl_mvs (A := [_, _]) hF rfl ?_; clear hF a; intro a hF
  refine wl_call hF rfl rfl rfl (r_call2 en38 (hF.ev rfl) (hF.ev rfl)) (heldIntS_c (hS.own_rd (i := 4) rfl) (by omega) (by first | omega | (simp only [marks_length]; omega))) ?_; clear hF a; rintro v w18 a ⟨rfl, hB_⟩ hF; replace hS := hS.ext hB_; clear hB_
  refine wl_mvs (A := [_]) hF rfl ?_; clear hF a; intro a hF
  refine wl_nil (hK30 _ _ ?_)
  refine wp_seq_k fun K31 hK31 => ?_
  refine ws fun K32 hK32 => ?_
  refine wl_mvs (A := [_]) hF rfl ?_; clear hF a; intro a hF
  refine wl hF rfl rfl rfl (r_lss (hF.ev rfl) ec) ?_; clear hF a; intro a hF
  refine wl_nil (hK32 _ _ ?_)
  first | refine wc_dec (hF.ev rfl) (fun c70 => ?_) (fun c70 => ?_) | refine wc_ndec (hF.ev rfl) (fun c70 => ?_) (fun c70 => ?_) | refine wc_b (hF.ev rfl) (fun c70 => ?_) (fun c70 => ?_)
  · exfalso; first | omega | exact (c70 rfl).elim | (simp_all; done)
  refine wp_skip ?_
  refine hK31 _ _ ?_
  refine wp_seq_k fun K33 hK33 => ?_
  refine ws fun K34 hK34 => ?_
  refine wl_mvs (A := [_, _]) hF rfl ?_; clear hF a; intro a hF
  refine wl hF rfl rfl rfl (r_neq (hF.ev rfl) (hF.ev rfl)) ?_; clear hF a; intro a hF
  refine wl_nil (hK34 _ _ ?_)
  first | refine wc_dec (hF.ev rfl) (fun c73 => ?_) (fun c73 => ?_) | refine wc_ndec (hF.ev rfl) (fun c73 => ?_) (fun c73 => ?_) | refine wc_b (hF.ev rfl) (fun c73 => ?_) (fun c73 => ?_)
  · exfalso; first | omega | exact (c73 rfl).elim | (simp_all; done)
  refine wp_skip ?_
  refine hK33 _ _ ?_
  refine ws fun K35 hK35 => ?_
  refine wl_mvs (A := [_]) hF rfl ?_; clear hF a; intro a hF
  refine wl_nil (hK35 _ _ ?_)
  refine wp_ret ?_
  try simp only [Exit.then, Exit.inBlock, ↓reduceIte]
  exact ret1 rfl hF rfl ⟨rfl, hS.old⟩

set_option maxHeartbeats 4000000 in
set_option maxRecDepth 20000 in
theorem law_FnExactAnnounced {W : World} {s : Sl.State} {cs : List Value} (hm : stateEK.K W s cs) (hw : s.wf) : Calls Try.prog 7 #[.agg cs.toArray] W (Ret fun v w' => v = .bool true ∧ Below W.heap.size W w') := by
  refine calls_fr Try.func7 rfl Try.ntmps7 rfl ?_
  intro a hF
  have hS := Sep.refl W
  obtain ⟨v0, v1, v2, rfl, r0, r1, r2⟩ := hm
  have hm : stateEK.K W s (s.encv v0 v1 v2) := ⟨_, _, _, rfl, r0, r1, r2⟩
  have hcs := state_cnt s
  have hll := ann_len (s := s)
  have hsz : s.cells.length ≤ s.size := by unfold Sl.State.size; omega
  refine ws fun K1 hK1 => ?_
  refine wl_box (cs := [_, _, _, _, _, _, _, _, _, _, _, _, _]) hF hS rfl (hF.ev rfl) rfl ?_; clear hF a; intro g1 w1 a hS_ hB_ hF; replace hS := hS_; clear hS_ hB_
  refine wl_mvs (A := [_]) hF rfl ?_; clear hF a; intro a hF
  refine wl_nil (hK1 _ _ ?_)
  refine ws fun K2 hK2 => ?_
  refine wl_mvs (A := [_]) hF rfl ?_; clear hF a; intro a hF
  refine wl_nil (hK2 _ _ ?_)
  refine ws fun K3 hK3 => ?_
  refine wl hF rfl rfl rfl (r_loadn ag27 (hF.ev rfl) (hS.box_rd (i := 0) rfl) sz27) ?_; clear hF a; intro a hF
  refine wl_mvs (A := [_]) hF rfl ?_; clear hF a; intro a hF
  refine wl_call hF rfl rfl rfl (r_call2 en26 (hF.ev rfl) (hF.ev rfl)) (szState_c (hS.k hm) (by omega) (by omega)) ?_; clear hF a; rintro v w2 a ⟨⟨r13, rfl, e1_13, e2_13, e3_13⟩, hB_⟩ hF; replace hS := hS.ext hB_; clear hB_
  refine wl_mvs (A := [_]) hF rfl ?_; clear hF a; intro a hF
  refine wl_nil (hK3 _ _ ?_)
  refine wp_seq_k fun K4 hK4 => ?_
  refine ws fun K5 hK5 => ?_
  refine wl_mvs (A := [_]) hF rfl ?_; clear hF a; intro a hF
  refine wl hF rfl rfl rfl (r_lss (hF.ev rfl) ec) ?_; clear hF a; intro a hF
  refine wl_nil (hK5 _ _ ?_)
  first | refine wc_dec (hF.ev rfl) (fun c15 => ?_) (fun c15 => ?_) | refine wc_ndec (hF.ev rfl) (fun c15 => ?_) (fun c15 => ?_) | refine wc_b (hF.ev rfl) (fun c15 => ?_) (fun c15 => ?_)
  ·
    refine ws fun K6 hK6 => ?_
    refine wl_mvs (A := [_]) hF rfl ?_; clear hF a; intro a hF
    refine wl_nil (hK6 _ _ ?_)
    refine wp_ret ?_
    try simp only [Exit.then, Exit.inBlock, ↓reduceIte]
    exact ret1 rfl hF rfl ⟨rfl, hS.old⟩
  refine wp_skip ?_
  refine hK4 _ _ ?_
  refine ws fun K7 hK7 => ?_
  refine wl hF rfl rfl rfl (r_loadn ag27 (hF.ev rfl) (hS.box_rd (i := 0) rfl) sz27) ?_; clear hF a; intro a hF
  refine wl_mk hF hS rfl rfl rfl (r_call1 en28 (hF.ev rfl)) (toState_c (hS.k hm) (by omega)) ?_; clear hF a; rintro vs17 w3 a hS_ hF; replace hS := hS_; clear hS_; dsimp only [List.cons_append, List.nil_append] at hS
  refine wl_mk hF hS rfl rfl rfl (r_call1 en33 (hF.ev rfl)) (specAnnounced_c (hS.part_k (i := 0) rfl) hw (by omega)) ?_; clear hF a; rintro s18 w4 a hS_ hF; replace hS := hS_; clear hS_; dsimp only [List.cons_append, List.nil_append] at hS
  refine wl_mvs (A := [_]) hF rfl ?_; clear hF a; intro a hF
  refine wl_nil (hK7 _ _ ?_)
  refine ws fun K8 hK8 => ?_
  refine wl hF rfl rfl rfl (r_loadn ag27 (hF.ev rfl) (hS.box_rd (i := 2) rfl) sz27) ?_; clear hF a; intro a hF
  refine wl_mk hF hS rfl rfl rfl (r_call1 en28 (hF.ev rfl)) (toState_c (hS.k hm) (by omega)) ?_; clear hF a; rintro vs20 w5 a hS_ hF; replace hS := hS_; clear hS_; dsimp only [List.cons_append, List.nil_append] at hS
  refine wl_alloc hF hS rfl zr37 ?_; clear hF a; intro g2 w6 a hS_ hB_ hF; replace hS := hS_; clear hS_ hB_
  refine wl_storew hF hS (i := 0) rfl (hF.ev rfl) (hF.ev rfl) sz37 rfl rfl ?_; intro w7 hS_; replace hS := hS_; clear hS_; dsimp only [List.set, Nat.reduceAdd] at hS
  refine wl_nil (hK8 _ _ ?_)
  refine ws fun K9 hK9 => ?_
  refine wl hF rfl rfl rfl (r_loadn ag37 (hF.ev rfl) (hS.box_rd (i := 0) rfl) sz37) ?_; clear hF a; intro a hF
  refine wl_mk hF hS rfl rfl rfl (r_call1 en34 (hF.ev rfl)) (implAnnounced_c (hS.part_k (i := 1) rfl) hw (by omega)) ?_; clear hF a; rintro s22 w8 a hS_ hF; replace hS := hS_; clear hS_; dsimp only [List.cons_append, List.nil_append] at hS
  refine wl_mvs (A := [_]) hF rfl ?_; clear hF a; intro a hF
  refine wl_nil (hK9 _ _ ?_)
  refine wp_seq_k fun K10 hK10 => ?_
  refine ws fun K11 hK11 => ?_
  refine wl_mvs (A := [_, _]) hF rfl ?_; clear hF a; intro a hF
  refine wl_call hF rfl rfl rfl (r_call2 en35 (hF.ev rfl) (hF.ev rfl)) (eqIntS_same (hS.own_rd (i := 0) rfl) (hS.own_rd (i := 3) rfl)) ?_; clear hF a; rintro v w9 a ⟨rfl, hB_⟩ hF; replace hS := hS.ext hB_; clear hB_
  refine wl hF rfl rfl rfl (r_not (hF.ev rfl)) ?_; clear hF a; intro a hF
  refine wl_nil (hK11 _ _ ?_)
  refine wc_false (hF.ev rfl) ?_
  refine wp_skip ?_
  refine hK10 _ _ ?_
  refine wp_seq_k fun K12 hK12 => ?_
  refine wp_seq_k fun K13 hK13 => ?_
  refine wp_region_todo (is := [0, 1, 2, 3, 4]) [] [] (by kernel_rfl) hF hS ⟨trivial, by decide, by decide, by decide⟩ (by kernel_rfl) ?_; clear hF; intro hl_ wd hSd
  refine todo_quiet hl_ (by kernel_rfl) rfl rfl rfl rfl rfl (fun a w_ hF hB_ => r_loadn ag37 (hF.ev rfl) ((hSd.ext hB_).box_rd (i := 1) rfl) sz37) ?_
  refine todo_quiet hl_ (by kernel_rfl) rfl rfl rfl rfl rfl (fun a w_ hF hB_ => r_loadn ag27 (hF.ev rfl) ((hSd.ext hB_).box_rd (i := 5) rfl) sz27) ?_
  refine todo_mk hl_ rfl (by kernel_rfl) rfl rfl rfl rfl rfl (fun a w_ hF => r_call1 en28 (hF.ev rfl)) (fun w_ hS => toState_c (hS.k hm) (by omega)) ?_; rintro vs29
  refine todo_rd hl_ rfl (by kernel_rfl) rfl rfl rfl rfl rfl (fun a w_ hF => r_call2 en30 (hF.ev rfl) (hF.ev rfl)) (fun w_ hS => eqState_same (hS.part_k (i := 3) rfl) (hS.part_k (i := 0) rfl)) ?_
  refine todo_pure hl_ (by kernel_rfl) rfl rfl rfl rfl rfl (fun a w_ hF => r_not (hF.ev rfl)) ?_
  refine todo_fin hl_ rfl (by kernel_rfl) (tl := []) rfl ?_; clear hS a; intro a w10 hF hA_
  have hS := hA_.sep; clear hA_
  clear hl_; try clear hSd; try clear wd
  try dsimp only [List.cons_append, List.nil_append, List.set] at hS
  refine wl_nil ⟨rfl, ?_⟩
  refine hK13 _ _ ?_
  refine wc_false (hF.ev rfl) ?_
  refine wp_skip ?_
  refine hK12 _ _ ?_
  refine ws fun K14 hK14 => ?_
  refine wl_mvs (A := [_]) hF rfl ?_; clear hF a; intro a hF
  refine wl_nil (hK14 _ _ ?_)
  refine ws fun K15 hK15 => ?_
  refine wl hF rfl rfl rfl (r_loadn ag37 (hF.ev rfl) (hS.box_rd (i := 2) rfl) sz37) ?_; clear hF a; intro a hF
  refine wl_mvs (A := [_]) hF rfl ?_; clear hF a; intro a hF
  replace hS := hS.pull (p := 3) rfl; dsimp only [List.eraseIdx] at hS
  refine wl_call hF rfl rfl rfl (r_call2 en36 (hF.ev rfl) (hF.ev rfl)) (markState_c hS (by omega) (by omega)) ?_; clear hF a; rintro v w11 a ⟨rfl, hS_⟩ hF; replace hS := hS_; clear hS_
  refine wl_mvs (A := [_]) hF rfl ?_; clear hF a; intro a hF
  refine wl_nil (hK15 _ _ ?_)
  refine wp_seq_k fun K16 hK16 => ?_
  refine ws fun K17 hK17 => ?_
  refine wl_mvs (A := [_]) hF rfl ?_; clear hF a; intro a hF
  refine wl hF rfl rfl rfl (r_lss (hF.ev rfl) ec) ?_; clear hF a; intro a hF
  refine wl_mvs (A := [_]) hF rfl ?_; clear hF a; intro a hF
  revert hF; intro hF0; refine bsplit (t := 37) hF0 rfl (fun b37 hF => ?_) (fun b37 hF => ?_)
  · exfalso; clear hF hF0; try simp only [decide_eq_true_eq, decide_eq_false_iff_not, Bool.not_eq_true', Bool.not_eq_false'] at b37
    first | omega | exact (b37 rfl).elim | (simp_all; done)
  clear hF0
  refine wl_mvs (A := [_, _]) hF rfl ?_; clear hF a; intro a hF
  refine wl_take hF rfl rfl rfl rfl ?_
  refine wl_call hF rfl rfl rfl (r_call2 en35 (hF.ev rfl) (hF.ev rfl)) (eqIntS_same (hS.own_rd (i := 2) rfl) (hS.own_rd (i := 4) rfl)) ?_; clear hF a; rintro v w12 a ⟨rfl, hB_⟩ hF; replace hS := hS.ext hB_; clear hB_
  refine wl_take hF rfl rfl rfl rfl ?_
  refine wl hF rfl rfl rfl (r_not (hF.ev rfl)) ?_; clear hF a; intro a hF
  refine wl hF rfl rfl rfl (r_pick_f (hF.ev rfl) (hF.ev rfl)) ?_; clear hF a; intro a hF
  refine wl_nil (hK17 _ _ ?_)
  refine wc_false (hF.ev rfl) ?_
  refine wp_skip ?_
  refine hK16 _ _ ?_
  refine ws fun K18 hK18 => ?_
  refine wl_mvs (A := [_]) hF rfl ?_; clear hF a; intro a hF
  refine wl_nil (hK18 _ _ ?_)
  refine ws fun K19 hK19 => ?_
  refine wl_mvs (A := [_, _]) hF rfl ?_; clear hF a; intro a hF
  refine wl_call hF rfl rfl rfl (r_call2 en37 (hF.ev rfl) (hF.ev rfl)) (markIntS_c hS (q := 2) rfl (by omega) (by first | omega | (simp only [marks_length]; omega))) ?_; clear hF a; rintro v w13 a ⟨rfl, hS_⟩ hF; replace hS := hS_; clear hS_; dsimp only [List.set] at hS
  refine wl_mvs (A := [_]) hF rfl ?_; clear hF a; intro a hF
  refine wl_nil (hK19 _ _ ?_)
  refine ws fun K20 hK20 => ?_
  refine wl_mvs (A := [_]) hF rfl ?_; clear hF a; intro a hF
  refine wl_nil (hK20 _ _ ?_)
  refine ws fun K21 hK21 => ?_
  refine wl_mvs (A := [_, _]) hF rfl ?_; clear hF a; intro a hF
  refine wl_call hF rfl rfl rfl (r_call2 en38 (hF.ev rfl) (hF.ev rfl)) (heldIntS_c (hS.own_rd (i := 2) rfl) (by omega) (by first | omega | (simp only [marks_length]; omega))) ?_; clear hF a; rintro v w14 a ⟨rfl, hB_⟩ hF; replace hS := hS.ext hB_; clear hB_
  refine wl_mvs (A := [_]) hF rfl ?_; clear hF a; intro a hF
  refine wl_nil (hK21 _ _ ?_)
  refine wp_seq_k fun K22 hK22 => ?_
  refine ws fun K23 hK23 => ?_
  refine wl_mvs (A := [_]) hF rfl ?_; clear hF a; intro a hF
  refine wl hF rfl rfl rfl (r_lss (hF.ev rfl) ec) ?_; clear hF a; intro a hF
  refine wl_nil (hK23 _ _ ?_)
  first | refine wc_dec (hF.ev rfl) (fun c50 => ?_) (fun c50 => ?_) | refine wc_ndec (hF.ev rfl) (fun c50 => ?_) (fun c50 => ?_) | refine wc_b (hF.ev rfl) (fun c50 => ?_) (fun c50 => ?_)
  · exfalso; first | omega | exact (c50 rfl).elim | (simp_all; done)
  refine wp_skip ?_
  refine hK22 _ _ ?_
  refine wp_seq_k fun K24 hK24 => ?_
  refine ws fun K25 hK25 => ?_
  refine wl_mvs (A := [_, _]) hF rfl ?_; clear hF a; intro a hF
  refine wl hF rfl rfl rfl (r_neq (hF.ev rfl) (hF.ev rfl)) ?_; clear hF a; intro a hF
  refine wl_nil (hK25 _ _ ?_)
  first | refine wc_dec (hF.ev rfl) (fun c53 => ?_) (fun c53 => ?_) | refine wc_ndec (hF.ev rfl) (fun c53 => ?_) (fun c53 => ?_) | refine wc_b (hF.ev rfl) (fun c53 => ?_) (fun c53 => ?_)
  · exfalso; first | omega | exact (c53 rfl).elim | (simp_all; done)
  refine wp_skip ?_
  refine hK24 _ _ ?_
  refine ws fun K26 hK26 => ?_
  refine wl hF rfl rfl rfl (r_loadn ag27 (hF.ev rfl) (hS.box_rd (i := 6) rfl) sz27) ?_; clear hF a; intro a hF
  refine wl_mk hF hS rfl rfl rfl (r_call1 en28 (hF.ev rfl)) (toState_c (hS.k hm) (by omega)) ?_; clear hF a; rintro vs55 w15 a hS_ hF; replace hS := hS_; clear hS_; dsimp only [List.cons_append, List.nil_append] at hS
  refine wl_mk hF hS rfl rfl rfl (r_call1 en34 (hF.ev rfl)) (implAnnounced_c (hS.part_k (i := 0) rfl) hw (by omega)) ?_; clear hF a; rintro s56 w16 a hS_ hF; replace hS := hS_; clear hS_; dsimp only [List.cons_append, List.nil_append] at hS
  refine wl_mvs (A := [_]) hF rfl ?_; clear hF a; intro a hF
  refine wl_nil (hK26 _ _ ?_)
  refine wp_seq_k fun K27 hK27 => ?_
  refine ws fun K28 hK28 => ?_
  refine wl_mvs (A := [_, _]) hF rfl ?_; clear hF a; intro a hF
  refine wl_call hF rfl rfl rfl (r_call2 en35 (hF.ev rfl) (hF.ev rfl)) (eqIntS_same (hS.own_rd (i := 0) rfl) (hS.own_rd (i := 6) rfl)) ?_; clear hF a; rintro v w17 a ⟨rfl, hB_⟩ hF; replace hS := hS.ext hB_; clear hB_
  refine wl hF rfl rfl rfl (r_not (hF.ev rfl)) ?_; clear hF a; intro a hF
  refine wl_nil (hK28 _ _ ?_)
  refine wc_false (hF.ev rfl) ?_
  refine wp_skip ?_
  refine hK27 _ _ ?_
  refine ws fun K29 hK29 => ?_
  refine wl_mvs (A := [_]) hF rfl ?_; clear hF a; intro a hF
  refine wl_nil (hK29 _ _ ?_)
  refine ws fun K30 hK30 => ?_
  refine wl_mvs (A := [_, _]) hF rfl ?_; clear hF a; intro a hF
  refine wl_call hF rfl rfl rfl (r_call2 en38 (hF.ev rfl) (hF.ev rfl)) (heldIntS_c (hS.own_rd (i := 4) rfl) (by omega) (by first | omega | (simp only [marks_length]; omega))) ?_; clear hF a; rintro v w18 a ⟨rfl, hB_⟩ hF; replace hS := hS.ext hB_; clear hB_
  refine wl_mvs (A := [_]) hF rfl ?_; clear hF a; intro a hF
  refine wl_nil (hK30 _ _ ?_)
  refine wp_seq_k fun K31 hK31 => ?_
  refine ws fun K32 hK32 => ?_
  refine wl_mvs (A := [_]) hF rfl ?_; clear hF a; intro a hF
  refine wl hF rfl rfl rfl (r_lss (hF.ev rfl) ec) ?_; clear hF a; intro a hF
  refine wl_nil (hK32 _ _ ?_)
  first | refine wc_dec (hF.ev rfl) (fun c65 => ?_) (fun c65 => ?_) | refine wc_ndec (hF.ev rfl) (fun c65 => ?_) (fun c65 => ?_) | refine wc_b (hF.ev rfl) (fun c65 => ?_) (fun c65 => ?_)
  · exfalso; first | omega | exact (c65 rfl).elim | (simp_all; done)
  refine wp_skip ?_
  refine hK31 _ _ ?_
  refine wp_seq_k fun K33 hK33 => ?_
  refine ws fun K34 hK34 => ?_
  refine wl_mvs (A := [_, _]) hF rfl ?_; clear hF a; intro a hF
  refine wl hF rfl rfl rfl (r_neq (hF.ev rfl) (hF.ev rfl)) ?_; clear hF a; intro a hF
  refine wl_nil (hK34 _ _ ?_)
  first | refine wc_dec (hF.ev rfl) (fun c68 => ?_) (fun c68 => ?_) | refine wc_ndec (hF.ev rfl) (fun c68 => ?_) (fun c68 => ?_) | refine wc_b (hF.ev rfl) (fun c68 => ?_) (fun c68 => ?_)
  · exfalso; first | omega | exact (c68 rfl).elim | (simp_all; done)
  refine wp_skip ?_
  refine hK33 _ _ ?_
  refine ws fun K35 hK35 => ?_
  refine wl_mvs (A := [_]) hF rfl ?_; clear hF a; intro a hF
  refine wl_nil (hK35 _ _ ?_)
  refine wp_ret ?_
  try simp only [Exit.then, Exit.inBlock, ↓reduceIte]
  exact ret1 rfl hF rfl ⟨rfl, hS.old⟩

set_option maxHeartbeats 4000000 in
set_option maxRecDepth 20000 in
theorem law_FnExactHazards {W : World} {s : Sl.State} {cs : List Value} (hm : stateEK.K W s cs) (hw : s.wf) : Calls Try.prog 8 #[.agg cs.toArray] W (Ret fun v w' => v = .bool true ∧ Below W.heap.size W w') := by
  refine calls_fr Try.func8 rfl Try.ntmps8 rfl ?_
  intro a hF
  have hS := Sep.refl W
  obtain ⟨v0, v1, v2, rfl, r0, r1, r2⟩ := hm
  have hm : stateEK.K W s (s.encv v0 v1 v2) := ⟨_, _, _, rfl, r0, r1, r2⟩
  have hcs := state_cnt s
  have hll := haz_len (s := s)
  have hsz : s.cells.length ≤ s.size := by unfold Sl.State.size; omega
  refine ws fun K1 hK1 => ?_
  refine wl_box (cs := [_, _, _, _, _, _, _, _, _, _, _, _, _]) hF hS rfl (hF.ev rfl) rfl ?_; clear hF a; intro g1 w1 a hS_ hB_ hF; replace hS := hS_; clear hS_ hB_
  refine wl_mvs (A := [_]) hF rfl ?_; clear hF a; intro a hF
  refine wl_nil (hK1 _ _ ?_)
  refine ws fun K2 hK2 => ?_
  refine wl_mvs (A := [_]) hF rfl ?_; clear hF a; intro a hF
  refine wl_nil (hK2 _ _ ?_)
  refine ws fun K3 hK3 => ?_
  refine wl hF rfl rfl rfl (r_loadn ag27 (hF.ev rfl) (hS.box_rd (i := 0) rfl) sz27) ?_; clear hF a; intro a hF
  refine wl_mvs (A := [_]) hF rfl ?_; clear hF a; intro a hF
  refine wl_call hF rfl rfl rfl (r_call2 en26 (hF.ev rfl) (hF.ev rfl)) (szState_c (hS.k hm) (by omega) (by omega)) ?_; clear hF a; rintro v w2 a ⟨⟨r13, rfl, e1_13, e2_13, e3_13⟩, hB_⟩ hF; replace hS := hS.ext hB_; clear hB_
  refine wl_mvs (A := [_]) hF rfl ?_; clear hF a; intro a hF
  refine wl_nil (hK3 _ _ ?_)
  refine wp_seq_k fun K4 hK4 => ?_
  refine ws fun K5 hK5 => ?_
  refine wl_mvs (A := [_]) hF rfl ?_; clear hF a; intro a hF
  refine wl hF rfl rfl rfl (r_lss (hF.ev rfl) ec) ?_; clear hF a; intro a hF
  refine wl_nil (hK5 _ _ ?_)
  first | refine wc_dec (hF.ev rfl) (fun c15 => ?_) (fun c15 => ?_) | refine wc_ndec (hF.ev rfl) (fun c15 => ?_) (fun c15 => ?_) | refine wc_b (hF.ev rfl) (fun c15 => ?_) (fun c15 => ?_)
  ·
    refine ws fun K6 hK6 => ?_
    refine wl_mvs (A := [_]) hF rfl ?_; clear hF a; intro a hF
    refine wl_nil (hK6 _ _ ?_)
    refine wp_ret ?_
    try simp only [Exit.then, Exit.inBlock, ↓reduceIte]
    exact ret1 rfl hF rfl ⟨rfl, hS.old⟩
  refine wp_skip ?_
  refine hK4 _ _ ?_
  refine ws fun K7 hK7 => ?_
  refine wl hF rfl rfl rfl (r_loadn ag27 (hF.ev rfl) (hS.box_rd (i := 0) rfl) sz27) ?_; clear hF a; intro a hF
  refine wl_mk hF hS rfl rfl rfl (r_call1 en28 (hF.ev rfl)) (toState_c (hS.k hm) (by omega)) ?_; clear hF a; rintro vs17 w3 a hS_ hF; replace hS := hS_; clear hS_; dsimp only [List.cons_append, List.nil_append] at hS
  refine wl_mk hF hS rfl rfl rfl (r_call1 en39 (hF.ev rfl)) (specHazards_c (hS.part_k (i := 0) rfl) hw (by omega)) ?_; clear hF a; rintro s18 w4 a hS_ hF; replace hS := hS_; clear hS_; dsimp only [List.cons_append, List.nil_append] at hS
  refine wl_mvs (A := [_]) hF rfl ?_; clear hF a; intro a hF
  refine wl_nil (hK7 _ _ ?_)
  refine ws fun K8 hK8 => ?_
  refine wl hF rfl rfl rfl (r_loadn ag27 (hF.ev rfl) (hS.box_rd (i := 2) rfl) sz27) ?_; clear hF a; intro a hF
  refine wl_mk hF hS rfl rfl rfl (r_call1 en28 (hF.ev rfl)) (toState_c (hS.k hm) (by omega)) ?_; clear hF a; rintro vs20 w5 a hS_ hF; replace hS := hS_; clear hS_; dsimp only [List.cons_append, List.nil_append] at hS
  refine wl_alloc hF hS rfl zr37 ?_; clear hF a; intro g2 w6 a hS_ hB_ hF; replace hS := hS_; clear hS_ hB_
  refine wl_storew hF hS (i := 0) rfl (hF.ev rfl) (hF.ev rfl) sz37 rfl rfl ?_; intro w7 hS_; replace hS := hS_; clear hS_; dsimp only [List.set, Nat.reduceAdd] at hS
  refine wl_nil (hK8 _ _ ?_)
  refine ws fun K9 hK9 => ?_
  refine wl hF rfl rfl rfl (r_loadn ag37 (hF.ev rfl) (hS.box_rd (i := 0) rfl) sz37) ?_; clear hF a; intro a hF
  refine wl_mk hF hS rfl rfl rfl (r_call1 en40 (hF.ev rfl)) (implHazards_c (hS.part_k (i := 1) rfl) hw (by omega)) ?_; clear hF a; rintro s22 w8 a hS_ hF; replace hS := hS_; clear hS_; dsimp only [List.cons_append, List.nil_append] at hS
  refine wl_mvs (A := [_]) hF rfl ?_; clear hF a; intro a hF
  refine wl_nil (hK9 _ _ ?_)
  refine wp_seq_k fun K10 hK10 => ?_
  refine ws fun K11 hK11 => ?_
  refine wl_mvs (A := [_, _]) hF rfl ?_; clear hF a; intro a hF
  refine wl_call hF rfl rfl rfl (r_call2 en35 (hF.ev rfl) (hF.ev rfl)) (eqIntS_same (hS.own_rd (i := 0) rfl) (hS.own_rd (i := 3) rfl)) ?_; clear hF a; rintro v w9 a ⟨rfl, hB_⟩ hF; replace hS := hS.ext hB_; clear hB_
  refine wl hF rfl rfl rfl (r_not (hF.ev rfl)) ?_; clear hF a; intro a hF
  refine wl_nil (hK11 _ _ ?_)
  refine wc_false (hF.ev rfl) ?_
  refine wp_skip ?_
  refine hK10 _ _ ?_
  refine wp_seq_k fun K12 hK12 => ?_
  refine wp_seq_k fun K13 hK13 => ?_
  refine wp_region_todo (is := [0, 1, 2, 3, 4]) [] [] (by kernel_rfl) hF hS ⟨trivial, by decide, by decide, by decide⟩ (by kernel_rfl) ?_; clear hF; intro hl_ wd hSd
  refine todo_quiet hl_ (by kernel_rfl) rfl rfl rfl rfl rfl (fun a w_ hF hB_ => r_loadn ag37 (hF.ev rfl) ((hSd.ext hB_).box_rd (i := 1) rfl) sz37) ?_
  refine todo_quiet hl_ (by kernel_rfl) rfl rfl rfl rfl rfl (fun a w_ hF hB_ => r_loadn ag27 (hF.ev rfl) ((hSd.ext hB_).box_rd (i := 5) rfl) sz27) ?_
  refine todo_mk hl_ rfl (by kernel_rfl) rfl rfl rfl rfl rfl (fun a w_ hF => r_call1 en28 (hF.ev rfl)) (fun w_ hS => toState_c (hS.k hm) (by omega)) ?_; rintro vs29
  refine todo_rd hl_ rfl (by kernel_rfl) rfl rfl rfl rfl rfl (fun a w_ hF => r_call2 en30 (hF.ev rfl) (hF.ev rfl)) (fun w_ hS => eqState_same (hS.part_k (i := 3) rfl) (hS.part_k (i := 0) rfl)) ?_
  refine todo_pure hl_ (by kernel_rfl) rfl rfl rfl rfl rfl (fun a w_ hF => r_not (hF.ev rfl)) ?_
  refine todo_fin hl_ rfl (by kernel_rfl) (tl := []) rfl ?_; clear hS a; intro a w10 hF hA_
  have hS := hA_.sep; clear hA_
  clear hl_; try clear hSd; try clear wd
  try dsimp only [List.cons_append, List.nil_append, List.set] at hS
  refine wl_nil ⟨rfl, ?_⟩
  refine hK13 _ _ ?_
  refine wc_false (hF.ev rfl) ?_
  refine wp_skip ?_
  refine hK12 _ _ ?_
  refine ws fun K14 hK14 => ?_
  refine wl_mvs (A := [_]) hF rfl ?_; clear hF a; intro a hF
  refine wl_nil (hK14 _ _ ?_)
  refine ws fun K15 hK15 => ?_
  refine wl hF rfl rfl rfl (r_loadn ag37 (hF.ev rfl) (hS.box_rd (i := 2) rfl) sz37) ?_; clear hF a; intro a hF
  refine wl_mvs (A := [_]) hF rfl ?_; clear hF a; intro a hF
  replace hS := hS.pull (p := 3) rfl; dsimp only [List.eraseIdx] at hS
  refine wl_call hF rfl rfl rfl (r_call2 en36 (hF.ev rfl) (hF.ev rfl)) (markState_c hS (by omega) (by omega)) ?_; clear hF a; rintro v w11 a ⟨rfl, hS_⟩ hF; replace hS := hS_; clear hS_
  refine wl_mvs (A := [_]) hF rfl ?_; clear hF a; intro a hF
  refine wl_nil (hK15 _ _ ?_)
  refine wp_seq_k fun K16 hK16 => ?_
  refine ws fun K17 hK17 => ?_
  refine wl_mvs (A := [_]) hF rfl ?_; clear hF a; intro a hF
  refine wl hF rfl rfl rfl (r_lss (hF.ev rfl) ec) ?_; clear hF a; intro a hF
  refine wl_mvs (A := [_]) hF rfl ?_; clear hF a; intro a hF
  revert hF; intro hF0; refine bsplit (t := 37) hF0 rfl (fun b37 hF => ?_) (fun b37 hF => ?_)
  · exfalso; clear hF hF0; try simp only [decide_eq_true_eq, decide_eq_false_iff_not, Bool.not_eq_true', Bool.not_eq_false'] at b37
    first | omega | exact (b37 rfl).elim | (simp_all; done)
  clear hF0
  refine wl_mvs (A := [_, _]) hF rfl ?_; clear hF a; intro a hF
  refine wl_take hF rfl rfl rfl rfl ?_
  refine wl_call hF rfl rfl rfl (r_call2 en35 (hF.ev rfl) (hF.ev rfl)) (eqIntS_same (hS.own_rd (i := 2) rfl) (hS.own_rd (i := 4) rfl)) ?_; clear hF a; rintro v w12 a ⟨rfl, hB_⟩ hF; replace hS := hS.ext hB_; clear hB_
  refine wl_take hF rfl rfl rfl rfl ?_
  refine wl hF rfl rfl rfl (r_not (hF.ev rfl)) ?_; clear hF a; intro a hF
  refine wl hF rfl rfl rfl (r_pick_f (hF.ev rfl) (hF.ev rfl)) ?_; clear hF a; intro a hF
  refine wl_nil (hK17 _ _ ?_)
  refine wc_false (hF.ev rfl) ?_
  refine wp_skip ?_
  refine hK16 _ _ ?_
  refine ws fun K18 hK18 => ?_
  refine wl_mvs (A := [_]) hF rfl ?_; clear hF a; intro a hF
  refine wl_nil (hK18 _ _ ?_)
  refine ws fun K19 hK19 => ?_
  refine wl_mvs (A := [_, _]) hF rfl ?_; clear hF a; intro a hF
  refine wl_call hF rfl rfl rfl (r_call2 en37 (hF.ev rfl) (hF.ev rfl)) (markIntS_c hS (q := 2) rfl (by omega) (by first | omega | (simp only [marks_length]; omega))) ?_; clear hF a; rintro v w13 a ⟨rfl, hS_⟩ hF; replace hS := hS_; clear hS_; dsimp only [List.set] at hS
  refine wl_mvs (A := [_]) hF rfl ?_; clear hF a; intro a hF
  refine wl_nil (hK19 _ _ ?_)
  refine ws fun K20 hK20 => ?_
  refine wl_mvs (A := [_]) hF rfl ?_; clear hF a; intro a hF
  refine wl_nil (hK20 _ _ ?_)
  refine ws fun K21 hK21 => ?_
  refine wl_mvs (A := [_, _]) hF rfl ?_; clear hF a; intro a hF
  refine wl_call hF rfl rfl rfl (r_call2 en38 (hF.ev rfl) (hF.ev rfl)) (heldIntS_c (hS.own_rd (i := 2) rfl) (by omega) (by first | omega | (simp only [marks_length]; omega))) ?_; clear hF a; rintro v w14 a ⟨rfl, hB_⟩ hF; replace hS := hS.ext hB_; clear hB_
  refine wl_mvs (A := [_]) hF rfl ?_; clear hF a; intro a hF
  refine wl_nil (hK21 _ _ ?_)
  refine wp_seq_k fun K22 hK22 => ?_
  refine ws fun K23 hK23 => ?_
  refine wl_mvs (A := [_]) hF rfl ?_; clear hF a; intro a hF
  refine wl hF rfl rfl rfl (r_lss (hF.ev rfl) ec) ?_; clear hF a; intro a hF
  refine wl_nil (hK23 _ _ ?_)
  first | refine wc_dec (hF.ev rfl) (fun c50 => ?_) (fun c50 => ?_) | refine wc_ndec (hF.ev rfl) (fun c50 => ?_) (fun c50 => ?_) | refine wc_b (hF.ev rfl) (fun c50 => ?_) (fun c50 => ?_)
  · exfalso; first | omega | exact (c50 rfl).elim | (simp_all; done)
  refine wp_skip ?_
  refine hK22 _ _ ?_
  refine wp_seq_k fun K24 hK24 => ?_
  refine ws fun K25 hK25 => ?_
  refine wl_mvs (A := [_, _]) hF rfl ?_; clear hF a; intro a hF
  refine wl hF rfl rfl rfl (r_neq (hF.ev rfl) (hF.ev rfl)) ?_; clear hF a; intro a hF
  refine wl_nil (hK25 _ _ ?_)
  first | refine wc_dec (hF.ev rfl) (fun c53 => ?_) (fun c53 => ?_) | refine wc_ndec (hF.ev rfl) (fun c53 => ?_) (fun c53 => ?_) | refine wc_b (hF.ev rfl) (fun c53 => ?_) (fun c53 => ?_)
  · exfalso; first | omega | exact (c53 rfl).elim | (simp_all; done)
  refine wp_skip ?_
  refine hK24 _ _ ?_
  refine ws fun K26 hK26 => ?_
  refine wl hF rfl rfl rfl (r_loadn ag27 (hF.ev rfl) (hS.box_rd (i := 6) rfl) sz27) ?_; clear hF a; intro a hF
  refine wl_mk hF hS rfl rfl rfl (r_call1 en28 (hF.ev rfl)) (toState_c (hS.k hm) (by omega)) ?_; clear hF a; rintro vs55 w15 a hS_ hF; replace hS := hS_; clear hS_; dsimp only [List.cons_append, List.nil_append] at hS
  refine wl_mk hF hS rfl rfl rfl (r_call1 en40 (hF.ev rfl)) (implHazards_c (hS.part_k (i := 0) rfl) hw (by omega)) ?_; clear hF a; rintro s56 w16 a hS_ hF; replace hS := hS_; clear hS_; dsimp only [List.cons_append, List.nil_append] at hS
  refine wl_mvs (A := [_]) hF rfl ?_; clear hF a; intro a hF
  refine wl_nil (hK26 _ _ ?_)
  refine wp_seq_k fun K27 hK27 => ?_
  refine ws fun K28 hK28 => ?_
  refine wl_mvs (A := [_, _]) hF rfl ?_; clear hF a; intro a hF
  refine wl_call hF rfl rfl rfl (r_call2 en35 (hF.ev rfl) (hF.ev rfl)) (eqIntS_same (hS.own_rd (i := 0) rfl) (hS.own_rd (i := 6) rfl)) ?_; clear hF a; rintro v w17 a ⟨rfl, hB_⟩ hF; replace hS := hS.ext hB_; clear hB_
  refine wl hF rfl rfl rfl (r_not (hF.ev rfl)) ?_; clear hF a; intro a hF
  refine wl_nil (hK28 _ _ ?_)
  refine wc_false (hF.ev rfl) ?_
  refine wp_skip ?_
  refine hK27 _ _ ?_
  refine ws fun K29 hK29 => ?_
  refine wl_mvs (A := [_]) hF rfl ?_; clear hF a; intro a hF
  refine wl_nil (hK29 _ _ ?_)
  refine ws fun K30 hK30 => ?_
  refine wl_mvs (A := [_, _]) hF rfl ?_; clear hF a; intro a hF
  refine wl_call hF rfl rfl rfl (r_call2 en38 (hF.ev rfl) (hF.ev rfl)) (heldIntS_c (hS.own_rd (i := 4) rfl) (by omega) (by first | omega | (simp only [marks_length]; omega))) ?_; clear hF a; rintro v w18 a ⟨rfl, hB_⟩ hF; replace hS := hS.ext hB_; clear hB_
  refine wl_mvs (A := [_]) hF rfl ?_; clear hF a; intro a hF
  refine wl_nil (hK30 _ _ ?_)
  refine wp_seq_k fun K31 hK31 => ?_
  refine ws fun K32 hK32 => ?_
  refine wl_mvs (A := [_]) hF rfl ?_; clear hF a; intro a hF
  refine wl hF rfl rfl rfl (r_lss (hF.ev rfl) ec) ?_; clear hF a; intro a hF
  refine wl_nil (hK32 _ _ ?_)
  first | refine wc_dec (hF.ev rfl) (fun c65 => ?_) (fun c65 => ?_) | refine wc_ndec (hF.ev rfl) (fun c65 => ?_) (fun c65 => ?_) | refine wc_b (hF.ev rfl) (fun c65 => ?_) (fun c65 => ?_)
  · exfalso; first | omega | exact (c65 rfl).elim | (simp_all; done)
  refine wp_skip ?_
  refine hK31 _ _ ?_
  refine wp_seq_k fun K33 hK33 => ?_
  refine ws fun K34 hK34 => ?_
  refine wl_mvs (A := [_, _]) hF rfl ?_; clear hF a; intro a hF
  refine wl hF rfl rfl rfl (r_neq (hF.ev rfl) (hF.ev rfl)) ?_; clear hF a; intro a hF
  refine wl_nil (hK34 _ _ ?_)
  first | refine wc_dec (hF.ev rfl) (fun c68 => ?_) (fun c68 => ?_) | refine wc_ndec (hF.ev rfl) (fun c68 => ?_) (fun c68 => ?_) | refine wc_b (hF.ev rfl) (fun c68 => ?_) (fun c68 => ?_)
  · exfalso; first | omega | exact (c68 rfl).elim | (simp_all; done)
  refine wp_skip ?_
  refine hK33 _ _ ?_
  refine ws fun K35 hK35 => ?_
  refine wl_mvs (A := [_]) hF rfl ?_; clear hF a; intro a hF
  refine wl_nil (hK35 _ _ ?_)
  refine wp_ret ?_
  try simp only [Exit.then, Exit.inBlock, ↓reduceIte]
  exact ret1 rfl hF rfl ⟨rfl, hS.old⟩

end Go.Proofs.Ytjloiphocdaahaa.Wk
