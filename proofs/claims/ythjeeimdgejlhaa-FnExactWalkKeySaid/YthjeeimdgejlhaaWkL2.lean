/- Walks: the laws on IsCurrent, LoadField, RefusalOf, WalkKey. -/
import Derived.Test.YthjeeimdgejlhaaChecked
import Derived.Test.YthjeeimdgejlhaaWkR3
import Derived.Test.YthjeeimdgejlhaaFactsB
namespace Go.Proofs.Ythjeeimdgejlhaa.Wk
open Go Go.RowKit Sl
set_option linter.unusedVariables false
set_option linter.unusedSimpArgs false
set_option maxRecDepth 20000

set_option maxHeartbeats 4000000 in
set_option maxRecDepth 20000 in
theorem law_FnExactIsCurrent {W : World} {s : Sl.State} {cs : List Value} (hm : stateEK.K W s cs) (hw : s.wf) {p : Int} (hp : int64 p) : Calls Try.prog 9 #[.agg cs.toArray, vi p] W (Ret fun v w' => v = .bool true ∧ Below W.heap.size W w') := by
  refine calls_fr Try.func9 rfl Try.ntmps9 rfl ?_
  intro a hF
  have hS := Sep.refl W
  obtain ⟨v0, v1, v2, rfl, r0, r1, r2⟩ := hm
  have hm : stateEK.K W s (s.encv v0 v1 v2) := ⟨_, _, _, rfl, r0, r1, r2⟩
  refine wp_seq_k fun K1 hK1 => ?_
  refine wp_region_lit ?_
  refine wl_box (cs := [_, _, _, _, _, _, _, _, _, _, _, _, _]) hF hS rfl (hF.ev rfl) rfl ?_; clear hF a; intro g1 w1 a hS_ hB_ hF; replace hS := hS_; clear hS_ hB_
  refine wl hF rfl rfl rfl (r_assign ec) ?_; clear hF a; intro a hF
  refine wl_nil ?_
  refine hK1 _ _ ?_
  refine wp_seq_k fun K2 hK2 => ?_
  refine wp_region_lit ?_
  refine wl hF rfl rfl rfl (r_assign ec) ?_; clear hF a; intro a hF
  refine wl_nil ?_
  refine hK2 _ _ ?_
  refine wp_seq_k fun K3 hK3 => ?_
  refine wp_region_lit ?_
  refine wl hF rfl rfl rfl (r_loadn ag27 (hF.ev rfl) (hS.box_rd (i := 0) rfl) sz27) ?_; clear hF a; intro a hF
  refine wl hF rfl rfl rfl (r_move (hF.ev rfl)) ?_; clear hF a; intro a hF
  refine wl_call hF rfl rfl rfl (r_call2 en27 (hF.ev rfl) (hF.ev rfl)) (szState_c (hS.k hm) (by omega) (by omega)) ?_; clear hF a; rintro v w2 a ⟨⟨r11, rfl, e1_11, e2_11, e3_11⟩, hB_⟩ hF; replace hS := hS.ext hB_; clear hB_
  refine wl hF rfl rfl rfl (r_assign (hF.ev rfl)) ?_; clear hF a; intro a hF
  refine wl_nil ?_
  refine hK3 _ _ ?_
  refine wp_seq_k fun K4 hK4 => ?_
  refine wp_seq_k fun K5 hK5 => ?_
  refine wp_region_lit ?_
  refine wl hF rfl rfl rfl (r_move (hF.ev rfl)) ?_; clear hF a; intro a hF
  refine wl hF rfl rfl rfl (r_lss (hF.ev rfl) ec) ?_; clear hF a; intro a hF
  refine wl_nil ?_
  refine hK5 _ _ ?_
  first | refine wc_dec (hF.ev rfl) (fun c13 => ?_) (fun c13 => ?_) | refine wc_ndec (hF.ev rfl) (fun c13 => ?_) (fun c13 => ?_) | refine wc_b (hF.ev rfl) (fun c13 => ?_) (fun c13 => ?_)
  ·
    refine wp_seq_k fun K6 hK6 => ?_
    refine wp_region_lit ?_
    refine wl hF rfl rfl rfl (r_assign ec) ?_; clear hF a; intro a hF
    refine wl_nil ?_
    refine hK6 _ _ ?_
    refine wp_ret ?_
    try simp only [Exit.then, Exit.inBlock, ↓reduceIte]
    exact ret1 rfl hF rfl ⟨rfl, hS.old⟩
  ·
    refine wp_skip ?_
    refine hK4 _ _ ?_
    refine wp_seq_k fun K7 hK7 => ?_
    refine wp_region_lit ?_
    refine wl hF rfl rfl rfl (r_loadn ag27 (hF.ev rfl) (hS.box_rd (i := 0) rfl) sz27) ?_; clear hF a; intro a hF
    refine wl_mk hF hS rfl rfl rfl (r_call1 en29 (hF.ev rfl)) (toState_c (hS.k hm) (by omega)) ?_; clear hF a; rintro vs15 w3 a hS_ hF; replace hS := hS_; clear hS_; dsimp only [List.cons_append, List.nil_append] at hS
    refine wl hF rfl rfl rfl (r_move (hF.ev rfl)) ?_; clear hF a; intro a hF
    refine wl_call hF rfl rfl rfl (r_call2 en40 (hF.ev rfl) (hF.ev rfl)) (specIsCurrent_c (hS.part_k (i := 0) rfl) hw (by omega) hp) ?_; clear hF a; rintro v w4 a ⟨rfl, hB_⟩ hF; replace hS := hS.ext hB_; clear hB_
    refine wl hF rfl rfl rfl (r_assign (hF.ev rfl)) ?_; clear hF a; intro a hF
    refine wl_nil ?_
    refine hK7 _ _ ?_
    refine wp_seq_k fun K8 hK8 => ?_
    refine wp_region_lit ?_
    refine wl hF rfl rfl rfl (r_loadn ag27 (hF.ev rfl) (hS.box_rd (i := 1) rfl) sz27) ?_; clear hF a; intro a hF
    refine wl_mk hF hS rfl rfl rfl (r_call1 en29 (hF.ev rfl)) (toState_c (hS.k hm) (by omega)) ?_; clear hF a; rintro vs19 w5 a hS_ hF; replace hS := hS_; clear hS_; dsimp only [List.cons_append, List.nil_append] at hS
    refine wl_alloc hF hS rfl zr37 ?_; clear hF a; intro g2 w6 a hS_ hB_ hF; replace hS := hS_; clear hS_ hB_
    refine wl_storew hF hS (i := 0) rfl (hF.ev rfl) (hF.ev rfl) sz37 rfl rfl ?_; intro w7 hS_; replace hS := hS_; clear hS_; dsimp only [List.set, Nat.reduceAdd] at hS
    refine wl_nil ?_
    refine hK8 _ _ ?_
    refine wp_seq_k fun K9 hK9 => ?_
    refine wp_region_lit ?_
    refine wl hF rfl rfl rfl (r_loadn ag37 (hF.ev rfl) (hS.box_rd (i := 0) rfl) sz37) ?_; clear hF a; intro a hF
    refine wl hF rfl rfl rfl (r_move (hF.ev rfl)) ?_; clear hF a; intro a hF
    refine wl_call hF rfl rfl rfl (r_call2 en41 (hF.ev rfl) (hF.ev rfl)) (implIsCurrent_c (hS.part_k (i := 1) rfl) hw (by omega) hp) ?_; clear hF a; rintro v w8 a ⟨rfl, hB_⟩ hF; replace hS := hS.ext hB_; clear hB_
    refine wl hF rfl rfl rfl (r_assign (hF.ev rfl)) ?_; clear hF a; intro a hF
    refine wl_nil ?_
    refine hK9 _ _ ?_
    refine wp_seq_k fun K10 hK10 => ?_
    refine wp_seq_k fun K11 hK11 => ?_
    refine wp_region_lit ?_
    refine wl hF rfl rfl rfl (r_move (hF.ev rfl)) ?_; clear hF a; intro a hF
    refine wl hF rfl rfl rfl (r_move (hF.ev rfl)) ?_; clear hF a; intro a hF
    refine wl hF rfl rfl rfl (r_neqb bl4 (hF.ev rfl) (hF.ev rfl)) ?_; clear hF a; intro a hF
    refine wl_nil ?_
    refine hK11 _ _ ?_
    first | refine wc_dec (hF.ev rfl) (fun c25 => ?_) (fun c25 => ?_) | refine wc_ndec (hF.ev rfl) (fun c25 => ?_) (fun c25 => ?_) | refine wc_b (hF.ev rfl) (fun c25 => ?_) (fun c25 => ?_)
    · exfalso; first | omega | exact (c25 rfl).elim | (simp_all; done)
    refine wp_skip ?_
    refine hK10 _ _ ?_
    refine wp_seq_k fun K12 hK12 => ?_
    refine wp_seq_k fun K13 hK13 => ?_
    refine wp_region_todo (is := [0, 1, 2, 3, 4]) [] [] (by kernel_rfl) hF hS ⟨trivial, by decide, by decide, by decide⟩ (by kernel_rfl) ?_; clear hF; intro hl_ wd hSd
    refine todo_quiet hl_ (by kernel_rfl) rfl rfl rfl rfl rfl (fun a w_ hF hB_ => r_loadn ag37 (hF.ev rfl) ((hSd.ext hB_).box_rd (i := 0) rfl) sz37) ?_
    refine todo_quiet hl_ (by kernel_rfl) rfl rfl rfl rfl rfl (fun a w_ hF hB_ => r_loadn ag27 (hF.ev rfl) ((hSd.ext hB_).box_rd (i := 3) rfl) sz27) ?_
    refine todo_mk hl_ rfl (by kernel_rfl) rfl rfl rfl rfl rfl (fun a w_ hF => r_call1 en29 (hF.ev rfl)) (fun w_ hS => toState_c (hS.k hm) (by omega)) ?_; rintro vs28
    refine todo_rd hl_ rfl (by kernel_rfl) rfl rfl rfl rfl rfl (fun a w_ hF => r_call2 en31 (hF.ev rfl) (hF.ev rfl)) (fun w_ hS => eqState_same (hS.part_k (i := 2) rfl) (hS.part_k (i := 0) rfl)) ?_
    refine todo_pure hl_ (by kernel_rfl) rfl rfl rfl rfl rfl (fun a w_ hF => r_not (hF.ev rfl)) ?_
    refine todo_fin hl_ rfl (by kernel_rfl) (tl := []) rfl ?_; clear hS a; intro a w9 hF hA_
    have hS := hA_.sep; clear hA_
    clear hl_; try clear hSd; try clear wd
    try dsimp only [List.cons_append, List.nil_append, List.set] at hS
    refine wl_nil ⟨rfl, ?_⟩
    refine hK13 _ _ ?_
    refine wc_false (hF.ev rfl) ?_
    refine wp_skip ?_
    refine hK12 _ _ ?_
    refine wp_seq_k fun K14 hK14 => ?_
    refine wp_region_lit ?_
    refine wl hF rfl rfl rfl (r_assign ec) ?_; clear hF a; intro a hF
    refine wl_nil ?_
    refine hK14 _ _ ?_
    refine wp_ret ?_
    try simp only [Exit.then, Exit.inBlock, ↓reduceIte]
    exact ret1 rfl hF rfl ⟨rfl, hS.old⟩

set_option maxHeartbeats 4000000 in
set_option maxRecDepth 20000 in
theorem law_FnExactLoadField {W : World} {s : Sl.State} {cs : List Value} (hm : stateEK.K W s cs) (hw : s.wf) {p f : Int} (hp : int64 p) (hf : int64 f) : Calls Try.prog 10 #[.agg cs.toArray, vi p, vi f] W (Ret fun v w' => v = .bool true ∧ Below W.heap.size W w') := by
  refine calls_fr Try.func10 rfl Try.ntmps10 rfl ?_
  intro a hF
  have hS := Sep.refl W
  obtain ⟨v0, v1, v2, rfl, r0, r1, r2⟩ := hm
  have hm : stateEK.K W s (s.encv v0 v1 v2) := ⟨_, _, _, rfl, r0, r1, r2⟩
  refine wp_seq_k fun K1 hK1 => ?_
  refine wp_region_lit ?_
  refine wl_box (cs := [_, _, _, _, _, _, _, _, _, _, _, _, _]) hF hS rfl (hF.ev rfl) rfl ?_; clear hF a; intro g1 w1 a hS_ hB_ hF; replace hS := hS_; clear hS_ hB_
  refine wl hF rfl rfl rfl (r_assign ec) ?_; clear hF a; intro a hF
  refine wl_nil ?_
  refine hK1 _ _ ?_
  refine wp_seq_k fun K2 hK2 => ?_
  refine wp_region_lit ?_
  refine wl hF rfl rfl rfl (r_assign ec) ?_; clear hF a; intro a hF
  refine wl_nil ?_
  refine hK2 _ _ ?_
  refine wp_seq_k fun K3 hK3 => ?_
  refine wp_region_lit ?_
  refine wl hF rfl rfl rfl (r_loadn ag27 (hF.ev rfl) (hS.box_rd (i := 0) rfl) sz27) ?_; clear hF a; intro a hF
  refine wl hF rfl rfl rfl (r_move (hF.ev rfl)) ?_; clear hF a; intro a hF
  refine wl_call hF rfl rfl rfl (r_call2 en27 (hF.ev rfl) (hF.ev rfl)) (szState_c (hS.k hm) (by omega) (by omega)) ?_; clear hF a; rintro v w2 a ⟨⟨r15, rfl, e1_15, e2_15, e3_15⟩, hB_⟩ hF; replace hS := hS.ext hB_; clear hB_
  refine wl hF rfl rfl rfl (r_assign (hF.ev rfl)) ?_; clear hF a; intro a hF
  refine wl_nil ?_
  refine hK3 _ _ ?_
  refine wp_seq_k fun K4 hK4 => ?_
  refine wp_seq_k fun K5 hK5 => ?_
  refine wp_region_lit ?_
  refine wl hF rfl rfl rfl (r_move (hF.ev rfl)) ?_; clear hF a; intro a hF
  refine wl hF rfl rfl rfl (r_lss (hF.ev rfl) ec) ?_; clear hF a; intro a hF
  refine wl_nil ?_
  refine hK5 _ _ ?_
  first | refine wc_dec (hF.ev rfl) (fun c17 => ?_) (fun c17 => ?_) | refine wc_ndec (hF.ev rfl) (fun c17 => ?_) (fun c17 => ?_) | refine wc_b (hF.ev rfl) (fun c17 => ?_) (fun c17 => ?_)
  ·
    refine wp_seq_k fun K6 hK6 => ?_
    refine wp_region_lit ?_
    refine wl hF rfl rfl rfl (r_assign ec) ?_; clear hF a; intro a hF
    refine wl_nil ?_
    refine hK6 _ _ ?_
    refine wp_ret ?_
    try simp only [Exit.then, Exit.inBlock, ↓reduceIte]
    exact ret1 rfl hF rfl ⟨rfl, hS.old⟩
  ·
    refine wp_skip ?_
    refine hK4 _ _ ?_
    refine wp_seq_k fun K7 hK7 => ?_
    refine wp_region_lit ?_
    refine wl hF rfl rfl rfl (r_loadn ag27 (hF.ev rfl) (hS.box_rd (i := 0) rfl) sz27) ?_; clear hF a; intro a hF
    refine wl_mk hF hS rfl rfl rfl (r_call1 en29 (hF.ev rfl)) (toState_c (hS.k hm) (by omega)) ?_; clear hF a; rintro vs20 w3 a hS_ hF; replace hS := hS_; clear hS_; dsimp only [List.cons_append, List.nil_append] at hS
    refine wl hF rfl rfl rfl (r_move (hF.ev rfl)) ?_; clear hF a; intro a hF
    refine wl hF rfl rfl rfl (r_move (hF.ev rfl)) ?_; clear hF a; intro a hF
    refine wl_call hF rfl rfl rfl (r_call3 en42 (hF.ev rfl) (hF.ev rfl) (hF.ev rfl)) (specLoadField_c (hS.part_k (i := 0) rfl) hw (by omega) hp hf) ?_; clear hF a; rintro v w4 a ⟨rfl, hB_⟩ hF; replace hS := hS.ext hB_; clear hB_
    refine wl hF rfl rfl rfl (r_move (hF.ev rfl)) ?_; clear hF a; intro a hF
    refine wl hF rfl rfl rfl (r_extract (hF.ev rfl) rfl) ?_; clear hF a; intro a hF
    refine wl hF rfl rfl rfl (r_extract (hF.ev rfl) rfl) ?_; clear hF a; intro a hF
    refine wl hF rfl rfl rfl (r_assign (hF.ev rfl)) ?_; clear hF a; intro a hF
    refine wl hF rfl rfl rfl (r_assign (hF.ev rfl)) ?_; clear hF a; intro a hF
    refine wl_nil ?_
    refine hK7 _ _ ?_
    refine wp_seq_k fun K8 hK8 => ?_
    refine wp_region_lit ?_
    refine wl hF rfl rfl rfl (r_loadn ag27 (hF.ev rfl) (hS.box_rd (i := 1) rfl) sz27) ?_; clear hF a; intro a hF
    refine wl_mk hF hS rfl rfl rfl (r_call1 en29 (hF.ev rfl)) (toState_c (hS.k hm) (by omega)) ?_; clear hF a; rintro vs27 w5 a hS_ hF; replace hS := hS_; clear hS_; dsimp only [List.cons_append, List.nil_append] at hS
    refine wl_alloc hF hS rfl zr37 ?_; clear hF a; intro g2 w6 a hS_ hB_ hF; replace hS := hS_; clear hS_ hB_
    refine wl_storew hF hS (i := 0) rfl (hF.ev rfl) (hF.ev rfl) sz37 rfl rfl ?_; intro w7 hS_; replace hS := hS_; clear hS_; dsimp only [List.set, Nat.reduceAdd] at hS
    refine wl_nil ?_
    refine hK8 _ _ ?_
    refine wp_seq_k fun K9 hK9 => ?_
    refine wp_region_lit ?_
    refine wl hF rfl rfl rfl (r_loadn ag37 (hF.ev rfl) (hS.box_rd (i := 0) rfl) sz37) ?_; clear hF a; intro a hF
    refine wl hF rfl rfl rfl (r_move (hF.ev rfl)) ?_; clear hF a; intro a hF
    refine wl hF rfl rfl rfl (r_move (hF.ev rfl)) ?_; clear hF a; intro a hF
    refine wl_call hF rfl rfl rfl (r_call3 en43 (hF.ev rfl) (hF.ev rfl) (hF.ev rfl)) (implLoadField_c (hS.part_k (i := 1) rfl) hw (by omega) hp hf) ?_; clear hF a; rintro v w8 a ⟨rfl, hB_⟩ hF; replace hS := hS.ext hB_; clear hB_
    refine wl hF rfl rfl rfl (r_move (hF.ev rfl)) ?_; clear hF a; intro a hF
    refine wl hF rfl rfl rfl (r_extract (hF.ev rfl) rfl) ?_; clear hF a; intro a hF
    refine wl hF rfl rfl rfl (r_extract (hF.ev rfl) rfl) ?_; clear hF a; intro a hF
    refine wl hF rfl rfl rfl (r_assign (hF.ev rfl)) ?_; clear hF a; intro a hF
    refine wl hF rfl rfl rfl (r_assign (hF.ev rfl)) ?_; clear hF a; intro a hF
    refine wl_nil ?_
    refine hK9 _ _ ?_
    refine wp_seq_k fun K10 hK10 => ?_
    refine wp_seq_k fun K11 hK11 => ?_
    refine wp_region_lit ?_
    refine wl hF rfl rfl rfl (r_move (hF.ev rfl)) ?_; clear hF a; intro a hF
    refine wl hF rfl rfl rfl (r_move (hF.ev rfl)) ?_; clear hF a; intro a hF
    refine wl hF rfl rfl rfl (r_neq (hF.ev rfl) (hF.ev rfl)) ?_; clear hF a; intro a hF
    refine wl hF rfl rfl rfl (r_move (hF.ev rfl)) ?_; clear hF a; intro a hF
    revert hF; intro hF0; refine bsplit (t := 38) hF0 rfl (fun b38 hF => ?_) (fun b38 hF => ?_)
    · exfalso; clear hF hF0; try simp only [decide_eq_true_eq, decide_eq_false_iff_not, Bool.not_eq_true', Bool.not_eq_false'] at b38
      first | omega | exact (b38 rfl).elim | (simp_all; done)
    clear hF0
    refine wl_take hF rfl rfl rfl rfl ?_
    refine wl hF rfl rfl rfl (r_move (hF.ev rfl)) ?_; clear hF a; intro a hF
    refine wl_take hF rfl rfl rfl rfl ?_
    refine wl hF rfl rfl rfl (r_move (hF.ev rfl)) ?_; clear hF a; intro a hF
    refine wl_take hF rfl rfl rfl rfl ?_
    refine wl hF rfl rfl rfl (r_neqb bl4 (hF.ev rfl) (hF.ev rfl)) ?_; clear hF a; intro a hF
    refine wl hF rfl rfl rfl (r_pick_f (hF.ev rfl) (hF.ev rfl)) ?_; clear hF a; intro a hF
    refine wl_nil ?_
    refine hK11 _ _ ?_
    first | refine wc_dec (hF.ev rfl) (fun c42 => ?_) (fun c42 => ?_) | refine wc_ndec (hF.ev rfl) (fun c42 => ?_) (fun c42 => ?_) | refine wc_b (hF.ev rfl) (fun c42 => ?_) (fun c42 => ?_)
    · exfalso; first | omega | exact (c42 rfl).elim | (simp_all; done)
    refine wp_skip ?_
    refine hK10 _ _ ?_
    refine wp_seq_k fun K12 hK12 => ?_
    refine wp_seq_k fun K13 hK13 => ?_
    refine wp_region_todo (is := [0, 1, 2, 3, 4]) [] [] (by kernel_rfl) hF hS ⟨trivial, by decide, by decide, by decide⟩ (by kernel_rfl) ?_; clear hF; intro hl_ wd hSd
    refine todo_quiet hl_ (by kernel_rfl) rfl rfl rfl rfl rfl (fun a w_ hF hB_ => r_loadn ag37 (hF.ev rfl) ((hSd.ext hB_).box_rd (i := 0) rfl) sz37) ?_
    refine todo_quiet hl_ (by kernel_rfl) rfl rfl rfl rfl rfl (fun a w_ hF hB_ => r_loadn ag27 (hF.ev rfl) ((hSd.ext hB_).box_rd (i := 3) rfl) sz27) ?_
    refine todo_mk hl_ rfl (by kernel_rfl) rfl rfl rfl rfl rfl (fun a w_ hF => r_call1 en29 (hF.ev rfl)) (fun w_ hS => toState_c (hS.k hm) (by omega)) ?_; rintro vs45
    refine todo_rd hl_ rfl (by kernel_rfl) rfl rfl rfl rfl rfl (fun a w_ hF => r_call2 en31 (hF.ev rfl) (hF.ev rfl)) (fun w_ hS => eqState_same (hS.part_k (i := 2) rfl) (hS.part_k (i := 0) rfl)) ?_
    refine todo_pure hl_ (by kernel_rfl) rfl rfl rfl rfl rfl (fun a w_ hF => r_not (hF.ev rfl)) ?_
    refine todo_fin hl_ rfl (by kernel_rfl) (tl := []) rfl ?_; clear hS a; intro a w9 hF hA_
    have hS := hA_.sep; clear hA_
    clear hl_; try clear hSd; try clear wd
    try dsimp only [List.cons_append, List.nil_append, List.set] at hS
    refine wl_nil ⟨rfl, ?_⟩
    refine hK13 _ _ ?_
    refine wc_false (hF.ev rfl) ?_
    refine wp_skip ?_
    refine hK12 _ _ ?_
    refine wp_seq_k fun K14 hK14 => ?_
    refine wp_region_lit ?_
    refine wl hF rfl rfl rfl (r_assign ec) ?_; clear hF a; intro a hF
    refine wl_nil ?_
    refine hK14 _ _ ?_
    refine wp_ret ?_
    try simp only [Exit.then, Exit.inBlock, ↓reduceIte]
    exact ret1 rfl hF rfl ⟨rfl, hS.old⟩

set_option maxHeartbeats 4000000 in
set_option maxRecDepth 20000 in
theorem law_FnExactRefusalOf {W : World} {s : Sl.State} {cs : List Value} (hm : stateEK.K W s cs) (hw : s.wf) {p : Int} {o : Sl.Op} (hp : int64 p) : Calls Try.prog 12 #[.agg cs.toArray, vi p, .agg o.enc.toArray] W (Ret fun v w' => v = .bool true ∧ Below W.heap.size W w') := by
  refine calls_fr Try.func12 rfl Try.ntmps12 rfl ?_
  intro a hF
  have hS := Sep.refl W
  obtain ⟨v0, v1, v2, rfl, r0, r1, r2⟩ := hm
  have hm : stateEK.K W s (s.encv v0 v1 v2) := ⟨_, _, _, rfl, r0, r1, r2⟩
  refine wp_seq_k fun K1 hK1 => ?_
  refine wp_region_lit ?_
  refine wl_box (cs := [_, _, _, _, _, _, _, _, _, _, _, _, _]) hF hS rfl (hF.ev rfl) rfl ?_; clear hF a; intro g1 w1 a hS_ hB_ hF; replace hS := hS_; clear hS_ hB_
  refine wl_box (cs := [_, _, _]) hF hS rfl (hF.ev rfl) rfl ?_; clear hF a; intro g2 w2 a hS_ hB_ hF; replace hS := hS_; clear hS_ hB_
  refine wl hF rfl rfl rfl (r_assign ec) ?_; clear hF a; intro a hF
  refine wl_nil ?_
  refine hK1 _ _ ?_
  refine wp_seq_k fun K2 hK2 => ?_
  refine wp_region_lit ?_
  refine wl hF rfl rfl rfl (r_assign ec) ?_; clear hF a; intro a hF
  refine wl_nil ?_
  refine hK2 _ _ ?_
  refine wp_seq_k fun K3 hK3 => ?_
  refine wp_region_lit ?_
  refine wl hF rfl rfl rfl (r_loadn ag27 (hF.ev rfl) (hS.box_rd (i := 1) rfl) sz27) ?_; clear hF a; intro a hF
  refine wl hF rfl rfl rfl (r_move (hF.ev rfl)) ?_; clear hF a; intro a hF
  refine wl_call hF rfl rfl rfl (r_call2 en27 (hF.ev rfl) (hF.ev rfl)) (szState_c (hS.k hm) (by omega) (by omega)) ?_; clear hF a; rintro v w3 a ⟨⟨r13, rfl, e1_13, e2_13, e3_13⟩, hB_⟩ hF; replace hS := hS.ext hB_; clear hB_
  refine wl hF rfl rfl rfl (r_assign (hF.ev rfl)) ?_; clear hF a; intro a hF
  refine wl_nil ?_
  refine hK3 _ _ ?_
  refine wp_seq_k fun K4 hK4 => ?_
  refine wp_seq_k fun K5 hK5 => ?_
  refine wp_region_lit ?_
  refine wl hF rfl rfl rfl (r_move (hF.ev rfl)) ?_; clear hF a; intro a hF
  refine wl hF rfl rfl rfl (r_lss (hF.ev rfl) ec) ?_; clear hF a; intro a hF
  refine wl_nil ?_
  refine hK5 _ _ ?_
  first | refine wc_dec (hF.ev rfl) (fun c15 => ?_) (fun c15 => ?_) | refine wc_ndec (hF.ev rfl) (fun c15 => ?_) (fun c15 => ?_) | refine wc_b (hF.ev rfl) (fun c15 => ?_) (fun c15 => ?_)
  ·
    refine wp_seq_k fun K6 hK6 => ?_
    refine wp_region_lit ?_
    refine wl hF rfl rfl rfl (r_assign ec) ?_; clear hF a; intro a hF
    refine wl_nil ?_
    refine hK6 _ _ ?_
    refine wp_ret ?_
    try simp only [Exit.then, Exit.inBlock, ↓reduceIte]
    exact ret1 rfl hF rfl ⟨rfl, hS.old⟩
  ·
    refine wp_skip ?_
    refine hK4 _ _ ?_
    refine wp_seq_k fun K7 hK7 => ?_
    refine wp_region_todo (is := [0, 2, 3, 1, 4, 5, 6]) [] [] (by kernel_rfl) hF hS ⟨trivial, by decide, by decide, by decide⟩ (by kernel_rfl) ?_; clear hF; intro hl_ wd hSd
    refine todo_quiet hl_ (by kernel_rfl) rfl rfl rfl rfl rfl (fun a w_ hF hB_ => r_loadn ag27 (hF.ev rfl) ((hSd.ext hB_).box_rd (i := 1) rfl) sz27) ?_
    refine todo_pure hl_ (by kernel_rfl) rfl rfl rfl rfl rfl (fun a w_ hF => r_move (hF.ev rfl)) ?_
    refine todo_quiet hl_ (by kernel_rfl) rfl rfl rfl rfl rfl (fun a w_ hF hB_ => r_loadn ag57 (hF.ev rfl) ((hSd.ext hB_).box_rd (i := 0) rfl) sz57) ?_
    refine todo_mk hl_ rfl (by kernel_rfl) rfl rfl rfl rfl rfl (fun a w_ hF => r_call1 en29 (hF.ev rfl)) (fun w_ hS => toState_c (hS.k hm) (by omega)) ?_; rintro vs17
    refine todo_rd hl_ rfl (by kernel_rfl) rfl rfl rfl rfl rfl (fun a w_ hF => r_call1 en47 (hF.ev rfl)) (fun w_ hS => toOp_c _) ?_
    refine todo_rd hl_ rfl (by kernel_rfl) rfl rfl rfl rfl rfl (fun a w_ hF => r_call3 en46 (hF.ev rfl) (hF.ev rfl) (hF.ev rfl)) (fun w_ hS => specRefusal_c (hS.part_k (i := 0) rfl) hw (by omega) hp) ?_
    refine todo_pure hl_ (by kernel_rfl) rfl rfl rfl rfl rfl (fun a w_ hF => r_assign (hF.ev rfl)) ?_
    refine todo_fin hl_ rfl (by kernel_rfl) (tl := []) rfl ?_; clear hS a; intro a w4 hF hA_
    have hS := hA_.sep; clear hA_
    clear hl_; try clear hSd; try clear wd
    try dsimp only [List.cons_append, List.nil_append, List.set] at hS
    refine wl_nil ⟨rfl, ?_⟩
    refine hK7 _ _ ?_
    refine wp_seq_k fun K8 hK8 => ?_
    refine wp_region_lit ?_
    refine wl hF rfl rfl rfl (r_loadn ag27 (hF.ev rfl) (hS.box_rd (i := 2) rfl) sz27) ?_; clear hF a; intro a hF
    refine wl_mk hF hS rfl rfl rfl (r_call1 en29 (hF.ev rfl)) (toState_c (hS.k hm) (by omega)) ?_; clear hF a; rintro vs23 w5 a hS_ hF; replace hS := hS_; clear hS_; dsimp only [List.cons_append, List.nil_append] at hS
    refine wl_alloc hF hS rfl zr37 ?_; clear hF a; intro g3 w6 a hS_ hB_ hF; replace hS := hS_; clear hS_ hB_
    refine wl_storew hF hS (i := 0) rfl (hF.ev rfl) (hF.ev rfl) sz37 rfl rfl ?_; intro w7 hS_; replace hS := hS_; clear hS_; dsimp only [List.set, Nat.reduceAdd] at hS
    refine wl_nil ?_
    refine hK8 _ _ ?_
    refine wp_seq_k fun K9 hK9 => ?_
    refine wp_region_calm (by kernel_rfl) (by kernel_rfl) ?_
    refine wq hF rfl rfl rfl (fun w_ hB_ => r_loadn ag37 (hF.ev rfl) ((hS.ext hB_).box_rd (i := 0) rfl) sz37) ?_; clear hF a; intro a hF
    refine wq hF rfl rfl rfl (fun w_ hB_ => r_move (hF.ev rfl)) ?_; clear hF a; intro a hF
    refine wq hF rfl rfl rfl (fun w_ hB_ => r_loadn ag57 (hF.ev rfl) ((hS.ext hB_).box_rd (i := 3) rfl) sz57) ?_; clear hF a; intro a hF
    refine wq_call hF rfl rfl rfl (fun w_ hB_ => r_call1 en47 (hF.ev rfl)) (fun w_ hB_ => toOp_c _) ?_; clear hF a; intro a hF
    refine wq_call hF rfl rfl rfl (fun w_ hB_ => r_call3 en48 (hF.ev rfl) (hF.ev rfl) (hF.ev rfl)) (fun w_ hB_ => implRefusal_c ((hS.ext hB_).part_k (i := 1) rfl) hw (by omega) hp) ?_; clear hF a; intro a hF
    refine wq hF rfl rfl rfl (fun w_ hB_ => r_assign (hF.ev rfl)) ?_; clear hF a; intro a hF
    refine wpQuiet_nil ?_; intro w8 hB_; replace hS := hS.ext hB_; clear hB_
    refine hK9 _ _ ?_
    refine wp_seq_k fun K10 hK10 => ?_
    refine wp_seq_k fun K11 hK11 => ?_
    refine wp_region_lit ?_
    refine wl hF rfl rfl rfl (r_move (hF.ev rfl)) ?_; clear hF a; intro a hF
    refine wl hF rfl rfl rfl (r_move (hF.ev rfl)) ?_; clear hF a; intro a hF
    refine wl hF rfl rfl rfl (r_neq (hF.ev rfl) (hF.ev rfl)) ?_; clear hF a; intro a hF
    refine wl_nil ?_
    refine hK11 _ _ ?_
    first | refine wc_dec (hF.ev rfl) (fun c31 => ?_) (fun c31 => ?_) | refine wc_ndec (hF.ev rfl) (fun c31 => ?_) (fun c31 => ?_) | refine wc_b (hF.ev rfl) (fun c31 => ?_) (fun c31 => ?_)
    · exfalso; first | omega | exact (c31 rfl).elim | (simp_all; done)
    refine wp_skip ?_
    refine hK10 _ _ ?_
    refine wp_seq_k fun K12 hK12 => ?_
    refine wp_seq_k fun K13 hK13 => ?_
    refine wp_region_todo (is := [0, 1, 2, 3, 4]) [] [] (by kernel_rfl) hF hS ⟨trivial, by decide, by decide, by decide⟩ (by kernel_rfl) ?_; clear hF; intro hl_ wd hSd
    refine todo_quiet hl_ (by kernel_rfl) rfl rfl rfl rfl rfl (fun a w_ hF hB_ => r_loadn ag37 (hF.ev rfl) ((hSd.ext hB_).box_rd (i := 0) rfl) sz37) ?_
    refine todo_quiet hl_ (by kernel_rfl) rfl rfl rfl rfl rfl (fun a w_ hF hB_ => r_loadn ag27 (hF.ev rfl) ((hSd.ext hB_).box_rd (i := 4) rfl) sz27) ?_
    refine todo_mk hl_ rfl (by kernel_rfl) rfl rfl rfl rfl rfl (fun a w_ hF => r_call1 en29 (hF.ev rfl)) (fun w_ hS => toState_c (hS.k hm) (by omega)) ?_; rintro vs34
    refine todo_rd hl_ rfl (by kernel_rfl) rfl rfl rfl rfl rfl (fun a w_ hF => r_call2 en31 (hF.ev rfl) (hF.ev rfl)) (fun w_ hS => eqState_same (hS.part_k (i := 2) rfl) (hS.part_k (i := 0) rfl)) ?_
    refine todo_pure hl_ (by kernel_rfl) rfl rfl rfl rfl rfl (fun a w_ hF => r_not (hF.ev rfl)) ?_
    refine todo_fin hl_ rfl (by kernel_rfl) (tl := []) rfl ?_; clear hS a; intro a w9 hF hA_
    have hS := hA_.sep; clear hA_
    clear hl_; try clear hSd; try clear wd
    try dsimp only [List.cons_append, List.nil_append, List.set] at hS
    refine wl_nil ⟨rfl, ?_⟩
    refine hK13 _ _ ?_
    refine wc_false (hF.ev rfl) ?_
    refine wp_skip ?_
    refine hK12 _ _ ?_
    refine wp_seq_k fun K14 hK14 => ?_
    refine wp_region_lit ?_
    refine wl hF rfl rfl rfl (r_assign ec) ?_; clear hF a; intro a hF
    refine wl_nil ?_
    refine hK14 _ _ ?_
    refine wp_ret ?_
    try simp only [Exit.then, Exit.inBlock, ↓reduceIte]
    exact ret1 rfl hF rfl ⟨rfl, hS.old⟩

set_option maxHeartbeats 4000000 in
set_option maxRecDepth 20000 in
theorem law_FnExactWalkKey {W : World} {s : Sl.State} {cs : List Value} (hm : stateEK.K W s cs) (hw : s.wf) {p : Int} (hp : int64 p) : Calls Try.prog 11 #[.agg cs.toArray, vi p] W (Ret fun v w' => v = .bool true ∧ Below W.heap.size W w') := by
  refine calls_fr Try.func11 rfl Try.ntmps11 rfl ?_
  intro a hF
  have hS := Sep.refl W
  obtain ⟨v0, v1, v2, rfl, r0, r1, r2⟩ := hm
  have hm : stateEK.K W s (s.encv v0 v1 v2) := ⟨_, _, _, rfl, r0, r1, r2⟩
  refine wp_seq_k fun K1 hK1 => ?_
  refine wp_region_lit ?_
  refine wl_box (cs := [_, _, _, _, _, _, _, _, _, _, _, _, _]) hF hS rfl (hF.ev rfl) rfl ?_; clear hF a; intro g1 w1 a hS_ hB_ hF; replace hS := hS_; clear hS_ hB_
  refine wl hF rfl rfl rfl (r_assign ec) ?_; clear hF a; intro a hF
  refine wl_nil ?_
  refine hK1 _ _ ?_
  refine wp_seq_k fun K2 hK2 => ?_
  refine wp_region_lit ?_
  refine wl hF rfl rfl rfl (r_assign ec) ?_; clear hF a; intro a hF
  refine wl_nil ?_
  refine hK2 _ _ ?_
  refine wp_seq_k fun K3 hK3 => ?_
  refine wp_region_lit ?_
  refine wl hF rfl rfl rfl (r_loadn ag27 (hF.ev rfl) (hS.box_rd (i := 0) rfl) sz27) ?_; clear hF a; intro a hF
  refine wl hF rfl rfl rfl (r_move (hF.ev rfl)) ?_; clear hF a; intro a hF
  refine wl_call hF rfl rfl rfl (r_call2 en27 (hF.ev rfl) (hF.ev rfl)) (szState_c (hS.k hm) (by omega) (by omega)) ?_; clear hF a; rintro v w2 a ⟨⟨r11, rfl, e1_11, e2_11, e3_11⟩, hB_⟩ hF; replace hS := hS.ext hB_; clear hB_
  refine wl hF rfl rfl rfl (r_assign (hF.ev rfl)) ?_; clear hF a; intro a hF
  refine wl_nil ?_
  refine hK3 _ _ ?_
  refine wp_seq_k fun K4 hK4 => ?_
  refine wp_seq_k fun K5 hK5 => ?_
  refine wp_region_lit ?_
  refine wl hF rfl rfl rfl (r_move (hF.ev rfl)) ?_; clear hF a; intro a hF
  refine wl hF rfl rfl rfl (r_lss (hF.ev rfl) ec) ?_; clear hF a; intro a hF
  refine wl_nil ?_
  refine hK5 _ _ ?_
  first | refine wc_dec (hF.ev rfl) (fun c13 => ?_) (fun c13 => ?_) | refine wc_ndec (hF.ev rfl) (fun c13 => ?_) (fun c13 => ?_) | refine wc_b (hF.ev rfl) (fun c13 => ?_) (fun c13 => ?_)
  ·
    refine wp_seq_k fun K6 hK6 => ?_
    refine wp_region_lit ?_
    refine wl hF rfl rfl rfl (r_assign ec) ?_; clear hF a; intro a hF
    refine wl_nil ?_
    refine hK6 _ _ ?_
    refine wp_ret ?_
    try simp only [Exit.then, Exit.inBlock, ↓reduceIte]
    exact ret1 rfl hF rfl ⟨rfl, hS.old⟩
  ·
    refine wp_skip ?_
    refine hK4 _ _ ?_
    refine wp_seq_k fun K7 hK7 => ?_
    refine wp_region_lit ?_
    refine wl hF rfl rfl rfl (r_loadn ag27 (hF.ev rfl) (hS.box_rd (i := 0) rfl) sz27) ?_; clear hF a; intro a hF
    refine wl_mk hF hS rfl rfl rfl (r_call1 en29 (hF.ev rfl)) (toState_c (hS.k hm) (by omega)) ?_; clear hF a; rintro vs15 w3 a hS_ hF; replace hS := hS_; clear hS_; dsimp only [List.cons_append, List.nil_append] at hS
    refine wl hF rfl rfl rfl (r_move (hF.ev rfl)) ?_; clear hF a; intro a hF
    refine wl_call hF rfl rfl rfl (r_call2 en44 (hF.ev rfl) (hF.ev rfl)) (specWalkKey_c (hS.part_k (i := 0) rfl) hw (by omega) hp) ?_; clear hF a; rintro v w4 a ⟨rfl, hB_⟩ hF; replace hS := hS.ext hB_; clear hB_
    refine wl hF rfl rfl rfl (r_assign (hF.ev rfl)) ?_; clear hF a; intro a hF
    refine wl_nil ?_
    refine hK7 _ _ ?_
    refine wp_seq_k fun K8 hK8 => ?_
    refine wp_region_lit ?_
    refine wl hF rfl rfl rfl (r_loadn ag27 (hF.ev rfl) (hS.box_rd (i := 1) rfl) sz27) ?_; clear hF a; intro a hF
    refine wl_mk hF hS rfl rfl rfl (r_call1 en29 (hF.ev rfl)) (toState_c (hS.k hm) (by omega)) ?_; clear hF a; rintro vs19 w5 a hS_ hF; replace hS := hS_; clear hS_; dsimp only [List.cons_append, List.nil_append] at hS
    refine wl_alloc hF hS rfl zr37 ?_; clear hF a; intro g2 w6 a hS_ hB_ hF; replace hS := hS_; clear hS_ hB_
    refine wl_storew hF hS (i := 0) rfl (hF.ev rfl) (hF.ev rfl) sz37 rfl rfl ?_; intro w7 hS_; replace hS := hS_; clear hS_; dsimp only [List.set, Nat.reduceAdd] at hS
    refine wl_nil ?_
    refine hK8 _ _ ?_
    refine wp_seq_k fun K9 hK9 => ?_
    refine wp_region_lit ?_
    refine wl hF rfl rfl rfl (r_loadn ag37 (hF.ev rfl) (hS.box_rd (i := 0) rfl) sz37) ?_; clear hF a; intro a hF
    refine wl hF rfl rfl rfl (r_move (hF.ev rfl)) ?_; clear hF a; intro a hF
    refine wl_call hF rfl rfl rfl (r_call2 en45 (hF.ev rfl) (hF.ev rfl)) (implWalkKey_c (hS.part_k (i := 1) rfl) hw (by omega) hp) ?_; clear hF a; rintro v w8 a ⟨rfl, hB_⟩ hF; replace hS := hS.ext hB_; clear hB_
    refine wl hF rfl rfl rfl (r_assign (hF.ev rfl)) ?_; clear hF a; intro a hF
    refine wl_nil ?_
    refine hK9 _ _ ?_
    refine wp_seq_k fun K10 hK10 => ?_
    refine wp_seq_k fun K11 hK11 => ?_
    refine wp_region_lit ?_
    refine wl hF rfl rfl rfl (r_move (hF.ev rfl)) ?_; clear hF a; intro a hF
    refine wl hF rfl rfl rfl (r_move (hF.ev rfl)) ?_; clear hF a; intro a hF
    refine wl hF rfl rfl rfl (r_neq (hF.ev rfl) (hF.ev rfl)) ?_; clear hF a; intro a hF
    refine wl_nil ?_
    refine hK11 _ _ ?_
    first | refine wc_dec (hF.ev rfl) (fun c25 => ?_) (fun c25 => ?_) | refine wc_ndec (hF.ev rfl) (fun c25 => ?_) (fun c25 => ?_) | refine wc_b (hF.ev rfl) (fun c25 => ?_) (fun c25 => ?_)
    · exfalso; first | omega | exact (c25 rfl).elim | (simp_all; done)
    refine wp_skip ?_
    refine hK10 _ _ ?_
    refine wp_seq_k fun K12 hK12 => ?_
    refine wp_seq_k fun K13 hK13 => ?_
    refine wp_region_todo (is := [0, 1, 2, 3, 4]) [] [] (by kernel_rfl) hF hS ⟨trivial, by decide, by decide, by decide⟩ (by kernel_rfl) ?_; clear hF; intro hl_ wd hSd
    refine todo_quiet hl_ (by kernel_rfl) rfl rfl rfl rfl rfl (fun a w_ hF hB_ => r_loadn ag37 (hF.ev rfl) ((hSd.ext hB_).box_rd (i := 0) rfl) sz37) ?_
    refine todo_quiet hl_ (by kernel_rfl) rfl rfl rfl rfl rfl (fun a w_ hF hB_ => r_loadn ag27 (hF.ev rfl) ((hSd.ext hB_).box_rd (i := 3) rfl) sz27) ?_
    refine todo_mk hl_ rfl (by kernel_rfl) rfl rfl rfl rfl rfl (fun a w_ hF => r_call1 en29 (hF.ev rfl)) (fun w_ hS => toState_c (hS.k hm) (by omega)) ?_; rintro vs28
    refine todo_rd hl_ rfl (by kernel_rfl) rfl rfl rfl rfl rfl (fun a w_ hF => r_call2 en31 (hF.ev rfl) (hF.ev rfl)) (fun w_ hS => eqState_same (hS.part_k (i := 2) rfl) (hS.part_k (i := 0) rfl)) ?_
    refine todo_pure hl_ (by kernel_rfl) rfl rfl rfl rfl rfl (fun a w_ hF => r_not (hF.ev rfl)) ?_
    refine todo_fin hl_ rfl (by kernel_rfl) (tl := []) rfl ?_; clear hS a; intro a w9 hF hA_
    have hS := hA_.sep; clear hA_
    clear hl_; try clear hSd; try clear wd
    try dsimp only [List.cons_append, List.nil_append, List.set] at hS
    refine wl_nil ⟨rfl, ?_⟩
    refine hK13 _ _ ?_
    refine wc_false (hF.ev rfl) ?_
    refine wp_skip ?_
    refine hK12 _ _ ?_
    refine wp_seq_k fun K14 hK14 => ?_
    refine wp_region_lit ?_
    refine wl hF rfl rfl rfl (r_assign ec) ?_; clear hF a; intro a hF
    refine wl_nil ?_
    refine hK14 _ _ ?_
    refine wp_ret ?_
    try simp only [Exit.then, Exit.inBlock, ↓reduceIte]
    exact ret1 rfl hF rfl ⟨rfl, hS.old⟩

end Go.Proofs.Ythjeeimdgejlhaa.Wk
