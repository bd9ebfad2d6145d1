/- Walks: the law on StepBegin. -/
import Derived.Test.YtifhfodphoeeoaaGreatChecked
import Derived.Test.YtifhfodphoeeoaaGreatWkBi
import Derived.Test.YtifhfodphoeeoaaGreatWkLg
import Derived.Test.YtifhfodphoeeoaaGreatWkMs
import Derived.Test.YtifhfodphoeeoaaGreatFactsD
namespace Go.Proofs.YtifhfodphoeeoaaGreat.Wk
open Go Go.RowKit Sl
set_option linter.unusedVariables false
set_option linter.unusedSimpArgs false
set_option maxRecDepth 20000

theorem beginS_size (s : Sl.State) (t : Sl.Thread) (p : Int) : ((beginS s t p).1.cells.length = s.cells.length ∧ (beginS s t p).1.generations.length = s.generations.length) ∧ (beginS s t p).2.size ≤ t.size + 0 := by
  unfold beginS
  repeat' split
  all_goals (refine ⟨⟨?_, rfl⟩, ?_⟩)
  all_goals first | rfl | exact Nat.le_refl _ | exact endT_size | exact putC_len | (unfold swapS; dsimp only; split <;> first | rfl | exact putC_len)

set_option maxHeartbeats 4000000 in
set_option maxRecDepth 20000 in
theorem law_FnExactStepBegin {W : World} {s : Sl.State} {cs : List Value} (hm : stateEK.K W s cs) (hw : s.wf) {p : Int} (hp : int64 p) : Calls Tryz.prog 3 #[.agg cs.toArray, vi p] W (Ret fun v w' => v = .bool true ∧ Below W.heap.size W w') := by
  refine calls_fr Tryz.func3 rfl Tryz.ntmps3 rfl ?_
  intro a hF
  have hS := Sep.refl W
  obtain ⟨v0, v1, v2, rfl, r0, r1, r2⟩ := hm
  have hm : stateEK.K W s (s.encv v0 v1 v2) := ⟨_, _, _, rfl, r0, r1, r2⟩
  have hcs := state_cnt s
  have hsz_ := stepOf_size (isf := isB) (f := beginS) (s := s) (p := p) 0 beginS_size
  have hcs_ := state_cnt s
  have hcn_ := state_cnt (stepOf isB beginS s p).1
  refine ws fun K1 hK1 => ?_
  refine wl_box (cs := [_, _, _, _, _, _, _, _, _, _, _, _, _]) hF hS rfl (hF.ev rfl) rfl ?_; clear hF a; intro g1 w1 a hS_ hB_ hF; replace hS := hS_; clear hS_ hB_
  refine wl_mvs (A := [_]) hF rfl ?_; clear hF a; intro a hF
  refine wl_nil (hK1 _ _ ?_)
  refine ws fun K2 hK2 => ?_
  refine wl_mvs (A := [_]) hF rfl ?_; clear hF a; intro a hF
  refine wl_nil (hK2 _ _ ?_)
  refine ws fun K3 hK3 => ?_
  refine wl hF rfl rfl rfl (r_loadn ag27 (hF.ev rfl) (hS.box_rd (i := 0) rfl) sz27) ?_; clear hF a; intro a hF
  refine wl_mvs (A := [_]) hF rfl ?_; clear hF a; intro a hF
  refine wl_call hF rfl rfl rfl (r_call2 en9 (hF.ev rfl) (hF.ev rfl)) (szState_c (hS.k hm) (by omega) (by omega)) ?_; clear hF a; rintro v w2 a ⟨⟨r18, rfl, e1_18, e2_18, e3_18⟩, hB_⟩ hF; replace hS := hS.ext hB_; clear hB_
  refine wl_mvs (A := [_]) hF rfl ?_; clear hF a; intro a hF
  refine wl_nil (hK3 _ _ ?_)
  refine wp_seq_k fun K4 hK4 => ?_
  refine ws fun K5 hK5 => ?_
  refine wl_mvs (A := [_]) hF rfl ?_; clear hF a; intro a hF
  refine wl hF rfl rfl rfl (r_lss (hF.ev rfl) ec) ?_; clear hF a; intro a hF
  refine wl_nil (hK5 _ _ ?_)
  first | refine wc_dec (hF.ev rfl) (fun c20 => ?_) (fun c20 => ?_) | refine wc_ndec (hF.ev rfl) (fun c20 => ?_) (fun c20 => ?_) | refine wc_b (hF.ev rfl) (fun c20 => ?_) (fun c20 => ?_)
  ·
    refine ws fun K6 hK6 => ?_
    refine wl_mvs (A := [_]) hF rfl ?_; clear hF a; intro a hF
    refine wl_nil (hK6 _ _ ?_)
    refine wp_ret ?_
    try simp only [Exit.then, Exit.inBlock, ↓reduceIte]
    exact ret1 rfl hF rfl ⟨rfl, hS.old⟩
  refine wp_skip ?_
  refine hK4 _ _ ?_
  refine ws fun K7 hK7 => ?_
  refine wl hF rfl rfl rfl (r_loadn ag27 (hF.ev rfl) (hS.box_rd (i := 0) rfl) sz27) ?_; clear hF a; intro a hF
  refine wl_mk hF hS rfl rfl rfl (r_call1 en11 (hF.ev rfl)) (toState_c (hS.k hm) (by omega)) ?_; clear hF a; rintro vs23 w3 a hS_ hF; replace hS := hS_; clear hS_; dsimp only [List.cons_append, List.nil_append] at hS
  refine wl_mvs (A := [_]) hF rfl ?_; clear hF a; intro a hF
  refine wl_mk hF hS rfl rfl rfl (r_call2 en10 (hF.ev rfl) (hF.ev rfl)) (specStepBegin_c (hS.part_k (i := 0) rfl) hw (by omega) hp) ?_; clear hF a; rintro vs25 w4 a hS_ hF; replace hS := hS_; clear hS_; dsimp only [List.cons_append, List.nil_append] at hS
  refine wl_mvs (A := [_]) hF rfl ?_; clear hF a; intro a hF
  refine wl hF rfl rfl rfl (r_extract (hF.ev rfl) rfl) ?_; clear hF a; intro a hF
  refine wl hF rfl rfl rfl (r_extract (hF.ev rfl) rfl) ?_; clear hF a; intro a hF
  refine wl_alloc hF hS rfl zr32 ?_; clear hF a; intro g2 w5 a hS_ hB_ hF; replace hS := hS_; clear hS_ hB_
  refine wl_storew hF hS (i := 0) rfl (hF.ev rfl) (hF.ev rfl) sz32 rfl rfl ?_; intro w6 hS_; replace hS := hS_; clear hS_; dsimp only [List.set, Nat.reduceAdd] at hS
  refine wl_mvs (A := [_]) hF rfl ?_; clear hF a; intro a hF
  refine wl_nil (hK7 _ _ ?_)
  refine ws fun K8 hK8 => ?_
  refine wl hF rfl rfl rfl (r_loadn ag27 (hF.ev rfl) (hS.box_rd (i := 3) rfl) sz27) ?_; clear hF a; intro a hF
  refine wl_mk hF hS rfl rfl rfl (r_call1 en11 (hF.ev rfl)) (toState_c (hS.k hm) (by omega)) ?_; clear hF a; rintro vs29 w7 a hS_ hF; replace hS := hS_; clear hS_; dsimp only [List.cons_append, List.nil_append] at hS
  refine wl_alloc hF hS rfl zr32 ?_; clear hF a; intro g3 w8 a hS_ hB_ hF; replace hS := hS_; clear hS_ hB_
  refine wl_storew hF hS (i := 0) rfl (hF.ev rfl) (hF.ev rfl) sz32 rfl rfl ?_; intro w9 hS_; replace hS := hS_; clear hS_; dsimp only [List.set, Nat.reduceAdd] at hS
  refine wl_nil (hK8 _ _ ?_)
  refine ws fun K9 hK9 => ?_
  refine wl hF rfl rfl rfl (r_loadn ag32 (hF.ev rfl) (hS.box_rd (i := 0) rfl) sz32) ?_; clear hF a; intro a hF
  refine wl_mvs (A := [_]) hF rfl ?_; clear hF a; intro a hF
  refine wl_mk hF hS rfl rfl rfl (r_call2 en12 (hF.ev rfl) (hF.ev rfl)) (implStepBegin_c (hS.part_k (i := 1) rfl) hw (by omega) hp) ?_; clear hF a; rintro vs33 w10 a hS_ hF; replace hS := hS_; clear hS_; dsimp only [List.cons_append, List.nil_append] at hS
  refine wl_mvs (A := [_]) hF rfl ?_; clear hF a; intro a hF
  refine wl hF rfl rfl rfl (r_extract (hF.ev rfl) rfl) ?_; clear hF a; intro a hF
  refine wl hF rfl rfl rfl (r_extract (hF.ev rfl) rfl) ?_; clear hF a; intro a hF
  refine wl_alloc hF hS rfl zr32 ?_; clear hF a; intro g4 w11 a hS_ hB_ hF; replace hS := hS_; clear hS_ hB_
  refine wl_storew hF hS (i := 0) rfl (hF.ev rfl) (hF.ev rfl) sz32 rfl rfl ?_; intro w12 hS_; replace hS := hS_; clear hS_; dsimp only [List.set, Nat.reduceAdd] at hS
  refine wl_mvs (A := [_]) hF rfl ?_; clear hF a; intro a hF
  refine wl_nil (hK9 _ _ ?_)
  refine wp_seq_k fun K10 hK10 => ?_
  refine ws fun K11 hK11 => ?_
  refine wl hF rfl rfl rfl (r_loadn ag32 (hF.ev rfl) (hS.box_rd (i := 0) rfl) sz32) ?_; clear hF a; intro a hF
  refine wl hF rfl rfl rfl (r_loadn ag32 (hF.ev rfl) (hS.box_rd (i := 4) rfl) sz32) ?_; clear hF a; intro a hF
  refine wl_call hF rfl rfl rfl (r_call2 en13 (hF.ev rfl) (hF.ev rfl)) (eqState_same (hS.part_k (i := 1) rfl) (hS.part_k (i := 5) rfl)) ?_; clear hF a; rintro v w13 a ⟨rfl, hB_⟩ hF; replace hS := hS.ext hB_; clear hB_
  refine wl hF rfl rfl rfl (r_not (hF.ev rfl)) ?_; clear hF a; intro a hF
  refine wl_mvs (A := [_, _, _]) hF rfl ?_; clear hF a; intro a hF
  refine wl_take hF rfl rfl rfl rfl ?_
  refine wl hF rfl rfl rfl (r_neqb bl4 (hF.ev rfl) (hF.ev rfl)) ?_; clear hF a; intro a hF
  refine wl hF rfl rfl rfl (r_pick_f (hF.ev rfl) (hF.ev rfl)) ?_; clear hF a; intro a hF
  refine wl_nil (hK11 _ _ ?_)
  first | refine wc_dec (hF.ev rfl) (fun c44 => ?_) (fun c44 => ?_) | refine wc_ndec (hF.ev rfl) (fun c44 => ?_) (fun c44 => ?_) | refine wc_b (hF.ev rfl) (fun c44 => ?_) (fun c44 => ?_)
  · exfalso; first | omega | exact (c44 rfl).elim | (simp_all; done)
  refine wp_skip ?_
  refine hK10 _ _ ?_
  refine wp_seq_k fun K12 hK12 => ?_
  refine wp_seq_k fun K13 hK13 => ?_
  refine wp_region_todo (is := [0, 1, 2, 3, 4]) [] [] (by kernel_rfl) hF hS ⟨trivial, by decide, by decide, by decide⟩ (by kernel_rfl) ?_; clear hF; intro hl_ wd hSd
  refine todo_quiet hl_ (by kernel_rfl) rfl rfl rfl rfl rfl (fun a w_ hF hB_ => r_loadn ag32 (hF.ev rfl) ((hSd.ext hB_).box_rd (i := 2) rfl) sz32) ?_
  refine todo_quiet hl_ (by kernel_rfl) rfl rfl rfl rfl rfl (fun a w_ hF hB_ => r_loadn ag27 (hF.ev rfl) ((hSd.ext hB_).box_rd (i := 7) rfl) sz27) ?_
  refine todo_mk hl_ rfl (by kernel_rfl) rfl rfl rfl rfl rfl (fun a w_ hF => r_call1 en11 (hF.ev rfl)) (fun w_ hS => toState_c (hS.k hm) (by omega)) ?_; rintro vs47
  refine todo_rd hl_ rfl (by kernel_rfl) rfl rfl rfl rfl rfl (fun a w_ hF => r_call2 en13 (hF.ev rfl) (hF.ev rfl)) (fun w_ hS => eqState_same (hS.part_k (i := 4) rfl) (hS.part_k (i := 0) rfl)) ?_
  refine todo_pure hl_ (by kernel_rfl) rfl (gw0 rfl) rfl rfl rfl (fun a w_ hF => r_not (hF.ev rfl)) ?_
  refine todo_fin hl_ rfl (by kernel_rfl) (tl := []) rfl ?_; clear hS a; intro a w14 hF hA_
  have hS := hA_.sep; clear hA_
  clear hl_; try clear hSd
  try dsimp only [List.cons_append, List.nil_append, List.set] at hS
  try clear wd
  refine wl_nil ⟨rfl, ?_⟩
  refine hK13 _ _ ?_
  refine wc_false (hF.ev rfl) ?_
  refine wp_skip ?_
  refine hK12 _ _ ?_
  refine ws fun K14 hK14 => ?_
  refine wl_mvs (A := [_]) hF rfl ?_; clear hF a; intro a hF
  refine wl_nil (hK14 _ _ ?_)
  refine ws fun K15 hK15 => ?_
  refine wl hF rfl rfl rfl (r_loadn ag32 (hF.ev rfl) (hS.box_rd (i := 3) rfl) sz32) ?_; clear hF a; intro a hF
  refine wl_mvs (A := [_]) hF rfl ?_; clear hF a; intro a hF
  replace hS := hS.pull (p := 4) rfl; dsimp only [List.eraseIdx] at hS
  refine wl_call hF rfl rfl rfl (r_call2 en14 (hF.ev rfl) (hF.ev rfl)) (markState_c hS (by omega) (by omega)) ?_; clear hF a; rintro v w15 a ⟨rfl, hS_⟩ hF; replace hS := hS_; clear hS_
  refine wl_mvs (A := [_]) hF rfl ?_; clear hF a; intro a hF
  refine wl_nil (hK15 _ _ ?_)
  refine wp_seq_k fun K16 hK16 => ?_
  refine ws fun K17 hK17 => ?_
  refine wl_mvs (A := [_]) hF rfl ?_; clear hF a; intro a hF
  refine wl hF rfl rfl rfl (r_lss (hF.ev rfl) ec) ?_; clear hF a; intro a hF
  refine wl_mvs (A := [_]) hF rfl ?_; clear hF a; intro a hF
  revert hF; intro hF0; refine bsplit (t := 55) hF0 rfl (fun b55 hF => ?_) (fun b55 hF => ?_)
  · exfalso; clear hF hF0; try simp only [decide_eq_true_eq, decide_eq_false_iff_not, Bool.not_eq_true', Bool.not_eq_false'] at b55
    first | omega | exact (b55 rfl).elim | (simp_all; done)
  clear hF0
  refine wl_take hF rfl rfl rfl rfl ?_
  refine wl hF rfl rfl rfl (r_loadn ag32 (hF.ev rfl) (hS.box_rd (i := 2) rfl) sz32) ?_; clear hF a; intro a hF
  refine wl_take hF rfl rfl rfl rfl ?_
  refine wl hF rfl rfl rfl (r_loadn ag32 (hF.ev rfl) (hS.box_rd (i := 5) rfl) sz32) ?_; clear hF a; intro a hF
  refine wl_take hF rfl rfl rfl rfl ?_
  refine wl_call hF rfl rfl rfl (r_call2 en13 (hF.ev rfl) (hF.ev rfl)) (eqState_same (hS.part_k (i := 3) rfl) (hS.part_k (i := 6) rfl)) ?_; clear hF a; rintro v w16 a ⟨rfl, hB_⟩ hF; replace hS := hS.ext hB_; clear hB_
  refine wl_take hF rfl rfl rfl rfl ?_
  refine wl hF rfl rfl rfl (r_not (hF.ev rfl)) ?_; clear hF a; intro a hF
  refine wl hF rfl rfl rfl (r_pick_f (hF.ev rfl) (hF.ev rfl)) ?_; clear hF a; intro a hF
  refine wl_mvs (A := [_, _, _]) hF rfl ?_; clear hF a; intro a hF
  refine wl_take hF rfl rfl rfl rfl ?_
  refine wl hF rfl rfl rfl (r_neqb bl4 (hF.ev rfl) (hF.ev rfl)) ?_; clear hF a; intro a hF
  refine wl hF rfl rfl rfl (r_pick_f (hF.ev rfl) (hF.ev rfl)) ?_; clear hF a; intro a hF
  refine wl_nil (hK17 _ _ ?_)
  first | refine wc_dec (hF.ev rfl) (fun c65 => ?_) (fun c65 => ?_) | refine wc_ndec (hF.ev rfl) (fun c65 => ?_) (fun c65 => ?_) | refine wc_b (hF.ev rfl) (fun c65 => ?_) (fun c65 => ?_)
  · exfalso; first | omega | exact (c65 rfl).elim | (simp_all; done)
  refine wp_skip ?_
  refine hK16 _ _ ?_
  refine ws fun K18 hK18 => ?_
  refine wl_mvs (A := [_]) hF rfl ?_; clear hF a; intro a hF
  refine wl_nil (hK18 _ _ ?_)
  refine ws fun K19 hK19 => ?_
  refine wl hF rfl rfl rfl (r_loadn ag32 (hF.ev rfl) (hS.box_rd (i := 2) rfl) sz32) ?_; clear hF a; intro a hF
  refine wl_mvs (A := [_]) hF rfl ?_; clear hF a; intro a hF
  replace hS := hS.pull (p := 3) rfl; dsimp only [List.eraseIdx] at hS
  refine wl_call hF rfl rfl rfl (r_call2 en14 (hF.ev rfl) (hF.ev rfl)) (markState_c hS (by omega) (by omega)) ?_; clear hF a; rintro v w17 a ⟨rfl, hS_⟩ hF; replace hS := hS_; clear hS_
  refine wl_mvs (A := [_]) hF rfl ?_; clear hF a; intro a hF
  refine wl_nil (hK19 _ _ ?_)
  refine ws fun K20 hK20 => ?_
  refine wl_mvs (A := [_]) hF rfl ?_; clear hF a; intro a hF
  refine wl_nil (hK20 _ _ ?_)
  refine ws fun K21 hK21 => ?_
  refine wl hF rfl rfl rfl (r_loadn ag32 (hF.ev rfl) (hS.box_rd (i := 3) rfl) sz32) ?_; clear hF a; intro a hF
  refine wl_mvs (A := [_]) hF rfl ?_; clear hF a; intro a hF
  refine wl_call hF rfl rfl rfl (r_call2 en15 (hF.ev rfl) (hF.ev rfl)) (heldState_c (s := _) (hS.part_k (i := 0) rfl) (by omega) (by omega)) ?_; clear hF a; rintro v w18 a ⟨rfl, hB_⟩ hF; replace hS := hS.ext hB_; clear hB_
  refine wl_mvs (A := [_]) hF rfl ?_; clear hF a; intro a hF
  refine wl_nil (hK21 _ _ ?_)
  refine wp_seq_k fun K22 hK22 => ?_
  refine ws fun K23 hK23 => ?_
  refine wl_mvs (A := [_]) hF rfl ?_; clear hF a; intro a hF
  refine wl hF rfl rfl rfl (r_lss (hF.ev rfl) ec) ?_; clear hF a; intro a hF
  refine wl_nil (hK23 _ _ ?_)
  first | refine wc_dec (hF.ev rfl) (fun c73 => ?_) (fun c73 => ?_) | refine wc_ndec (hF.ev rfl) (fun c73 => ?_) (fun c73 => ?_) | refine wc_b (hF.ev rfl) (fun c73 => ?_) (fun c73 => ?_)
  · exfalso; first | omega | exact (c73 rfl).elim | (simp_all; done)
  refine wp_skip ?_
  refine hK22 _ _ ?_
  refine wp_seq_k fun K24 hK24 => ?_
  refine ws fun K25 hK25 => ?_
  refine wl_mvs (A := [_, _]) hF rfl ?_; clear hF a; intro a hF
  refine wl hF rfl rfl rfl (r_neq (hF.ev rfl) (hF.ev rfl)) ?_; clear hF a; intro a hF
  refine wl_nil (hK25 _ _ ?_)
  first | refine wc_dec (hF.ev rfl) (fun c76 => ?_) (fun c76 => ?_) | refine wc_ndec (hF.ev rfl) (fun c76 => ?_) (fun c76 => ?_) | refine wc_b (hF.ev rfl) (fun c76 => ?_) (fun c76 => ?_)
  · exfalso; first | omega | exact (c76 rfl).elim | (simp_all; done)
  refine wp_skip ?_
  refine hK24 _ _ ?_
  refine ws fun K26 hK26 => ?_
  refine wl hF rfl rfl rfl (r_loadn ag27 (hF.ev rfl) (hS.box_rd (i := 8) rfl) sz27) ?_; clear hF a; intro a hF
  refine wl_mk hF hS rfl rfl rfl (r_call1 en11 (hF.ev rfl)) (toState_c (hS.k hm) (by omega)) ?_; clear hF a; rintro vs79 w19 a hS_ hF; replace hS := hS_; clear hS_; dsimp only [List.cons_append, List.nil_append] at hS
  refine wl_mvs (A := [_]) hF rfl ?_; clear hF a; intro a hF
  refine wl_mk hF hS rfl rfl rfl (r_call2 en12 (hF.ev rfl) (hF.ev rfl)) (implStepBegin_c (hS.part_k (i := 0) rfl) hw (by omega) hp) ?_; clear hF a; rintro vs81 w20 a hS_ hF; replace hS := hS_; clear hS_; dsimp only [List.cons_append, List.nil_append] at hS
  refine wl_mvs (A := [_]) hF rfl ?_; clear hF a; intro a hF
  refine wl hF rfl rfl rfl (r_extract (hF.ev rfl) rfl) ?_; clear hF a; intro a hF
  refine wl hF rfl rfl rfl (r_extract (hF.ev rfl) rfl) ?_; clear hF a; intro a hF
  refine wl_alloc hF hS rfl zr32 ?_; clear hF a; intro g5 w21 a hS_ hB_ hF; replace hS := hS_; clear hS_ hB_
  refine wl_storew hF hS (i := 0) rfl (hF.ev rfl) (hF.ev rfl) sz32 rfl rfl ?_; intro w22 hS_; replace hS := hS_; clear hS_; dsimp only [List.set, Nat.reduceAdd] at hS
  refine wl_mvs (A := [_]) hF rfl ?_; clear hF a; intro a hF
  refine wl_nil (hK26 _ _ ?_)
  refine wp_seq_k fun K27 hK27 => ?_
  refine ws fun K28 hK28 => ?_
  refine wl hF rfl rfl rfl (r_loadn ag32 (hF.ev rfl) (hS.box_rd (i := 0) rfl) sz32) ?_; clear hF a; intro a hF
  refine wl hF rfl rfl rfl (r_loadn ag32 (hF.ev rfl) (hS.box_rd (i := 8) rfl) sz32) ?_; clear hF a; intro a hF
  refine wl_call hF rfl rfl rfl (r_call2 en13 (hF.ev rfl) (hF.ev rfl)) (eqState_same (hS.part_k (i := 1) rfl) (hS.part_k (i := 9) rfl)) ?_; clear hF a; rintro v w23 a ⟨rfl, hB_⟩ hF; replace hS := hS.ext hB_; clear hB_
  refine wl hF rfl rfl rfl (r_not (hF.ev rfl)) ?_; clear hF a; intro a hF
  refine wl_mvs (A := [_, _, _]) hF rfl ?_; clear hF a; intro a hF
  refine wl_take hF rfl rfl rfl rfl ?_
  refine wl hF rfl rfl rfl (r_neqb bl4 (hF.ev rfl) (hF.ev rfl)) ?_; clear hF a; intro a hF
  refine wl hF rfl rfl rfl (r_pick_f (hF.ev rfl) (hF.ev rfl)) ?_; clear hF a; intro a hF
  refine wl_nil (hK28 _ _ ?_)
  first | refine wc_dec (hF.ev rfl) (fun c92 => ?_) (fun c92 => ?_) | refine wc_ndec (hF.ev rfl) (fun c92 => ?_) (fun c92 => ?_) | refine wc_b (hF.ev rfl) (fun c92 => ?_) (fun c92 => ?_)
  · exfalso; first | omega | exact (c92 rfl).elim | (simp_all; done)
  refine wp_skip ?_
  refine hK27 _ _ ?_
  refine ws fun K29 hK29 => ?_
  refine wl_mvs (A := [_]) hF rfl ?_; clear hF a; intro a hF
  refine wl_nil (hK29 _ _ ?_)
  refine ws fun K30 hK30 => ?_
  refine wl hF rfl rfl rfl (r_loadn ag32 (hF.ev rfl) (hS.box_rd (i := 6) rfl) sz32) ?_; clear hF a; intro a hF
  refine wl_mvs (A := [_]) hF rfl ?_; clear hF a; intro a hF
  refine wl_call hF rfl rfl rfl (r_call2 en15 (hF.ev rfl) (hF.ev rfl)) (heldState_c (s := _) (hS.part_k (i := 3) rfl) (by omega) (by omega)) ?_; clear hF a; rintro v w24 a ⟨rfl, hB_⟩ hF; replace hS := hS.ext hB_; clear hB_
  refine wl_mvs (A := [_]) hF rfl ?_; clear hF a; intro a hF
  refine wl_nil (hK30 _ _ ?_)
  refine wp_seq_k fun K31 hK31 => ?_
  refine ws fun K32 hK32 => ?_
  refine wl_mvs (A := [_]) hF rfl ?_; clear hF a; intro a hF
  refine wl hF rfl rfl rfl (r_lss (hF.ev rfl) ec) ?_; clear hF a; intro a hF
  refine wl_nil (hK32 _ _ ?_)
  first | refine wc_dec (hF.ev rfl) (fun c97 => ?_) (fun c97 => ?_) | refine wc_ndec (hF.ev rfl) (fun c97 => ?_) (fun c97 => ?_) | refine wc_b (hF.ev rfl) (fun c97 => ?_) (fun c97 => ?_)
  · exfalso; first | omega | exact (c97 rfl).elim | (simp_all; done)
  refine wp_skip ?_
  refine hK31 _ _ ?_
  refine wp_seq_k fun K33 hK33 => ?_
  refine ws fun K34 hK34 => ?_
  refine wl_mvs (A := [_, _]) hF rfl ?_; clear hF a; intro a hF
  refine wl hF rfl rfl rfl (r_neq (hF.ev rfl) (hF.ev rfl)) ?_; clear hF a; intro a hF
  refine wl_nil (hK34 _ _ ?_)
  first | refine wc_dec (hF.ev rfl) (fun c100 => ?_) (fun c100 => ?_) | refine wc_ndec (hF.ev rfl) (fun c100 => ?_) (fun c100 => ?_) | refine wc_b (hF.ev rfl) (fun c100 => ?_) (fun c100 => ?_)
  · exfalso; first | omega | exact (c100 rfl).elim | (simp_all; done)
  refine wp_skip ?_
  refine hK33 _ _ ?_
  refine ws fun K35 hK35 => ?_
  refine wl_mvs (A := [_]) hF rfl ?_; clear hF a; intro a hF
  refine wl_nil (hK35 _ _ ?_)
  refine wp_ret ?_
  try simp only [Exit.then, Exit.inBlock, ↓reduceIte]
  exact ret1 rfl hF rfl ⟨rfl, hS.old⟩

end Go.Proofs.YtifhfodphoeeoaaGreat.Wk
