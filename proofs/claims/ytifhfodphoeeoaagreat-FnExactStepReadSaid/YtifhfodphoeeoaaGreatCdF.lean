/- FnExactStepRead, for all arguments: the program's StepRead returns what the reference's returns, and the arguments stay as they were. Condition: the law's own guard on size. -/
import Derived.Test.YtifhfodphoeeoaaGreatCdE
import Derived.Test.YtifhfodphoeeoaaGreatRows
namespace Go.Proofs.YtifhfodphoeeoaaGreat.Wk
open Go Go.RowKit Sl
set_option linter.unusedVariables false
set_option linter.unusedSimpArgs false
set_option maxRecDepth 20000
set_option maxHeartbeats 4000000 in
set_option maxRecDepth 20000 in
theorem law_FnExactStepRead {W : World} {s : Sl.State} {cs : List Value} (hm : stateEK.K W s cs) (hw : s.wf) {p : Int} (hp : int64 p) : Calls Tryz.prog 5 #[.agg cs.toArray, vi p] W (Ret fun v w' => v = .bool true ∧ Below W.heap.size W w') := by
  refine calls_fr Tryz.func5 rfl Tryz.ntmps5 rfl ?_
  intro a hF
  have hS := Sep.refl W
  obtain ⟨v0, v1, v2, rfl, r0, r1, r2⟩ := hm
  have hm : stateEK.K W s (s.encv v0 v1 v2) := ⟨_, _, _, rfl, r0, r1, r2⟩
  have hcs := state_cnt s
  have hsz_ := stepOf_size (isf := isR) (f := readS) (s := s) (p := p) 0 readS_size
  have hcs_ := state_cnt s
  have hcn_ := state_cnt (stepOf isR readS s p).1
  refine ws fun K1 hK1 => ?_
  refine wl_box (cs := [_, _, _, _, _, _, _, _, _, _, _, _, _]) hF hS rfl (hF.ev rfl) rfl ?_; clear hF a; intro g1 w1 a hS_ hB_ hF; replace hS := hS_; clear hS_ hB_
  refine wl_mvs (A := [_]) hF rfl ?_; clear hF a; intro a hF
  refine wl_nil (hK1 _ _ ?_)
  refine ws fun K2 hK2 => ?_
  refine wl_mvs (A := [_]) hF rfl ?_; clear hF a; intro a hF
  refine wl_nil (hK2 _ _ ?_)
  refine ws fun K3 hK3 => ?_
  refine wl hF rfl rfl rfl (r_loadn ag27 (hF.ev rfl) (hS.box_rd (i := 0) rfl) sz27) ?_; clear hF a; intro a hF
  refine wl_mvs (A := [_]) hF rfl ?_; clear hF a; intro a hF
  refine wl_call hF rfl rfl rfl (r_call2 en9 (hF.ev rfl) (hF.ev rfl)) (szState_c (hS.k hm) (by omega) (by omega)) ?_; clear hF a; rintro v w2 a ⟨⟨r18, rfl, e1_18, e2_18, e3_18⟩, hB_⟩ hF; replace hS := hS.ext hB_; clear hB_
  refine wl_mvs (A := [_]) hF rfl ?_; clear hF a; intro a hF
  refine wl_nil (hK3 _ _ ?_)
  refine wp_seq_k fun K4 hK4 => ?_
  refine ws fun K5 hK5 => ?_
  refine wl_mvs (A := [_]) hF rfl ?_; clear hF a; intro a hF
  refine wl hF rfl rfl rfl (r_lss (hF.ev rfl) ec) ?_; clear hF a; intro a hF
  refine wl_nil (hK5 _ _ ?_)
  first | refine wc_dec (hF.ev rfl) (fun c20 => ?_) (fun c20 => ?_) | refine wc_ndec (hF.ev rfl) (fun c20 => ?_) (fun c20 => ?_) | refine wc_b (hF.ev rfl) (fun c20 => ?_) (fun c20 => ?_)
  ·
    refine ws fun K6 hK6 => ?_
    refine wl_mvs (A := [_]) hF rfl ?_; clear hF a; intro a hF
    refine wl_nil (hK6 _ _ ?_)
    refine wp_ret ?_
    try simp only [Exit.then, Exit.inBlock, ↓reduceIte]
    exact ret1 rfl hF rfl ⟨rfl, hS.old⟩
  refine wp_skip ?_
  refine hK4 _ _ ?_
  refine ws fun K7 hK7 => ?_
  refine wl hF rfl rfl rfl (r_loadn ag27 (hF.ev rfl) (hS.box_rd (i := 0) rfl) sz27) ?_; clear hF a; intro a hF
  refine wl_mk hF hS rfl rfl rfl (r_call1 en11 (hF.ev rfl)) (toState_c (hS.k hm) (by omega)) ?_; clear hF a; rintro vs23 w3 a hS_ hF; replace hS := hS_; clear hS_; dsimp only [List.cons_append, List.nil_append] at hS
  refine wl_mvs (A := [_]) hF rfl ?_; clear hF a; intro a hF
  refine wl_mk hF hS rfl rfl rfl (r_call2 en18 (hF.ev rfl) (hF.ev rfl)) (specStepRead_c (hS.part_k (i := 0) rfl) hw (by omega) hp) ?_; clear hF a; rintro vs25 w4 a hS_ hF; replace hS := hS_; clear hS_; dsimp only [List.cons_append, List.nil_append] at hS
  refine wl_mvs (A := [_]) hF rfl ?_; clear hF a; intro a hF
  refine wl hF rfl rfl rfl (r_extract (hF.ev rfl) rfl) ?_; clear hF a; intro a hF
  refine wl hF rfl rfl rfl (r_extract (hF.ev rfl) rfl) ?_; clear hF a; intro a hF
  refine wl_alloc hF hS rfl zr32 ?_; clear hF a; intro g2 w5 a hS_ hB_ hF; replace hS := hS_; clear hS_ hB_
  refine wl_storew hF hS (i := 0) rfl (hF.ev rfl) (hF.ev rfl) sz32 rfl rfl ?_; intro w6 hS_; replace hS := hS_; clear hS_; dsimp only [List.set, Nat.reduceAdd] at hS
  refine wl_mvs (A := [_]) hF rfl ?_; clear hF a; intro a hF
  refine wl_nil (hK7 _ _ ?_)
  refine ws fun K8 hK8 => ?_
  refine wl hF rfl rfl rfl (r_loadn ag27 (hF.ev rfl) (hS.box_rd (i := 3) rfl) sz27) ?_; clear hF a; intro a hF
  refine wl_mk hF hS rfl rfl rfl (r_call1 en11 (hF.ev rfl)) (toState_c (hS.k hm) (by omega)) ?_; clear hF a; rintro vs29 w7 a hS_ hF; replace hS := hS_; clear hS_; dsimp only [List.cons_append, List.nil_append] at hS
  refine wl_alloc hF hS rfl zr32 ?_; clear hF a; intro g3 w8 a hS_ hB_ hF; replace hS := hS_; clear hS_ hB_
  refine wl_storew hF hS (i := 0) rfl (hF.ev rfl) (hF.ev rfl) sz32 rfl rfl ?_; intro w9 hS_; replace hS := hS_; clear hS_; dsimp only [List.set, Nat.reduceAdd] at hS
  refine wl_nil (hK8 _ _ ?_)
  refine ws fun K9 hK9 => ?_
  refine wl hF rfl rfl rfl (r_loadn ag32 (hF.ev rfl) (hS.box_rd (i := 0) rfl) sz32) ?_; clear hF a; intro a hF
  refine wl_mvs (A := [_]) hF rfl ?_; clear hF a; intro a hF
  refine wl_mk hF hS rfl rfl rfl (r_call2 en19 (hF.ev rfl) (hF.ev rfl)) (implStepRead_c (hS.part_k (i := 1) rfl) hw (by omega) hp) ?_; clear hF a; rintro vs33 w10 a hS_ hF; replace hS := hS_; clear hS_; dsimp only [List.cons_append, List.nil_append] at hS
  refine wl_mvs (A := [_]) hF rfl ?_; clear hF a; intro a hF
  refine wl hF rfl rfl rfl (r_extract (hF.ev rfl) rfl) ?_; clear hF a; intro a hF
  refine wl hF rfl rfl rfl (r_extract (hF.ev rfl) rfl) ?_; clear hF a; intro a hF
  refine wl_alloc hF hS rfl zr32 ?_; clear hF a; intro g4 w11 a hS_ hB_ hF; replace hS := hS_; clear hS_ hB_
  refine wl_storew hF hS (i := 0) rfl (hF.ev rfl) (hF.ev rfl) sz32 rfl rfl ?_; intro w12 hS_; replace hS := hS_; clear hS_; dsimp only [List.set, Nat.reduceAdd] at hS
  refine wl_mvs (A := [_]) hF rfl ?_; clear hF a; intro a hF
  refine wl_nil (hK9 _ _ ?_)
  refine wp_seq_k fun K10 hK10 => ?_
  refine ws fun K11 hK11 => ?_
  refine wl hF rfl rfl rfl (r_loadn ag32 (hF.ev rfl) (hS.box_rd (i := 0) rfl) sz32) ?_; clear hF a; intro a hF
  refine wl hF rfl rfl rfl (r_loadn ag32 (hF.ev rfl) (hS.box_rd (i := 4) rfl) sz32) ?_; clear hF a; intro a hF
  refine wl_call hF rfl rfl rfl (r_call2 en13 (hF.ev rfl) (hF.ev rfl)) (eqState_same (hS.part_k (i := 1) rfl) (hS.part_k (i := 5) rfl)) ?_; clear hF a; rintro v w13 a ⟨rfl, hB_⟩ hF; replace hS := hS.ext hB_; clear hB_
  refine wl hF rfl rfl rfl (r_not (hF.ev rfl)) ?_; clear hF a; intro a hF
  refine wl_mvs (A := [_, _, _]) hF rfl ?_; clear hF a; intro a hF
  refine wl_take hF rfl rfl rfl rfl ?_
  refine wl hF rfl rfl rfl (r_neqb bl4 (hF.ev rfl) (hF.ev rfl)) ?_; clear hF a; intro a hF
  refine wl hF rfl rfl rfl (r_pick_f (hF.ev rfl) (hF.ev rfl)) ?_; clear hF a; intro a hF
  refine wl_nil (hK11 _ _ ?_)
  first | refine wc_dec (hF.ev rfl) (fun c44 => ?_) (fun c44 => ?_) | refine wc_ndec (hF.ev rfl) (fun c44 => ?_) (fun c44 => ?_) | refine wc_b (hF.ev rfl) (fun c44 => ?_) (fun c44 => ?_)
  · exfalso; first | omega | exact (c44 rfl).elim | (simp_all; done)
  refine wp_skip ?_
  refine hK10 _ _ ?_
  refine wp_seq_k fun K12 hK12 => ?_
  refine wp_seq_k fun K13 hK13 => ?_
  refine wp_region_todo (is := [0, 1, 2, 3, 4]) [] [] (by kernel_rfl) hF hS ⟨trivial, by decide, by decide, by decide⟩ (by kernel_rfl) ?_; clear hF; intro hl_ wd hSd
  refine todo_quiet hl_ (by kernel_rfl) rfl rfl rfl rfl rfl (fun a w_ hF hB_ => r_loadn ag32 (hF.ev rfl) ((hSd.ext hB_).box_rd (i := 2) rfl) sz32) ?_
  refine todo_quiet hl_ (by kernel_rfl) rfl rfl rfl rfl rfl (fun a w_ hF hB_ => r_loadn ag27 (hF.ev rfl) ((hSd.ext hB_).box_rd (i := 7) rfl) sz27) ?_
  refine todo_mk hl_ rfl (by kernel_rfl) rfl rfl rfl rfl rfl (fun a w_ hF => r_call1 en11 (hF.ev rfl)) (fun w_ hS => toState_c (hS.k hm) (by omega)) ?_; rintro vs47
  refine todo_rd hl_ rfl (by kernel_rfl) rfl rfl rfl rfl rfl (fun a w_ hF => r_call2 en13 (hF.ev rfl) (hF.ev rfl)) (fun w_ hS => eqState_same (hS.part_k (i := 4) rfl) (hS.part_k (i := 0) rfl)) ?_
  refine todo_pure hl_ (by kernel_rfl) rfl (gw0 rfl) rfl rfl rfl (fun a w_ hF => r_not (hF.ev rfl)) ?_
  refine todo_fin hl_ rfl (by kernel_rfl) (tl := []) rfl ?_; clear hS a; intro a w14 hF hA_
  have hS := hA_.sep; clear hA_
  clear hl_; try clear hSd
  try dsimp only [List.cons_append, List.nil_append, List.set] at hS
  try clear wd
  refine wl_nil ⟨rfl, ?_⟩
  refine hK13 _ _ ?_
  refine wc_false (hF.ev rfl) ?_
  refine wp_skip ?_
  refine hK12 _ _ ?_
  refine ws fun K14 hK14 => ?_
  refine wl_mvs (A := [_]) hF rfl ?_; clear hF a; intro a hF
  refine wl_nil (hK14 _ _ ?_)
  refine ws fun K15 hK15 => ?_
  refine wl hF rfl rfl rfl (r_loadn ag32 (hF.ev rfl) (hS.box_rd (i := 3) rfl) sz32) ?_; clear hF a; intro a hF
  refine wl_mvs (A := [_]) hF rfl ?_; clear hF a; intro a hF
  replace hS := hS.pull (p := 4) rfl; dsimp only [List.eraseIdx] at hS
  refine wl_call hF rfl rfl rfl (r_call2 en14 (hF.ev rfl) (hF.ev rfl)) (markState_c hS (by omega) (by omega)) ?_; clear hF a; rintro v w15 a ⟨rfl, hS_⟩ hF; replace hS := hS_; clear hS_
  refine wl_mvs (A := [_]) hF rfl ?_; clear hF a; intro a hF
  refine wl_nil (hK15 _ _ ?_)
  refine wp_seq_k fun K16 hK16 => ?_
  refine ws fun K17 hK17 => ?_
  refine wl_mvs (A := [_]) hF rfl ?_; clear hF a; intro a hF
  refine wl hF rfl rfl rfl (r_lss (hF.ev rfl) ec) ?_; clear hF a; intro a hF
  refine wl_mvs (A := [_]) hF rfl ?_; clear hF a; intro a hF
  revert hF; intro hF0; refine bsplit (t := 55) hF0 rfl (fun b55 hF => ?_) (fun b55 hF => ?_)
  · exfalso; clear hF hF0; try simp only [decide_eq_true_eq, decide_eq_false_iff_not, Bool.not_eq_true', Bool.not_eq_false'] at b55
    first | omega | exact (b55 rfl).elim | (simp_all; done)
  clear hF0
  refine wl_take hF rfl rfl rfl rfl ?_
  refine wl hF rfl rfl rfl (r_loadn ag32 (hF.ev rfl) (hS.box_rd (i := 2) rfl) sz32) ?_; clear hF a; intro a hF
  refine wl_take hF rfl rfl rfl rfl ?_
  refine wl hF rfl rfl rfl (r_loadn ag32 (hF.ev rfl) (hS.box_rd (i := 5) rfl) sz32) ?_; clear hF a; intro a hF
  refine wl_take hF rfl rfl rfl rfl ?_
  refine wl_call hF rfl rfl rfl (r_call2 en13 (hF.ev rfl) (hF.ev rfl)) (eqState_same (hS.part_k (i := 3) rfl) (hS.part_k (i := 6) rfl)) ?_; clear hF a; rintro v w16 a ⟨rfl, hB_⟩ hF; replace hS := hS.ext hB_; clear hB_
  refine wl_take hF rfl rfl rfl rfl ?_
  refine wl hF rfl rfl rfl (r_not (hF.ev rfl)) ?_; clear hF a; intro a hF
  refine wl hF rfl rfl rfl (r_pick_f (hF.ev rfl) (hF.ev rfl)) ?_; clear hF a; intro a hF
  refine wl_mvs (A := [_, _, _]) hF rfl ?_; clear hF a; intro a hF
  refine wl_take hF rfl rfl rfl rfl ?_
  refine wl hF rfl rfl rfl (r_neqb bl4 (hF.ev rfl) (hF.ev rfl)) ?_; clear hF a; intro a hF
  refine wl hF rfl rfl rfl (r_pick_f (hF.ev rfl) (hF.ev rfl)) ?_; clear hF a; intro a hF
  refine wl_nil (hK17 _ _ ?_)
  first | refine wc_dec (hF.ev rfl) (fun c65 => ?_) (fun c65 => ?_) | refine wc_ndec (hF.ev rfl) (fun c65 => ?_) (fun c65 => ?_) | refine wc_b (hF.ev rfl) (fun c65 => ?_) (fun c65 => ?_)
  · exfalso; first | omega | exact (c65 rfl).elim | (simp_all; done)
  refine wp_skip ?_
  refine hK16 _ _ ?_
  refine ws fun K18 hK18 => ?_
  refine wl_mvs (A := [_]) hF rfl ?_; clear hF a; intro a hF
  refine wl_nil (hK18 _ _ ?_)
  refine ws fun K19 hK19 => ?_
  refine wl hF rfl rfl rfl (r_loadn ag32 (hF.ev rfl) (hS.box_rd (i := 2) rfl) sz32) ?_; clear hF a; intro a hF
  refine wl_mvs (A := [_]) hF rfl ?_; clear hF a; intro a hF
  replace hS := hS.pull (p := 3) rfl; dsimp only [List.eraseIdx] at hS
  refine wl_call hF rfl rfl rfl (r_call2 en14 (hF.ev rfl) (hF.ev rfl)) (markState_c hS (by omega) (by omega)) ?_; clear hF a; rintro v w17 a ⟨rfl, hS_⟩ hF; replace hS := hS_; clear hS_
  refine wl_mvs (A := [_]) hF rfl ?_; clear hF a; intro a hF
  refine wl_nil (hK19 _ _ ?_)
  refine ws fun K20 hK20 => ?_
  refine wl_mvs (A := [_]) hF rfl ?_; clear hF a; intro a hF
  refine wl_nil (hK20 _ _ ?_)
  refine ws fun K21 hK21 => ?_
  refine wl hF rfl rfl rfl (r_loadn ag32 (hF.ev rfl) (hS.box_rd (i := 3) rfl) sz32) ?_; clear hF a; intro a hF
  refine wl_mvs (A := [_]) hF rfl ?_; clear hF a; intro a hF
  refine wl_call hF rfl rfl rfl (r_call2 en15 (hF.ev rfl) (hF.ev rfl)) (heldState_c (s := _) (hS.part_k (i := 0) rfl) (by omega) (by omega)) ?_; clear hF a; rintro v w18 a ⟨rfl, hB_⟩ hF; replace hS := hS.ext hB_; clear hB_
  refine wl_mvs (A := [_]) hF rfl ?_; clear hF a; intro a hF
  refine wl_nil (hK21 _ _ ?_)
  refine wp_seq_k fun K22 hK22 => ?_
  refine ws fun K23 hK23 => ?_
  refine wl_mvs (A := [_]) hF rfl ?_; clear hF a; intro a hF
  refine wl hF rfl rfl rfl (r_lss (hF.ev rfl) ec) ?_; clear hF a; intro a hF
  refine wl_nil (hK23 _ _ ?_)
  first | refine wc_dec (hF.ev rfl) (fun c73 => ?_) (fun c73 => ?_) | refine wc_ndec (hF.ev rfl) (fun c73 => ?_) (fun c73 => ?_) | refine wc_b (hF.ev rfl) (fun c73 => ?_) (fun c73 => ?_)
  · exfalso; first | omega | exact (c73 rfl).elim | (simp_all; done)
  refine wp_skip ?_
  refine hK22 _ _ ?_
  refine wp_seq_k fun K24 hK24 => ?_
  refine ws fun K25 hK25 => ?_
  refine wl_mvs (A := [_, _]) hF rfl ?_; clear hF a; intro a hF
  refine wl hF rfl rfl rfl (r_neq (hF.ev rfl) (hF.ev rfl)) ?_; clear hF a; intro a hF
  refine wl_nil (hK25 _ _ ?_)
  first | refine wc_dec (hF.ev rfl) (fun c76 => ?_) (fun c76 => ?_) | refine wc_ndec (hF.ev rfl) (fun c76 => ?_) (fun c76 => ?_) | refine wc_b (hF.ev rfl) (fun c76 => ?_) (fun c76 => ?_)
  · exfalso; first | omega | exact (c76 rfl).elim | (simp_all; done)
  refine wp_skip ?_
  refine hK24 _ _ ?_
  refine ws fun K26 hK26 => ?_
  refine wl hF rfl rfl rfl (r_loadn ag27 (hF.ev rfl) (hS.box_rd (i := 8) rfl) sz27) ?_; clear hF a; intro a hF
  refine wl_mk hF hS rfl rfl rfl (r_call1 en11 (hF.ev rfl)) (toState_c (hS.k hm) (by omega)) ?_; clear hF a; rintro vs79 w19 a hS_ hF; replace hS := hS_; clear hS_; dsimp only [List.cons_append, List.nil_append] at hS
  refine wl_mvs (A := [_]) hF rfl ?_; clear hF a; intro a hF
  refine wl_mk hF hS rfl rfl rfl (r_call2 en19 (hF.ev rfl) (hF.ev rfl)) (implStepRead_c (hS.part_k (i := 0) rfl) hw (by omega) hp) ?_; clear hF a; rintro vs81 w20 a hS_ hF; replace hS := hS_; clear hS_; dsimp only [List.cons_append, List.nil_append] at hS
  refine wl_mvs (A := [_]) hF rfl ?_; clear hF a; intro a hF
  refine wl hF rfl rfl rfl (r_extract (hF.ev rfl) rfl) ?_; clear hF a; intro a hF
  refine wl hF rfl rfl rfl (r_extract (hF.ev rfl) rfl) ?_; clear hF a; intro a hF
  refine wl_alloc hF hS rfl zr32 ?_; clear hF a; intro g5 w21 a hS_ hB_ hF; replace hS := hS_; clear hS_ hB_
  refine wl_storew hF hS (i := 0) rfl (hF.ev rfl) (hF.ev rfl) sz32 rfl rfl ?_; intro w22 hS_; replace hS := hS_; clear hS_; dsimp only [List.set, Nat.reduceAdd] at hS
  refine wl_mvs (A := [_]) hF rfl ?_; clear hF a; intro a hF
  refine wl_nil (hK26 _ _ ?_)
  refine wp_seq_k fun K27 hK27 => ?_
  refine ws fun K28 hK28 => ?_
  refine wl hF rfl rfl rfl (r_loadn ag32 (hF.ev rfl) (hS.box_rd (i := 0) rfl) sz32) ?_; clear hF a; intro a hF
  refine wl hF rfl rfl rfl (r_loadn ag32 (hF.ev rfl) (hS.box_rd (i := 8) rfl) sz32) ?_; clear hF a; intro a hF
  refine wl_call hF rfl rfl rfl (r_call2 en13 (hF.ev rfl) (hF.ev rfl)) (eqState_same (hS.part_k (i := 1) rfl) (hS.part_k (i := 9) rfl)) ?_; clear hF a; rintro v w23 a ⟨rfl, hB_⟩ hF; replace hS := hS.ext hB_; clear hB_
  refine wl hF rfl rfl rfl (r_not (hF.ev rfl)) ?_; clear hF a; intro a hF
  refine wl_mvs (A := [_, _, _]) hF rfl ?_; clear hF a; intro a hF
  refine wl_take hF rfl rfl rfl rfl ?_
  refine wl hF rfl rfl rfl (r_neqb bl4 (hF.ev rfl) (hF.ev rfl)) ?_; clear hF a; intro a hF
  refine wl hF rfl rfl rfl (r_pick_f (hF.ev rfl) (hF.ev rfl)) ?_; clear hF a; intro a hF
  refine wl_nil (hK28 _ _ ?_)
  first | refine wc_dec (hF.ev rfl) (fun c92 => ?_) (fun c92 => ?_) | refine wc_ndec (hF.ev rfl) (fun c92 => ?_) (fun c92 => ?_) | refine wc_b (hF.ev rfl) (fun c92 => ?_) (fun c92 => ?_)
  · exfalso; first | omega | exact (c92 rfl).elim | (simp_all; done)
  refine wp_skip ?_
  refine hK27 _ _ ?_
  refine ws fun K29 hK29 => ?_
  refine wl_mvs (A := [_]) hF rfl ?_; clear hF a; intro a hF
  refine wl_nil (hK29 _ _ ?_)
  refine ws fun K30 hK30 => ?_
  refine wl hF rfl rfl rfl (r_loadn ag32 (hF.ev rfl) (hS.box_rd (i := 6) rfl) sz32) ?_; clear hF a; intro a hF
  refine wl_mvs (A := [_]) hF rfl ?_; clear hF a; intro a hF
  refine wl_call hF rfl rfl rfl (r_call2 en15 (hF.ev rfl) (hF.ev rfl)) (heldState_c (s := _) (hS.part_k (i := 3) rfl) (by omega) (by omega)) ?_; clear hF a; rintro v w24 a ⟨rfl, hB_⟩ hF; replace hS := hS.ext hB_; clear hB_
  refine wl_mvs (A := [_]) hF rfl ?_; clear hF a; intro a hF
  refine wl_nil (hK30 _ _ ?_)
  refine wp_seq_k fun K31 hK31 => ?_
  refine ws fun K32 hK32 => ?_
  refine wl_mvs (A := [_]) hF rfl ?_; clear hF a; intro a hF
  refine wl hF rfl rfl rfl (r_lss (hF.ev rfl) ec) ?_; clear hF a; intro a hF
  refine wl_nil (hK32 _ _ ?_)
  first | refine wc_dec (hF.ev rfl) (fun c97 => ?_) (fun c97 => ?_) | refine wc_ndec (hF.ev rfl) (fun c97 => ?_) (fun c97 => ?_) | refine wc_b (hF.ev rfl) (fun c97 => ?_) (fun c97 => ?_)
  · exfalso; first | omega | exact (c97 rfl).elim | (simp_all; done)
  refine wp_skip ?_
  refine hK31 _ _ ?_
  refine wp_seq_k fun K33 hK33 => ?_
  refine ws fun K34 hK34 => ?_
  refine wl_mvs (A := [_, _]) hF rfl ?_; clear hF a; intro a hF
  refine wl hF rfl rfl rfl (r_neq (hF.ev rfl) (hF.ev rfl)) ?_; clear hF a; intro a hF
  refine wl_nil (hK34 _ _ ?_)
  first | refine wc_dec (hF.ev rfl) (fun c100 => ?_) (fun c100 => ?_) | refine wc_ndec (hF.ev rfl) (fun c100 => ?_) (fun c100 => ?_) | refine wc_b (hF.ev rfl) (fun c100 => ?_) (fun c100 => ?_)
  · exfalso; first | omega | exact (c100 rfl).elim | (simp_all; done)
  refine wp_skip ?_
  refine hK33 _ _ ?_
  refine ws fun K35 hK35 => ?_
  refine wl_mvs (A := [_]) hF rfl ?_; clear hF a; intro a hF
  refine wl_nil (hK35 _ _ ?_)
  refine wp_ret ?_
  try simp only [Exit.then, Exit.inBlock, ↓reduceIte]
  exact ret1 rfl hF rfl ⟨rfl, hS.old⟩
end Go.Proofs.YtifhfodphoeeoaaGreat.Wk
namespace Go.Proofs.YtifhfodphoeeoaaGreat.Sl
open Go
section
variable {P : Program} {h s : List Char} {X : List (List Char)}
/-- a row of signs, by their numbers -/
def ch (l : List Nat) : List Char := l.map Char.ofNat
/-- the blank -/
abbrev sp : Char := Char.ofNat 32
theorem words_sp : ∀ (w r : List Char), Sl.sp ∉ w → wordsSigns (w ++ Sl.sp :: r) = w :: wordsSigns r
  | [], r, _ => rfl
  | c :: w, r, h => by
    have hc : c ≠ Sl.sp := fun e => h (e ▸ List.mem_cons_self)
    have ih := words_sp w r (fun e => h (List.mem_cons_of_mem _ e))
    rw [List.cons_append, wordsSigns.eq_3 _ _ (fun e => hc e), ih]
theorem strip_cut : stripLifts liftWords ("cut".toList :: X) = ([], "cut".toList :: X) := by kernel_rfl
theorem made_of (e : behindMainWord (wordsSigns P.initOrder.toList) = "cut".toList :: X) : P.make = some .cut := by
  unfold Program.make; rw [e]; rfl
theorem final_of (e : behindMainWord (wordsSigns P.initOrder.toList) = "cut".toList :: X) : P.liftsFinal = false := by
  unfold Program.liftsFinal Program.headLifts; rw [e]; dsimp only; rw [strip_cut]; rfl
theorem enter_of (e : behindMainWord (wordsSigns P.initOrder.toList) = "cut".toList :: X) (h1 : P.laysLater = false) (h2 : P.bearsReflect = false) (h3 : P.doorFits [] = true) : P.mayEnter = true := by
  unfold Program.mayEnter; rw [e]; dsimp only; rw [strip_cut, h1, h2, h3]; rfl
end
end Go.Proofs.YtifhfodphoeeoaaGreat.Sl
namespace Go.Proofs.YtifhfodphoeeoaaGreat.Wk
open Go Go.RowKit Sl
end Go.Proofs.YtifhfodphoeeoaaGreat.Wk
namespace Go.Proofs.YtifhfodphoeeoaaGreat
open Go Go.RowKit Sl Wk
set_option linter.unusedVariables false
set_option linter.unusedSimpArgs false
set_option maxRecDepth 20000
theorem op3 : Opens Tryz.prog 3 1 (fun _ n cs => cs = [vi n]) int64 := opens_int (by kernel_rfl) (by kernel_rfl)
theorem fd23_0 : fldB Tryz.prog 23 0 = some (3, 0) := by kernel_rfl
theorem fd23_1 : fldB Tryz.prog 23 1 = some (3, 1) := by kernel_rfl
theorem fd23_2 : fldB Tryz.prog 23 2 = some (3, 2) := by kernel_rfl
theorem fd23_3 : fldB Tryz.prog 23 3 = some (3, 3) := by kernel_rfl
theorem fd23_4 : fldB Tryz.prog 23 4 = some (3, 4) := by kernel_rfl
theorem fd23_5 : fldB Tryz.prog 23 5 = some (3, 5) := by kernel_rfl
theorem op23 : Opens Tryz.prog 23 6 (fun _ x cs => cs = Config.enc x) Config.wf := by
  refine ⟨by kernel_rfl, fun H enc W sp fuel cs y h => ?_⟩
  have hl : cs.length = 6 := (trod_len fd23_0 h).trans (by kernel_rfl)
  have e6 : cs.drop 6 = [] := List.drop_eq_nil_of_le (by omega)
  obtain ⟨x0, k0, w0⟩ := Opens.field op3 fd23_0 h
  obtain ⟨x1, k1, w1⟩ := Opens.field op3 fd23_1 h
  obtain ⟨x2, k2, w2⟩ := Opens.field op3 fd23_2 h
  obtain ⟨x3, k3, w3⟩ := Opens.field op3 fd23_3 h
  obtain ⟨x4, k4, w4⟩ := Opens.field op3 fd23_4 h
  obtain ⟨x5, k5, w5⟩ := Opens.field op3 fd23_5 h
  have e5 : cs.drop 5 = [vi x5] ++ [] := by rw [drop_split cs 5 1, e6]; exact congrArg (· ++ _) k5
  have e4 : cs.drop 4 = [vi x4] ++ ([vi x5] ++ []) := by rw [drop_split cs 4 1, e5]; exact congrArg (· ++ _) k4
  have e3 : cs.drop 3 = [vi x3] ++ ([vi x4] ++ ([vi x5] ++ [])) := by rw [drop_split cs 3 1, e4]; exact congrArg (· ++ _) k3
  have e2 : cs.drop 2 = [vi x2] ++ ([vi x3] ++ ([vi x4] ++ ([vi x5] ++ []))) := by rw [drop_split cs 2 1, e3]; exact congrArg (· ++ _) k2
  have e1 : cs.drop 1 = [vi x1] ++ ([vi x2] ++ ([vi x3] ++ ([vi x4] ++ ([vi x5] ++ [])))) := by rw [drop_split cs 1 1, e2]; exact congrArg (· ++ _) k1
  have e0 : cs.drop 0 = [vi x0] ++ ([vi x1] ++ ([vi x2] ++ ([vi x3] ++ ([vi x4] ++ ([vi x5] ++ []))))) := by rw [drop_split cs 0 1, e1]; exact congrArg (· ++ _) k0
  exact ⟨⟨x0, x1, x2, x3, x4, x5⟩, (List.drop_zero (l := cs)).symm.trans e0, hl, w0, w1, w2, w3, w4, w5⟩
theorem op24 : Opens Tryz.prog 24 1 (fun W xs cs => ∃ v, cs = [v] ∧ intEK.Rd W v xs) (fun xs => ∀ x ∈ xs, int64 x) := opens_slice op3 (by decide) (by kernel_rfl) (by kernel_rfl)
theorem fd71_0 : fldB Tryz.prog 71 0 = some (3, 0) := by kernel_rfl
theorem fd71_1 : fldB Tryz.prog 71 1 = some (3, 1) := by kernel_rfl
theorem fd71_2 : fldB Tryz.prog 71 2 = some (3, 2) := by kernel_rfl
theorem op71 : Opens Tryz.prog 71 3 (fun _ x cs => cs = Op.enc x) Op.wf := by
  refine ⟨by kernel_rfl, fun H enc W sp fuel cs y h => ?_⟩
  have hl : cs.length = 3 := (trod_len fd71_0 h).trans (by kernel_rfl)
  have e3 : cs.drop 3 = [] := List.drop_eq_nil_of_le (by omega)
  obtain ⟨x0, k0, w0⟩ := Opens.field op3 fd71_0 h
  obtain ⟨x1, k1, w1⟩ := Opens.field op3 fd71_1 h
  obtain ⟨x2, k2, w2⟩ := Opens.field op3 fd71_2 h
  have e2 : cs.drop 2 = [vi x2] ++ [] := by rw [drop_split cs 2 1, e3]; exact congrArg (· ++ _) k2
  have e1 : cs.drop 1 = [vi x1] ++ ([vi x2] ++ []) := by rw [drop_split cs 1 1, e2]; exact congrArg (· ++ _) k1
  have e0 : cs.drop 0 = [vi x0] ++ ([vi x1] ++ ([vi x2] ++ [])) := by rw [drop_split cs 0 1, e1]; exact congrArg (· ++ _) k0
  exact ⟨⟨x0, x1, x2⟩, (List.drop_zero (l := cs)).symm.trans e0, hl, w0, w1, w2⟩
theorem fd72_0 : fldB Tryz.prog 72 0 = some (3, 0) := by kernel_rfl
theorem fd72_1 : fldB Tryz.prog 72 1 = some (3, 1) := by kernel_rfl
theorem op72 : Opens Tryz.prog 72 2 (fun _ x cs => cs = Result.enc x) Result.wf := by
  refine ⟨by kernel_rfl, fun H enc W sp fuel cs y h => ?_⟩
  have hl : cs.length = 2 := (trod_len fd72_0 h).trans (by kernel_rfl)
  have e2 : cs.drop 2 = [] := List.drop_eq_nil_of_le (by omega)
  obtain ⟨x0, k0, w0⟩ := Opens.field op3 fd72_0 h
  obtain ⟨x1, k1, w1⟩ := Opens.field op3 fd72_1 h
  have e1 : cs.drop 1 = [vi x1] ++ [] := by rw [drop_split cs 1 1, e2]; exact congrArg (· ++ _) k1
  have e0 : cs.drop 0 = [vi x0] ++ ([vi x1] ++ []) := by rw [drop_split cs 0 1, e1]; exact congrArg (· ++ _) k0
  exact ⟨⟨x0, x1⟩, (List.drop_zero (l := cs)).symm.trans e0, hl, w0, w1⟩
theorem fd144_0 : fldB Tryz.prog 144 0 = some (3, 0) := by kernel_rfl
theorem fd144_1 : fldB Tryz.prog 144 1 = some (3, 1) := by kernel_rfl
theorem fd144_2 : fldB Tryz.prog 144 2 = some (3, 2) := by kernel_rfl
theorem fd144_3 : fldB Tryz.prog 144 3 = some (3, 3) := by kernel_rfl
theorem op144 : Opens Tryz.prog 144 4 (fun _ x cs => cs = Entry.enc x) Entry.wf := by
  refine ⟨by kernel_rfl, fun H enc W sp fuel cs y h => ?_⟩
  have hl : cs.length = 4 := (trod_len fd144_0 h).trans (by kernel_rfl)
  have e4 : cs.drop 4 = [] := List.drop_eq_nil_of_le (by omega)
  obtain ⟨x0, k0, w0⟩ := Opens.field op3 fd144_0 h
  obtain ⟨x1, k1, w1⟩ := Opens.field op3 fd144_1 h
  obtain ⟨x2, k2, w2⟩ := Opens.field op3 fd144_2 h
  obtain ⟨x3, k3, w3⟩ := Opens.field op3 fd144_3 h
  have e3 : cs.drop 3 = [vi x3] ++ [] := by rw [drop_split cs 3 1, e4]; exact congrArg (· ++ _) k3
  have e2 : cs.drop 2 = [vi x2] ++ ([vi x3] ++ []) := by rw [drop_split cs 2 1, e3]; exact congrArg (· ++ _) k2
  have e1 : cs.drop 1 = [vi x1] ++ ([vi x2] ++ ([vi x3] ++ [])) := by rw [drop_split cs 1 1, e2]; exact congrArg (· ++ _) k1
  have e0 : cs.drop 0 = [vi x0] ++ ([vi x1] ++ ([vi x2] ++ ([vi x3] ++ []))) := by rw [drop_split cs 0 1, e1]; exact congrArg (· ++ _) k0
  exact ⟨⟨x0, x1, x2, x3⟩, (List.drop_zero (l := cs)).symm.trans e0, hl, w0, w1, w2, w3⟩
theorem op73 : Opens Tryz.prog 73 1 (fun W xs cs => ∃ v, cs = [v] ∧ entryEK.Rd W v xs) (fun xs => ∀ x ∈ xs, Entry.wf x) := opens_slice op144 (by decide) (by kernel_rfl) (by kernel_rfl)
theorem fd75_0 : fldB Tryz.prog 75 0 = some (3, 0) := by kernel_rfl
theorem fd75_1 : fldB Tryz.prog 75 1 = some (71, 1) := by kernel_rfl
theorem fd75_2 : fldB Tryz.prog 75 2 = some (72, 4) := by kernel_rfl
theorem fd75_3 : fldB Tryz.prog 75 3 = some (3, 6) := by kernel_rfl
theorem fd75_4 : fldB Tryz.prog 75 4 = some (3, 7) := by kernel_rfl
theorem fd75_5 : fldB Tryz.prog 75 5 = some (3, 8) := by kernel_rfl
theorem fd75_6 : fldB Tryz.prog 75 6 = some (3, 9) := by kernel_rfl
theorem fd75_7 : fldB Tryz.prog 75 7 = some (3, 10) := by kernel_rfl
theorem fd75_8 : fldB Tryz.prog 75 8 = some (3, 11) := by kernel_rfl
theorem fd75_9 : fldB Tryz.prog 75 9 = some (3, 12) := by kernel_rfl
theorem fd75_10 : fldB Tryz.prog 75 10 = some (3, 13) := by kernel_rfl
theorem fd75_11 : fldB Tryz.prog 75 11 = some (24, 14) := by kernel_rfl
theorem fd75_12 : fldB Tryz.prog 75 12 = some (24, 15) := by kernel_rfl
theorem fd75_13 : fldB Tryz.prog 75 13 = some (73, 16) := by kernel_rfl
theorem fd75_14 : fldB Tryz.prog 75 14 = some (73, 17) := by kernel_rfl
theorem fd75_15 : fldB Tryz.prog 75 15 = some (24, 18) := by kernel_rfl
theorem op75 : Opens Tryz.prog 75 19 Thread.K Thread.wf := by
  refine ⟨by kernel_rfl, fun H enc W sp fuel cs y h => ?_⟩
  have hl : cs.length = 19 := (trod_len fd75_0 h).trans (by kernel_rfl)
  have e19 : cs.drop 19 = [] := List.drop_eq_nil_of_le (by omega)
  obtain ⟨x0, k0, w0⟩ := Opens.field op3 fd75_0 h
  obtain ⟨x1, k1, w1⟩ := Opens.field op71 fd75_1 h
  obtain ⟨x2, k2, w2⟩ := Opens.field op72 fd75_2 h
  obtain ⟨x3, k3, w3⟩ := Opens.field op3 fd75_3 h
  obtain ⟨x4, k4, w4⟩ := Opens.field op3 fd75_4 h
  obtain ⟨x5, k5, w5⟩ := Opens.field op3 fd75_5 h
  obtain ⟨x6, k6, w6⟩ := Opens.field op3 fd75_6 h
  obtain ⟨x7, k7, w7⟩ := Opens.field op3 fd75_7 h
  obtain ⟨x8, k8, w8⟩ := Opens.field op3 fd75_8 h
  obtain ⟨x9, k9, w9⟩ := Opens.field op3 fd75_9 h
  obtain ⟨x10, k10, w10⟩ := Opens.field op3 fd75_10 h
  obtain ⟨x11, ⟨v11, k11, r11⟩, w11⟩ := Opens.field op24 fd75_11 h
  obtain ⟨x12, ⟨v12, k12, r12⟩, w12⟩ := Opens.field op24 fd75_12 h
  obtain ⟨x13, ⟨v13, k13, r13⟩, w13⟩ := Opens.field op73 fd75_13 h
  obtain ⟨x14, ⟨v14, k14, r14⟩, w14⟩ := Opens.field op73 fd75_14 h
  obtain ⟨x15, ⟨v15, k15, r15⟩, w15⟩ := Opens.field op24 fd75_15 h
  have e18 : cs.drop 18 = [v15] ++ [] := by rw [drop_split cs 18 1, e19]; exact congrArg (· ++ _) k15
  have e17 : cs.drop 17 = [v14] ++ ([v15] ++ []) := by rw [drop_split cs 17 1, e18]; exact congrArg (· ++ _) k14
  have e16 : cs.drop 16 = [v13] ++ ([v14] ++ ([v15] ++ [])) := by rw [drop_split cs 16 1, e17]; exact congrArg (· ++ _) k13
  have e15 : cs.drop 15 = [v12] ++ ([v13] ++ ([v14] ++ ([v15] ++ []))) := by rw [drop_split cs 15 1, e16]; exact congrArg (· ++ _) k12
  have e14 : cs.drop 14 = [v11] ++ ([v12] ++ ([v13] ++ ([v14] ++ ([v15] ++ [])))) := by rw [drop_split cs 14 1, e15]; exact congrArg (· ++ _) k11
  have e13 : cs.drop 13 = [vi x10] ++ ([v11] ++ ([v12] ++ ([v13] ++ ([v14] ++ ([v15] ++ []))))) := by rw [drop_split cs 13 1, e14]; exact congrArg (· ++ _) k10
  have e12 : cs.drop 12 = [vi x9] ++ ([vi x10] ++ ([v11] ++ ([v12] ++ ([v13] ++ ([v14] ++ ([v15] ++ [])))))) := by rw [drop_split cs 12 1, e13]; exact congrArg (· ++ _) k9
  have e11 : cs.drop 11 = [vi x8] ++ ([vi x9] ++ ([vi x10] ++ ([v11] ++ ([v12] ++ ([v13] ++ ([v14] ++ ([v15] ++ []))))))) := by rw [drop_split cs 11 1, e12]; exact congrArg (· ++ _) k8
  have e10 : cs.drop 10 = [vi x7] ++ ([vi x8] ++ ([vi x9] ++ ([vi x10] ++ ([v11] ++ ([v12] ++ ([v13] ++ ([v14] ++ ([v15] ++ [])))))))) := by rw [drop_split cs 10 1, e11]; exact congrArg (· ++ _) k7
  have e9 : cs.drop 9 = [vi x6] ++ ([vi x7] ++ ([vi x8] ++ ([vi x9] ++ ([vi x10] ++ ([v11] ++ ([v12] ++ ([v13] ++ ([v14] ++ ([v15] ++ []))))))))) := by rw [drop_split cs 9 1, e10]; exact congrArg (· ++ _) k6
  have e8 : cs.drop 8 = [vi x5] ++ ([vi x6] ++ ([vi x7] ++ ([vi x8] ++ ([vi x9] ++ ([vi x10] ++ ([v11] ++ ([v12] ++ ([v13] ++ ([v14] ++ ([v15] ++ [])))))))))) := by rw [drop_split cs 8 1, e9]; exact congrArg (· ++ _) k5
  have e7 : cs.drop 7 = [vi x4] ++ ([vi x5] ++ ([vi x6] ++ ([vi x7] ++ ([vi x8] ++ ([vi x9] ++ ([vi x10] ++ ([v11] ++ ([v12] ++ ([v13] ++ ([v14] ++ ([v15] ++ []))))))))))) := by rw [drop_split cs 7 1, e8]; exact congrArg (· ++ _) k4
  have e6 : cs.drop 6 = [vi x3] ++ ([vi x4] ++ ([vi x5] ++ ([vi x6] ++ ([vi x7] ++ ([vi x8] ++ ([vi x9] ++ ([vi x10] ++ ([v11] ++ ([v12] ++ ([v13] ++ ([v14] ++ ([v15] ++ [])))))))))))) := by rw [drop_split cs 6 1, e7]; exact congrArg (· ++ _) k3
  have e4 : cs.drop 4 = Result.enc x2 ++ ([vi x3] ++ ([vi x4] ++ ([vi x5] ++ ([vi x6] ++ ([vi x7] ++ ([vi x8] ++ ([vi x9] ++ ([vi x10] ++ ([v11] ++ ([v12] ++ ([v13] ++ ([v14] ++ ([v15] ++ []))))))))))))) := by rw [drop_split cs 4 2, e6]; exact congrArg (· ++ _) k2
  have e1 : cs.drop 1 = Op.enc x1 ++ (Result.enc x2 ++ ([vi x3] ++ ([vi x4] ++ ([vi x5] ++ ([vi x6] ++ ([vi x7] ++ ([vi x8] ++ ([vi x9] ++ ([vi x10] ++ ([v11] ++ ([v12] ++ ([v13] ++ ([v14] ++ ([v15] ++ [])))))))))))))) := by rw [drop_split cs 1 3, e4]; exact congrArg (· ++ _) k1
  have e0 : cs.drop 0 = [vi x0] ++ (Op.enc x1 ++ (Result.enc x2 ++ ([vi x3] ++ ([vi x4] ++ ([vi x5] ++ ([vi x6] ++ ([vi x7] ++ ([vi x8] ++ ([vi x9] ++ ([vi x10] ++ ([v11] ++ ([v12] ++ ([v13] ++ ([v14] ++ ([v15] ++ []))))))))))))))) := by rw [drop_split cs 0 1, e1]; exact congrArg (· ++ _) k0
  exact ⟨⟨x0, x1, x2, x3, x4, x5, x6, x7, x8, x9, x10, x11, x12, x13, x14, x15⟩, ⟨v11, v12, v13, v14, v15, (List.drop_zero (l := cs)).symm.trans e0, r11, r12, r13, r14, r15⟩, hl, w0, w1, w2, w3, w4, w5, w6, w7, w8, w9, w10, w11, w12, w13, w14, w15⟩
theorem op25 : Opens Tryz.prog 25 1 (fun W xs cs => ∃ v, cs = [v] ∧ threadEK.Rd W v xs) (fun xs => ∀ x ∈ xs, Thread.wf x) := opens_slice op75 (by decide) (by kernel_rfl) (by kernel_rfl)
theorem fd27_0 : fldB Tryz.prog 27 0 = some (23, 0) := by kernel_rfl
theorem fd27_1 : fldB Tryz.prog 27 1 = some (24, 6) := by kernel_rfl
theorem fd27_2 : fldB Tryz.prog 27 2 = some (24, 7) := by kernel_rfl
theorem fd27_3 : fldB Tryz.prog 27 3 = some (25, 8) := by kernel_rfl
theorem fd27_4 : fldB Tryz.prog 27 4 = some (3, 9) := by kernel_rfl
theorem fd27_5 : fldB Tryz.prog 27 5 = some (3, 10) := by kernel_rfl
theorem fd27_6 : fldB Tryz.prog 27 6 = some (3, 11) := by kernel_rfl
theorem fd27_7 : fldB Tryz.prog 27 7 = some (3, 12) := by kernel_rfl
theorem op27 : Opens Tryz.prog 27 13 State.K State.wf := by
  refine ⟨by kernel_rfl, fun H enc W sp fuel cs y h => ?_⟩
  have hl : cs.length = 13 := (trod_len fd27_0 h).trans (by kernel_rfl)
  have e13 : cs.drop 13 = [] := List.drop_eq_nil_of_le (by omega)
  obtain ⟨x0, k0, w0⟩ := Opens.field op23 fd27_0 h
  obtain ⟨x1, ⟨v1, k1, r1⟩, w1⟩ := Opens.field op24 fd27_1 h
  obtain ⟨x2, ⟨v2, k2, r2⟩, w2⟩ := Opens.field op24 fd27_2 h
  obtain ⟨x3, ⟨v3, k3, r3⟩, w3⟩ := Opens.field op25 fd27_3 h
  obtain ⟨x4, k4, w4⟩ := Opens.field op3 fd27_4 h
  obtain ⟨x5, k5, w5⟩ := Opens.field op3 fd27_5 h
  obtain ⟨x6, k6, w6⟩ := Opens.field op3 fd27_6 h
  obtain ⟨x7, k7, w7⟩ := Opens.field op3 fd27_7 h
  have e12 : cs.drop 12 = [vi x7] ++ [] := by rw [drop_split cs 12 1, e13]; exact congrArg (· ++ _) k7
  have e11 : cs.drop 11 = [vi x6] ++ ([vi x7] ++ []) := by rw [drop_split cs 11 1, e12]; exact congrArg (· ++ _) k6
  have e10 : cs.drop 10 = [vi x5] ++ ([vi x6] ++ ([vi x7] ++ [])) := by rw [drop_split cs 10 1, e11]; exact congrArg (· ++ _) k5
  have e9 : cs.drop 9 = [vi x4] ++ ([vi x5] ++ ([vi x6] ++ ([vi x7] ++ []))) := by rw [drop_split cs 9 1, e10]; exact congrArg (· ++ _) k4
  have e8 : cs.drop 8 = [v3] ++ ([vi x4] ++ ([vi x5] ++ ([vi x6] ++ ([vi x7] ++ [])))) := by rw [drop_split cs 8 1, e9]; exact congrArg (· ++ _) k3
  have e7 : cs.drop 7 = [v2] ++ ([v3] ++ ([vi x4] ++ ([vi x5] ++ ([vi x6] ++ ([vi x7] ++ []))))) := by rw [drop_split cs 7 1, e8]; exact congrArg (· ++ _) k2
  have e6 : cs.drop 6 = [v1] ++ ([v2] ++ ([v3] ++ ([vi x4] ++ ([vi x5] ++ ([vi x6] ++ ([vi x7] ++ [])))))) := by rw [drop_split cs 6 1, e7]; exact congrArg (· ++ _) k1
  have e0 : cs.drop 0 = Config.enc x0 ++ ([v1] ++ ([v2] ++ ([v3] ++ ([vi x4] ++ ([vi x5] ++ ([vi x6] ++ ([vi x7] ++ []))))))) := by rw [drop_split cs 0 6, e6]; exact congrArg (· ++ _) k0
  exact ⟨⟨x0, x1, x2, x3, x4, x5, x6, x7⟩, ⟨v1, v2, v3, (List.drop_zero (l := cs)).symm.trans e0, r1, r2, r3⟩, hl, w0, w1, w2, w3, w4, w5, w6, w7⟩
namespace fnExactStepRead
open Go.ChangeShapes Go.WideShapes Go.ChangeAt Go.RowKit
theorem laidOut : laidOutB Tryz.prog = true := by kernel_rfl
theorem own : ownKnob Tryz.prog.godebug = none := by kernel_rfl
set_option maxRecDepth 100000 in
theorem lifted (os : Os) (started : os.Started) (H : Type) (enc : TypeId × Value → H) :
    ReturnsInHanded {} Tryz.checked os 5 .any (Rows.fnExactStepReadSpec.pre6 enc Tryz.prog Tryz.f5 Rows.fnExactStepReadRow.domain false) (Rows.fnExactStepReadSpec.post enc Tryz.prog Tryz.f5 false true false false) := by
  refine returnsInHanded_of_change_sized (C := Tryz.checked) own started (by kernel_rfl) Tryz.func5
    (ChangeSpec.witness6 (enc := enc) (C := Tryz.checked) false ⟨#[], #[.agg #[.int .i64 0, .int .i64 0, .int .i64 0, .int .i64 0, .int .i64 0, .int .i64 0, .slice none 0 0, .slice none 0 0, .slice none 0 0, .int .i64 0, .int .i64 0, .int .i64 0, .int .i64 0], .int .i64 0], []⟩ 8 (by kernel_rfl) (by kernel_rfl) (by kernel_rfl) (by kernel_rfl)) ?_
  intro W base args ds gs before hval0 hW hcnd hsz0 _
  have hval : ∀ (j : Nat) t v, Tryz.f5.params[j]? = some t → args[j]? = some v → Value.okWide Tryz.prog W .any base t v := hval0
  have hW' := hW
  obtain ⟨p, q, hA0, hV, rfl, hfz, hnd⟩ := hW
  have hA : DataW.TrodAll enc Tryz.prog W 0 (fun _ => true) true Tryz.f5.params.toList args.toList ds p := hA0
  rw [Tryz.params5] at hA hval
  obtain ⟨v0, vs0, d0, ds0, p0, q0, hargs, rfl, rfl, h0, r0⟩ := trodAll_cons hA
  obtain ⟨v1, vs1, d1, ds1, p1, q1, rfl, rfl, rfl, h1, r1⟩ := trodAll_cons r0
  obtain ⟨rfl, rfl, rfl⟩ := trodAll_nil r1
  obtain rfl : args = #[v0, v1] := by cases args; simp_all
  obtain ⟨rfl, rfl⟩ := trodVars_none hV
  have kk0 := h0
  have lt0 : ∀ x ∈ p0, x.block < W.heap.size := by obtain ⟨m, hm⟩ := kk0; exact DataW.trod_lt m _ _ _ hm
  obtain ⟨c0, rfl⟩ := okWide_struct fd27_0 (hval 0 27 v0 rfl rfl)
  obtain ⟨m0, hm0⟩ := h0; rw [agg_cells] at hm0
  obtain ⟨x0, k0, _, ok0⟩ := (op27).2 _ _ _ _ _ _ _ hm0; clear hm0
  have kk1 := h1
  have lt1 : ∀ x ∈ p1, x.block < W.heap.size := by obtain ⟨m, hm⟩ := kk1; exact DataW.trod_lt m _ _ _ hm
  obtain ⟨x1, rfl, _, _, ok1⟩ := open_int (by kernel_rfl : Tryz.prog.underlying 3 = some (.int .i64)) (hval 1 3 v1 rfl rfl) h1; replace ok1 := wf_i64 ok1
  clear hA0 hval0
  refine (law_FnExactStepRead k0 ok0 ok1).mono ?_
  rintro e W' ⟨v, rfl, rfl, bel⟩
  exact ⟨_, rfl, _, _, _, [], _, [], hW', trodAll_mk1 (shut_bool (by kernel_rfl : Tryz.prog.underlying 4 = some .bool) _), (trodAll_cons_mk (Below.trod laidOut (by kernel_rfl) (of_decide_eq_true (by kernel_rfl)) kk0 bel lt0) (trodAll_cons_mk (Below.trod laidOut (by kernel_rfl) (of_decide_eq_true (by kernel_rfl)) kk1 bel lt1) trodAll_mk0)), rfl, bel.frame _, fun h => by cases h⟩
def restSigns : List Char := Sl.ch [97, 116, 32, 108, 111, 111, 112, 46, 101, 120, 97, 109, 112, 108, 101, 47, 103, 48, 49, 54, 50, 56, 47, 108, 97, 119, 115, 46, 70, 110, 69, 120, 97, 99, 116, 83, 116, 101, 112, 66, 101, 103, 105, 110, 32, 108, 111, 111, 112, 46, 101, 120, 97, 109, 112, 108, 101, 47, 103, 48, 49, 54, 50, 56, 47, 108, 97, 119, 115, 46, 70, 110, 69, 120, 97, 99, 116, 83, 116, 101, 112, 87, 97, 108, 107, 32, 108, 111, 111, 112, 46, 101, 120, 97, 109, 112, 108, 101, 47, 103, 48, 49, 54, 50, 56, 47, 108, 97, 119, 115, 46, 70, 110, 69, 120, 97, 99, 116, 83, 116, 101, 112, 82, 101, 97, 100, 32, 108, 111, 111, 112, 46, 101, 120, 97, 109, 112, 108, 101, 47, 103, 48, 49, 54, 50, 56, 47, 108, 97, 119, 115, 46, 70, 110, 69, 120, 97, 99, 116, 83, 116, 101, 112, 82, 101, 99, 108, 97, 105, 109, 32, 108, 111, 111, 112, 46, 101, 120, 97, 109, 112, 108, 101, 47, 103, 48, 49, 54, 50, 56, 47, 108, 97, 119, 115, 46, 70, 110, 69, 120, 97, 99, 116, 83, 116, 101, 112, 70, 108, 117, 115, 104, 32, 108, 111, 111, 112, 46, 101, 120, 97, 109, 112, 108, 101, 47, 103, 48, 49, 54, 50, 56, 47, 108, 97, 119, 115, 46, 70, 110, 69, 120, 97, 99, 116, 70, 114, 101, 101, 78, 111, 100, 101, 115]
theorem order : Tryz.pinned.checked.prog.initOrder = String.ofList (Sl.ch [104, 97, 114, 110, 101, 115, 115] ++ Sl.sp :: (Sl.ch [56, 56, 101, 52, 101, 49, 99, 52, 48, 48, 56, 101, 48, 101, 100, 51, 51, 49, 101, 51, 102, 56, 97, 49, 57, 52, 97, 52, 55, 56, 97, 49, 100, 102, 97, 52, 97, 55, 52, 99, 101, 48, 51, 54, 50, 101, 56, 57, 101, 97, 57, 99, 102, 97, 98, 101, 102, 50, 100, 98, 100, 56, 56, 57] ++ Sl.sp :: (Sl.ch [99, 117, 116] ++ Sl.sp :: restSigns))) := by kernel_rfl
theorem behind (X : List (List Char)) : behindMainWord (Sl.ch [104, 97, 114, 110, 101, 115, 115] :: Sl.ch [56, 56, 101, 52, 101, 49, 99, 52, 48, 48, 56, 101, 48, 101, 100, 51, 51, 49, 101, 51, 102, 56, 97, 49, 57, 52, 97, 52, 55, 56, 97, 49, 100, 102, 97, 52, 97, 55, 52, 99, 101, 48, 51, 54, 50, 101, 56, 57, 101, 97, 57, 99, 102, 97, 98, 101, 102, 50, 100, 98, 100, 56, 56, 57] :: Sl.ch [99, 117, 116] :: X) = "cut".toList :: X := by kernel_rfl
theorem heads : behindMainWord (wordsSigns Tryz.pinned.checked.prog.initOrder.toList) = "cut".toList :: wordsSigns restSigns := by
  rw [order, String.toList_ofList, Sl.words_sp _ _ (by decide), Sl.words_sp _ _ (by decide), Sl.words_sp _ _ (by decide)]; exact behind _
theorem facts : joinedFacts Tryz.pinned.checked.prog 5 Tryz.f5 Rows.fnExactStepReadSpec Rows.fnExactStepReadRow = true := by
  unfold joinedFacts; rw [Sl.enter_of heads (by kernel_rfl) (by kernel_rfl) (by kernel_rfl), Sl.final_of heads, Sl.made_of heads]; kernel_rfl
theorem over : Rows.fnExactStepReadRow.holds Tryz.pinned (OpenSpec.ofChange Rows.fnExactStepReadSpec) :=
  OpenClaim.holds_of_wide 5 Tryz.f5 rfl rfl rfl rfl rfl rfl rfl ⟨rfl, rfl, rfl, rfl, rfl⟩ rfl rfl rfl rfl rfl (by kernel_rfl) Tryz.func5 facts
    (of_decide_eq_true (by kernel_rfl)) (by unfold Func.isWrapper; first | (rw [if_pos (by decide +kernel)]; kernel_rfl) | (rw [if_neg (by decide +kernel)]; exact ⟨rfl, rfl⟩))
    (fun os started H enc _ => lifted os started H enc)
theorem proved : Rows.FnExactStepReadSaid := over
end fnExactStepRead
/-- The row, under a short name. -/
theorem fnExactStepRead_holds : Rows.FnExactStepReadSaid := fnExactStepRead.proved
end Go.Proofs.YtifhfodphoeeoaaGreat
