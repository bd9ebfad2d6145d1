/- Walks: the law on Explains. -/
import Derived.Test.YteldnoimmjihoaaChecked
import Derived.Test.YteldnoimmjihoaaWkX
import Derived.Test.YteldnoimmjihoaaFactsB
namespace Go.Proofs.Yteldnoimmjihoaa.Wk
open Go Go.RowKit Sl
set_option linter.unusedVariables false
set_option linter.unusedSimpArgs false
set_option maxRecDepth 20000

set_option maxHeartbeats 4000000 in
set_option maxRecDepth 20000 in
theorem law_FnExactExplains {W : World} {c : Config} {m : Model} {cs : List Value} {e : Sl.Event} (hm : modelEK.K W m cs) : Calls Try.prog 3 #[.agg c.enc.toArray, .agg cs.toArray, .agg e.enc.toArray] W (Ret fun v w' => v = .bool true ∧ Below W.heap.size W w') := by
  refine calls_fr Try.func3 rfl Try.ntmps3 rfl ?_
  intro a hF
  have hS := Sep.refl W
  obtain ⟨v0, v1, rfl, r0, r1⟩ := hm
  have hm : modelEK.K W m (m.encv v0 v1) := ⟨_, _, rfl, r0, r1⟩
  have hcnt := explains_cnt (c := c) (m := m) (e := e)
  have hcs := Model.cnt_size m
  have hvs : m.values.length ≤ m.size := by unfold Model.size; omega
  refine ws fun K1 hK1 => ?_
  refine wl_box (cs := [_, _, _, _, _, _]) hF hS rfl (hF.ev rfl) rfl ?_; clear hF a; intro g1 w1 a hS_ hB_ hF; replace hS := hS_; clear hS_ hB_
  refine wl_box (cs := [_, _]) hF hS rfl (hF.ev rfl) rfl ?_; clear hF a; intro g2 w2 a hS_ hB_ hF; replace hS := hS_; clear hS_ hB_
  refine wl_box (cs := [_, _, _, _, _, _, _, _]) hF hS rfl (hF.ev rfl) rfl ?_; clear hF a; intro g3 w3 a hS_ hB_ hF; replace hS := hS_; clear hS_ hB_
  refine wl_mvs (A := [_]) hF rfl ?_; clear hF a; intro a hF
  refine wl_nil (hK1 _ _ ?_)
  refine ws fun K2 hK2 => ?_
  refine wl_mvs (A := [_]) hF rfl ?_; clear hF a; intro a hF
  refine wl_nil (hK2 _ _ ?_)
  refine ws fun K3 hK3 => ?_
  refine wl hF rfl rfl rfl (r_loadn ag27 (hF.ev rfl) (hS.box_rd (i := 1) rfl) sz27) ?_; clear hF a; intro a hF
  refine wl_mvs (A := [_]) hF rfl ?_; clear hF a; intro a hF
  refine wl_call hF rfl rfl rfl (r_call2 en8 (hF.ev rfl) (hF.ev rfl)) (szModel_c (hS.k hm) (by omega) (by omega)) ?_; clear hF a; rintro v w4 a ⟨⟨r20, rfl, e1_20, e2_20, e3_20⟩, hB_⟩ hF; replace hS := hS.ext hB_; clear hB_
  refine wl_mvs (A := [_]) hF rfl ?_; clear hF a; intro a hF
  refine wl_nil (hK3 _ _ ?_)
  refine wp_seq_k fun K4 hK4 => ?_
  refine ws fun K5 hK5 => ?_
  refine wl_mvs (A := [_]) hF rfl ?_; clear hF a; intro a hF
  refine wl hF rfl rfl rfl (r_lss (hF.ev rfl) ec) ?_; clear hF a; intro a hF
  refine wl_nil (hK5 _ _ ?_)
  first | refine wc_dec (hF.ev rfl) (fun c22 => ?_) (fun c22 => ?_) | refine wc_ndec (hF.ev rfl) (fun c22 => ?_) (fun c22 => ?_) | refine wc_b (hF.ev rfl) (fun c22 => ?_) (fun c22 => ?_)
  ·
    refine ws fun K6 hK6 => ?_
    refine wl_mvs (A := [_]) hF rfl ?_; clear hF a; intro a hF
    refine wl_nil (hK6 _ _ ?_)
    refine wp_ret ?_
    try simp only [Exit.then, Exit.inBlock, ↓reduceIte]
    exact ret1 rfl hF rfl ⟨rfl, hS.old⟩
  refine wp_skip ?_
  refine hK4 _ _ ?_
  refine wp_seq_k fun K7 hK7 => ?_
  refine wp_region_todo (is := [0, 2, 4, 1, 3, 5, 6, 7, 8, 9, 11, 12]) [(10, 8, [.slice none 0 0, .slice none 0 0])] [11, 12] (by kernel_rfl) hF hS ⟨⟨⟨_, _, _, rfl, zr35⟩, trivial⟩, by decide, by decide, by decide⟩ (by kernel_rfl) ?_; clear hF; intro hl_ wd hSd
  refine todo_quiet hl_ (by kernel_rfl) rfl rfl rfl rfl rfl (fun a w_ hF hB_ => r_loadn ag23 (hF.ev rfl) ((hSd.ext hB_).box_rd (i := 2) rfl) sz23) ?_
  refine todo_quiet hl_ (by kernel_rfl) rfl rfl rfl rfl rfl (fun a w_ hF hB_ => r_loadn ag27 (hF.ev rfl) ((hSd.ext hB_).box_rd (i := 1) rfl) sz27) ?_
  refine todo_quiet hl_ (by kernel_rfl) rfl rfl rfl rfl rfl (fun a w_ hF hB_ => r_loadn ag33 (hF.ev rfl) ((hSd.ext hB_).box_rd (i := 0) rfl) sz33) ?_
  refine todo_rd hl_ rfl (by kernel_rfl) rfl rfl rfl rfl rfl (fun a w_ hF => r_call1 en10 (hF.ev rfl)) (fun w_ hS => toConfig_c _) ?_
  refine todo_mk hl_ rfl (by kernel_rfl) rfl rfl rfl rfl rfl (fun a w_ hF => r_call1 en11 (hF.ev rfl)) (fun w_ hS => toModel_c (hS.k hm) (by omega)) ?_; rintro vs27
  refine todo_rd hl_ rfl (by kernel_rfl) rfl rfl rfl rfl rfl (fun a w_ hF => r_call1 en12 (hF.ev rfl)) (fun w_ hS => toEvent_c _) ?_
  refine todo_mk hl_ rfl (by kernel_rfl) rfl rfl rfl rfl rfl (fun a w_ hF => r_call3 en9 (hF.ev rfl) (hF.ev rfl) (hF.ev rfl)) (fun w_ hS => specExplains_c (hS.part_k (i := 0) rfl) (by omega)) ?_; rintro vs30
  refine todo_pure hl_ (by kernel_rfl) rfl (gw0 rfl) rfl rfl rfl (fun a w_ hF => r_move (hF.ev rfl)) ?_
  refine todo_pure hl_ (by kernel_rfl) rfl (gw0 rfl) rfl rfl rfl (fun a w_ hF => r_extract (hF.ev rfl) rfl) ?_
  refine todo_pure hl_ (by kernel_rfl) rfl (gw0 rfl) rfl rfl rfl (fun a w_ hF => r_extract (hF.ev rfl) rfl) ?_
  refine todo_fin hl_ rfl (by kernel_rfl) (tl := [_, _]) rfl ?_; clear hS a; intro a w5 hF hA_
  obtain ⟨g4, hS, he_0⟩ := hA_.open1; clear hA_
  replace hF := hF.more he_0; clear he_0
  clear hl_; try clear hSd
  try dsimp only [List.cons_append, List.nil_append, List.set] at hS
  try clear wd
  refine wl_storew hF hS (i := 0) rfl (hF.ev rfl) (hF.ev rfl) sz35 rfl rfl ?_; intro w6 hS_; replace hS := hS_; clear hS_; dsimp only [List.set, Nat.reduceAdd] at hS
  refine wl_mvs (A := [_]) hF rfl ?_; clear hF a; intro a hF
  refine wl_nil ⟨rfl, ?_⟩
  refine hK7 _ _ ?_
  refine ws fun K8 hK8 => ?_
  refine wl hF rfl rfl rfl (r_loadn ag27 (hF.ev rfl) (hS.box_rd (i := 4) rfl) sz27) ?_; clear hF a; intro a hF
  refine wl_mk hF hS rfl rfl rfl (r_call1 en11 (hF.ev rfl)) (toModel_c (hS.k hm) (by omega)) ?_; clear hF a; rintro vs34 w7 a hS_ hF; replace hS := hS_; clear hS_; dsimp only [List.cons_append, List.nil_append] at hS
  refine wl_alloc hF hS rfl zr35 ?_; clear hF a; intro g5 w8 a hS_ hB_ hF; replace hS := hS_; clear hS_ hB_
  refine wl_storew hF hS (i := 0) rfl (hF.ev rfl) (hF.ev rfl) sz35 rfl rfl ?_; intro w9 hS_; replace hS := hS_; clear hS_; dsimp only [List.set, Nat.reduceAdd] at hS
  refine wl_nil (hK8 _ _ ?_)
  refine wp_seq_k fun K9 hK9 => ?_
  refine wp_region_todo (is := [0, 2, 3, 1, 4, 5, 6, 7, 8, 10, 11]) [(9, 11, [.slice none 0 0, .slice none 0 0])] [10, 11] (by kernel_rfl) hF hS ⟨⟨⟨_, _, _, rfl, zr35⟩, trivial⟩, by decide, by decide, by decide⟩ (by kernel_rfl) ?_; clear hF; intro hl_ wd hSd
  refine todo_quiet hl_ (by kernel_rfl) rfl rfl rfl rfl rfl (fun a w_ hF hB_ => r_loadn ag23 (hF.ev rfl) ((hSd.ext hB_).box_rd (i := 7) rfl) sz23) ?_
  refine todo_quiet hl_ (by kernel_rfl) rfl rfl rfl rfl rfl (fun a w_ hF hB_ => r_loadn ag35 (hF.ev rfl) ((hSd.ext hB_).box_rd (i := 0) rfl) sz35) ?_
  refine todo_quiet hl_ (by kernel_rfl) rfl rfl rfl rfl rfl (fun a w_ hF hB_ => r_loadn ag33 (hF.ev rfl) ((hSd.ext hB_).box_rd (i := 5) rfl) sz33) ?_
  refine todo_rd hl_ rfl (by kernel_rfl) rfl rfl rfl rfl rfl (fun a w_ hF => r_call1 en10 (hF.ev rfl)) (fun w_ hS => toConfig_c _) ?_
  refine todo_rd hl_ rfl (by kernel_rfl) rfl rfl rfl rfl rfl (fun a w_ hF => r_call1 en12 (hF.ev rfl)) (fun w_ hS => toEvent_c _) ?_
  refine todo_mk hl_ rfl (by kernel_rfl) rfl rfl rfl rfl rfl (fun a w_ hF => r_call3 en13 (hF.ev rfl) (hF.ev rfl) (hF.ev rfl)) (fun w_ hS => implExplains_c (hS.part_k (i := 1) rfl) (by omega)) ?_; rintro vs41
  refine todo_pure hl_ (by kernel_rfl) rfl (gw0 rfl) rfl rfl rfl (fun a w_ hF => r_move (hF.ev rfl)) ?_
  refine todo_pure hl_ (by kernel_rfl) rfl (gw0 rfl) rfl rfl rfl (fun a w_ hF => r_extract (hF.ev rfl) rfl) ?_
  refine todo_pure hl_ (by kernel_rfl) rfl (gw0 rfl) rfl rfl rfl (fun a w_ hF => r_extract (hF.ev rfl) rfl) ?_
  refine todo_fin hl_ rfl (by kernel_rfl) (tl := [_, _]) rfl ?_; clear hS a; intro a w10 hF hA_
  obtain ⟨g6, hS, he_0⟩ := hA_.open1; clear hA_
  replace hF := hF.more he_0; clear he_0
  clear hl_; try clear hSd
  try dsimp only [List.cons_append, List.nil_append, List.set] at hS
  try clear wd
  refine wl_storew hF hS (i := 0) rfl (hF.ev rfl) (hF.ev rfl) sz35 rfl rfl ?_; intro w11 hS_; replace hS := hS_; clear hS_; dsimp only [List.set, Nat.reduceAdd] at hS
  refine wl_mvs (A := [_]) hF rfl ?_; clear hF a; intro a hF
  refine wl_nil ⟨rfl, ?_⟩
  refine hK9 _ _ ?_
  refine wp_seq_k fun K10 hK10 => ?_
  refine ws fun K11 hK11 => ?_
  refine wl hF rfl rfl rfl (r_loadn ag35 (hF.ev rfl) (hS.box_rd (i := 0) rfl) sz35) ?_; clear hF a; intro a hF
  refine wl hF rfl rfl rfl (r_loadn ag35 (hF.ev rfl) (hS.box_rd (i := 4) rfl) sz35) ?_; clear hF a; intro a hF
  refine wl_call hF rfl rfl rfl (r_call2 en14 (hF.ev rfl) (hF.ev rfl)) (eqModel_same (hS.part_k (i := 1) rfl) (hS.part_k (i := 5) rfl)) ?_; clear hF a; rintro v w12 a ⟨rfl, hB_⟩ hF; replace hS := hS.ext hB_; clear hB_
  refine wl hF rfl rfl rfl (r_not (hF.ev rfl)) ?_; clear hF a; intro a hF
  refine wl_mvs (A := [_, _, _]) hF rfl ?_; clear hF a; intro a hF
  refine wl_take hF rfl rfl rfl rfl ?_
  refine wl hF rfl rfl rfl (r_neqb bl4 (hF.ev rfl) (hF.ev rfl)) ?_; clear hF a; intro a hF
  refine wl hF rfl rfl rfl (r_pick_f (hF.ev rfl) (hF.ev rfl)) ?_; clear hF a; intro a hF
  refine wl_nil (hK11 _ _ ?_)
  first | refine wc_dec (hF.ev rfl) (fun c52 => ?_) (fun c52 => ?_) | refine wc_ndec (hF.ev rfl) (fun c52 => ?_) (fun c52 => ?_) | refine wc_b (hF.ev rfl) (fun c52 => ?_) (fun c52 => ?_)
  · exfalso; first | omega | exact (c52 rfl).elim | (simp_all; done)
  refine wp_skip ?_
  refine hK10 _ _ ?_
  refine wp_seq_k fun K12 hK12 => ?_
  refine wp_seq_k fun K13 hK13 => ?_
  refine wp_region_todo (is := [0, 1, 2, 3, 4]) [] [] (by kernel_rfl) hF hS ⟨trivial, by decide, by decide, by decide⟩ (by kernel_rfl) ?_; clear hF; intro hl_ wd hSd
  refine todo_quiet hl_ (by kernel_rfl) rfl rfl rfl rfl rfl (fun a w_ hF hB_ => r_loadn ag35 (hF.ev rfl) ((hSd.ext hB_).box_rd (i := 2) rfl) sz35) ?_
  refine todo_quiet hl_ (by kernel_rfl) rfl rfl rfl rfl rfl (fun a w_ hF hB_ => r_loadn ag27 (hF.ev rfl) ((hSd.ext hB_).box_rd (i := 8) rfl) sz27) ?_
  refine todo_mk hl_ rfl (by kernel_rfl) rfl rfl rfl rfl rfl (fun a w_ hF => r_call1 en11 (hF.ev rfl)) (fun w_ hS => toModel_c (hS.k hm) (by omega)) ?_; rintro vs55
  refine todo_rd hl_ rfl (by kernel_rfl) rfl rfl rfl rfl rfl (fun a w_ hF => r_call2 en14 (hF.ev rfl) (hF.ev rfl)) (fun w_ hS => eqModel_same (hS.part_k (i := 4) rfl) (hS.part_k (i := 0) rfl)) ?_
  refine todo_pure hl_ (by kernel_rfl) rfl (gw0 rfl) rfl rfl rfl (fun a w_ hF => r_not (hF.ev rfl)) ?_
  refine todo_fin hl_ rfl (by kernel_rfl) (tl := []) rfl ?_; clear hS a; intro a w13 hF hA_
  have hS := hA_.sep; clear hA_
  clear hl_; try clear hSd
  try dsimp only [List.cons_append, List.nil_append, List.set] at hS
  try clear wd
  refine wl_nil ⟨rfl, ?_⟩
  refine hK13 _ _ ?_
  refine wc_false (hF.ev rfl) ?_
  refine wp_skip ?_
  refine hK12 _ _ ?_
  refine ws fun K14 hK14 => ?_
  refine wl_mvs (A := [_]) hF rfl ?_; clear hF a; intro a hF
  refine wl_nil (hK14 _ _ ?_)
  refine ws fun K15 hK15 => ?_
  refine wl hF rfl rfl rfl (r_loadn ag35 (hF.ev rfl) (hS.box_rd (i := 3) rfl) sz35) ?_; clear hF a; intro a hF
  refine wl_mvs (A := [_]) hF rfl ?_; clear hF a; intro a hF
  replace hS := hS.pull (p := 4) rfl; dsimp only [List.eraseIdx] at hS
  refine wl_call hF rfl rfl rfl (r_call2 en15 (hF.ev rfl) (hF.ev rfl)) (markModel_c hS (by omega) (by omega)) ?_; clear hF a; rintro v w14 a ⟨rfl, hS_⟩ hF; replace hS := hS_; clear hS_
  refine wl_mvs (A := [_]) hF rfl ?_; clear hF a; intro a hF
  refine wl_nil (hK15 _ _ ?_)
  refine wp_seq_k fun K16 hK16 => ?_
  refine ws fun K17 hK17 => ?_
  refine wl_mvs (A := [_]) hF rfl ?_; clear hF a; intro a hF
  refine wl hF rfl rfl rfl (r_lss (hF.ev rfl) ec) ?_; clear hF a; intro a hF
  refine wl_mvs (A := [_]) hF rfl ?_; clear hF a; intro a hF
  revert hF; intro hF0; refine bsplit (t := 63) hF0 rfl (fun b63 hF => ?_) (fun b63 hF => ?_)
  · exfalso; clear hF hF0; try simp only [decide_eq_true_eq, decide_eq_false_iff_not, Bool.not_eq_true', Bool.not_eq_false'] at b63
    first | omega | exact (b63 rfl).elim | (simp_all; done)
  clear hF0
  refine wl_take hF rfl rfl rfl rfl ?_
  refine wl hF rfl rfl rfl (r_loadn ag35 (hF.ev rfl) (hS.box_rd (i := 2) rfl) sz35) ?_; clear hF a; intro a hF
  refine wl_take hF rfl rfl rfl rfl ?_
  refine wl hF rfl rfl rfl (r_loadn ag35 (hF.ev rfl) (hS.box_rd (i := 5) rfl) sz35) ?_; clear hF a; intro a hF
  refine wl_take hF rfl rfl rfl rfl ?_
  refine wl_call hF rfl rfl rfl (r_call2 en14 (hF.ev rfl) (hF.ev rfl)) (eqModel_same (hS.part_k (i := 3) rfl) (hS.part_k (i := 6) rfl)) ?_; clear hF a; rintro v w15 a ⟨rfl, hB_⟩ hF; replace hS := hS.ext hB_; clear hB_
  refine wl_take hF rfl rfl rfl rfl ?_
  refine wl hF rfl rfl rfl (r_not (hF.ev rfl)) ?_; clear hF a; intro a hF
  refine wl hF rfl rfl rfl (r_pick_f (hF.ev rfl) (hF.ev rfl)) ?_; clear hF a; intro a hF
  refine wl_mvs (A := [_, _, _]) hF rfl ?_; clear hF a; intro a hF
  refine wl_take hF rfl rfl rfl rfl ?_
  refine wl hF rfl rfl rfl (r_neqb bl4 (hF.ev rfl) (hF.ev rfl)) ?_; clear hF a; intro a hF
  refine wl hF rfl rfl rfl (r_pick_f (hF.ev rfl) (hF.ev rfl)) ?_; clear hF a; intro a hF
  refine wl_nil (hK17 _ _ ?_)
  first | refine wc_dec (hF.ev rfl) (fun c73 => ?_) (fun c73 => ?_) | refine wc_ndec (hF.ev rfl) (fun c73 => ?_) (fun c73 => ?_) | refine wc_b (hF.ev rfl) (fun c73 => ?_) (fun c73 => ?_)
  · exfalso; first | omega | exact (c73 rfl).elim | (simp_all; done)
  refine wp_skip ?_
  refine hK16 _ _ ?_
  refine ws fun K18 hK18 => ?_
  refine wl_mvs (A := [_]) hF rfl ?_; clear hF a; intro a hF
  refine wl_nil (hK18 _ _ ?_)
  refine ws fun K19 hK19 => ?_
  refine wl hF rfl rfl rfl (r_loadn ag35 (hF.ev rfl) (hS.box_rd (i := 2) rfl) sz35) ?_; clear hF a; intro a hF
  refine wl_mvs (A := [_]) hF rfl ?_; clear hF a; intro a hF
  replace hS := hS.pull (p := 3) rfl; dsimp only [List.eraseIdx] at hS
  refine wl_call hF rfl rfl rfl (r_call2 en15 (hF.ev rfl) (hF.ev rfl)) (markModel_c hS (by omega) (by omega)) ?_; clear hF a; rintro v w16 a ⟨rfl, hS_⟩ hF; replace hS := hS_; clear hS_
  refine wl_mvs (A := [_]) hF rfl ?_; clear hF a; intro a hF
  refine wl_nil (hK19 _ _ ?_)
  refine ws fun K20 hK20 => ?_
  refine wl_mvs (A := [_]) hF rfl ?_; clear hF a; intro a hF
  refine wl_nil (hK20 _ _ ?_)
  refine ws fun K21 hK21 => ?_
  refine wl hF rfl rfl rfl (r_loadn ag35 (hF.ev rfl) (hS.box_rd (i := 3) rfl) sz35) ?_; clear hF a; intro a hF
  refine wl_mvs (A := [_]) hF rfl ?_; clear hF a; intro a hF
  refine wl_call hF rfl rfl rfl (r_call2 en16 (hF.ev rfl) (hF.ev rfl)) (heldModel_c (hS.part_k (i := 0) rfl) (by omega) (by omega)) ?_; clear hF a; rintro v w17 a ⟨rfl, hB_⟩ hF; replace hS := hS.ext hB_; clear hB_
  refine wl_mvs (A := [_]) hF rfl ?_; clear hF a; intro a hF
  refine wl_nil (hK21 _ _ ?_)
  refine wp_seq_k fun K22 hK22 => ?_
  refine ws fun K23 hK23 => ?_
  refine wl_mvs (A := [_]) hF rfl ?_; clear hF a; intro a hF
  refine wl hF rfl rfl rfl (r_lss (hF.ev rfl) ec) ?_; clear hF a; intro a hF
  refine wl_nil (hK23 _ _ ?_)
  first | refine wc_dec (hF.ev rfl) (fun c81 => ?_) (fun c81 => ?_) | refine wc_ndec (hF.ev rfl) (fun c81 => ?_) (fun c81 => ?_) | refine wc_b (hF.ev rfl) (fun c81 => ?_) (fun c81 => ?_)
  · exfalso; first | omega | exact (c81 rfl).elim | (simp_all; done)
  refine wp_skip ?_
  refine hK22 _ _ ?_
  refine wp_seq_k fun K24 hK24 => ?_
  refine ws fun K25 hK25 => ?_
  refine wl_mvs (A := [_, _]) hF rfl ?_; clear hF a; intro a hF
  refine wl hF rfl rfl rfl (r_neq (hF.ev rfl) (hF.ev rfl)) ?_; clear hF a; intro a hF
  refine wl_nil (hK25 _ _ ?_)
  first | refine wc_dec (hF.ev rfl) (fun c84 => ?_) (fun c84 => ?_) | refine wc_ndec (hF.ev rfl) (fun c84 => ?_) (fun c84 => ?_) | refine wc_b (hF.ev rfl) (fun c84 => ?_) (fun c84 => ?_)
  · exfalso; first | omega | exact (c84 rfl).elim | (simp_all; done)
  refine wp_skip ?_
  refine hK24 _ _ ?_
  refine wp_seq_k fun K26 hK26 => ?_
  refine wp_region_todo (is := [0, 2, 4, 1, 3, 5, 6, 7, 8, 9, 11, 12]) [(10, 16, [.slice none 0 0, .slice none 0 0])] [11, 12] (by kernel_rfl) hF hS ⟨⟨⟨_, _, _, rfl, zr35⟩, trivial⟩, by decide, by decide, by decide⟩ (by kernel_rfl) ?_; clear hF; intro hl_ wd hSd
  refine todo_quiet hl_ (by kernel_rfl) rfl rfl rfl rfl rfl (fun a w_ hF hB_ => r_loadn ag23 (hF.ev rfl) ((hSd.ext hB_).box_rd (i := 10) rfl) sz23) ?_
  refine todo_quiet hl_ (by kernel_rfl) rfl rfl rfl rfl rfl (fun a w_ hF hB_ => r_loadn ag27 (hF.ev rfl) ((hSd.ext hB_).box_rd (i := 9) rfl) sz27) ?_
  refine todo_quiet hl_ (by kernel_rfl) rfl rfl rfl rfl rfl (fun a w_ hF hB_ => r_loadn ag33 (hF.ev rfl) ((hSd.ext hB_).box_rd (i := 8) rfl) sz33) ?_
  refine todo_rd hl_ rfl (by kernel_rfl) rfl rfl rfl rfl rfl (fun a w_ hF => r_call1 en10 (hF.ev rfl)) (fun w_ hS => toConfig_c _) ?_
  refine todo_mk hl_ rfl (by kernel_rfl) rfl rfl rfl rfl rfl (fun a w_ hF => r_call1 en11 (hF.ev rfl)) (fun w_ hS => toModel_c (hS.k hm) (by omega)) ?_; rintro vs89
  refine todo_rd hl_ rfl (by kernel_rfl) rfl rfl rfl rfl rfl (fun a w_ hF => r_call1 en12 (hF.ev rfl)) (fun w_ hS => toEvent_c _) ?_
  refine todo_mk hl_ rfl (by kernel_rfl) rfl rfl rfl rfl rfl (fun a w_ hF => r_call3 en13 (hF.ev rfl) (hF.ev rfl) (hF.ev rfl)) (fun w_ hS => implExplains_c (hS.part_k (i := 0) rfl) (by omega)) ?_; rintro vs92
  refine todo_pure hl_ (by kernel_rfl) rfl (gw0 rfl) rfl rfl rfl (fun a w_ hF => r_move (hF.ev rfl)) ?_
  refine todo_pure hl_ (by kernel_rfl) rfl (gw0 rfl) rfl rfl rfl (fun a w_ hF => r_extract (hF.ev rfl) rfl) ?_
  refine todo_pure hl_ (by kernel_rfl) rfl (gw0 rfl) rfl rfl rfl (fun a w_ hF => r_extract (hF.ev rfl) rfl) ?_
  refine todo_fin hl_ rfl (by kernel_rfl) (tl := [_, _]) rfl ?_; clear hS a; intro a w18 hF hA_
  obtain ⟨g7, hS, he_0⟩ := hA_.open1; clear hA_
  replace hF := hF.more he_0; clear he_0
  clear hl_; try clear hSd
  try dsimp only [List.cons_append, List.nil_append, List.set] at hS
  try clear wd
  refine wl_storew hF hS (i := 0) rfl (hF.ev rfl) (hF.ev rfl) sz35 rfl rfl ?_; intro w19 hS_; replace hS := hS_; clear hS_; dsimp only [List.set, Nat.reduceAdd] at hS
  refine wl_mvs (A := [_]) hF rfl ?_; clear hF a; intro a hF
  refine wl_nil ⟨rfl, ?_⟩
  refine hK26 _ _ ?_
  refine wp_seq_k fun K27 hK27 => ?_
  refine ws fun K28 hK28 => ?_
  refine wl hF rfl rfl rfl (r_loadn ag35 (hF.ev rfl) (hS.box_rd (i := 0) rfl) sz35) ?_; clear hF a; intro a hF
  refine wl hF rfl rfl rfl (r_loadn ag35 (hF.ev rfl) (hS.box_rd (i := 8) rfl) sz35) ?_; clear hF a; intro a hF
  refine wl_call hF rfl rfl rfl (r_call2 en14 (hF.ev rfl) (hF.ev rfl)) (eqModel_same (hS.part_k (i := 1) rfl) (hS.part_k (i := 9) rfl)) ?_; clear hF a; rintro v w20 a ⟨rfl, hB_⟩ hF; replace hS := hS.ext hB_; clear hB_
  refine wl hF rfl rfl rfl (r_not (hF.ev rfl)) ?_; clear hF a; intro a hF
  refine wl_mvs (A := [_, _, _]) hF rfl ?_; clear hF a; intro a hF
  refine wl_take hF rfl rfl rfl rfl ?_
  refine wl hF rfl rfl rfl (r_neqb bl4 (hF.ev rfl) (hF.ev rfl)) ?_; clear hF a; intro a hF
  refine wl hF rfl rfl rfl (r_pick_f (hF.ev rfl) (hF.ev rfl)) ?_; clear hF a; intro a hF
  refine wl_nil (hK28 _ _ ?_)
  first | refine wc_dec (hF.ev rfl) (fun c103 => ?_) (fun c103 => ?_) | refine wc_ndec (hF.ev rfl) (fun c103 => ?_) (fun c103 => ?_) | refine wc_b (hF.ev rfl) (fun c103 => ?_) (fun c103 => ?_)
  · exfalso; first | omega | exact (c103 rfl).elim | (simp_all; done)
  refine wp_skip ?_
  refine hK27 _ _ ?_
  refine ws fun K29 hK29 => ?_
  refine wl_mvs (A := [_]) hF rfl ?_; clear hF a; intro a hF
  refine wl_nil (hK29 _ _ ?_)
  refine ws fun K30 hK30 => ?_
  refine wl hF rfl rfl rfl (r_loadn ag35 (hF.ev rfl) (hS.box_rd (i := 6) rfl) sz35) ?_; clear hF a; intro a hF
  refine wl_mvs (A := [_]) hF rfl ?_; clear hF a; intro a hF
  refine wl_call hF rfl rfl rfl (r_call2 en16 (hF.ev rfl) (hF.ev rfl)) (heldModel_c (hS.part_k (i := 3) rfl) (by omega) (by omega)) ?_; clear hF a; rintro v w21 a ⟨rfl, hB_⟩ hF; replace hS := hS.ext hB_; clear hB_
  refine wl_mvs (A := [_]) hF rfl ?_; clear hF a; intro a hF
  refine wl_nil (hK30 _ _ ?_)
  refine wp_seq_k fun K31 hK31 => ?_
  refine ws fun K32 hK32 => ?_
  refine wl_mvs (A := [_]) hF rfl ?_; clear hF a; intro a hF
  refine wl hF rfl rfl rfl (r_lss (hF.ev rfl) ec) ?_; clear hF a; intro a hF
  refine wl_nil (hK32 _ _ ?_)
  first | refine wc_dec (hF.ev rfl) (fun c108 => ?_) (fun c108 => ?_) | refine wc_ndec (hF.ev rfl) (fun c108 => ?_) (fun c108 => ?_) | refine wc_b (hF.ev rfl) (fun c108 => ?_) (fun c108 => ?_)
  · exfalso; first | omega | exact (c108 rfl).elim | (simp_all; done)
  refine wp_skip ?_
  refine hK31 _ _ ?_
  refine wp_seq_k fun K33 hK33 => ?_
  refine ws fun K34 hK34 => ?_
  refine wl_mvs (A := [_, _]) hF rfl ?_; clear hF a; intro a hF
  refine wl hF rfl rfl rfl (r_neq (hF.ev rfl) (hF.ev rfl)) ?_; clear hF a; intro a hF
  refine wl_nil (hK34 _ _ ?_)
  first | refine wc_dec (hF.ev rfl) (fun c111 => ?_) (fun c111 => ?_) | refine wc_ndec (hF.ev rfl) (fun c111 => ?_) (fun c111 => ?_) | refine wc_b (hF.ev rfl) (fun c111 => ?_) (fun c111 => ?_)
  · exfalso; first | omega | exact (c111 rfl).elim | (simp_all; done)
  refine wp_skip ?_
  refine hK33 _ _ ?_
  refine ws fun K35 hK35 => ?_
  refine wl_mvs (A := [_]) hF rfl ?_; clear hF a; intro a hF
  refine wl_nil (hK35 _ _ ?_)
  refine wp_ret ?_
  try simp only [Exit.then, Exit.inBlock, ↓reduceIte]
  exact ret1 rfl hF rfl ⟨rfl, hS.old⟩

end Go.Proofs.Yteldnoimmjihoaa.Wk
