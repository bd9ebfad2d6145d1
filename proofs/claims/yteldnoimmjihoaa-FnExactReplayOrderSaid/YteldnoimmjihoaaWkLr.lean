/- Walks: the law on ReplayOrder. -/
import Derived.Test.YteldnoimmjihoaaChecked
import Derived.Test.YteldnoimmjihoaaWkRp
import Derived.Test.YteldnoimmjihoaaFactsD
namespace Go.Proofs.Yteldnoimmjihoaa.Wk
open Go Go.RowKit Sl
set_option linter.unusedVariables false
set_option linter.unusedSimpArgs false
set_option maxRecDepth 20000

set_option maxHeartbeats 4000000 in
set_option maxRecDepth 20000 in
theorem law_FnExactReplayOrder {W : World} {c : Config} {va vo : Value} {es : List Sl.Event} {order : List Int} (ha : eventEK.Rd W va es) (ho : intEK.Rd W vo order) : Calls Try.prog 6 #[.agg c.enc.toArray, va, vo] W (Ret fun v w' => v = .bool true ∧ Below W.heap.size W w') := by
  refine calls_fr Try.func6 rfl Try.ntmps6 rfl ?_
  intro a hF
  have hS := Sep.refl W
  obtain ⟨A_e, q_e, rfl, hq_e, hn_e⟩ := ha.sl; unfold maxLen at hn_e
  obtain ⟨A_o, q_o, rfl, hq_o, hn_o⟩ := ho.sl; unfold maxLen at hn_o
  have hce := crow_event es
  have hro := ro_cnt (c := c) (es := es) (order := order)
  have hrc := Model.cnt_size (replayOrder c es order).1
  refine ws fun K1 hK1 => ?_
  refine wl_box (cs := [_, _, _, _, _, _]) hF hS rfl (hF.ev rfl) rfl ?_; clear hF a; intro g1 w1 a hS_ hB_ hF; replace hS := hS_; clear hS_ hB_
  refine wl_mvs (A := [_]) hF rfl ?_; clear hF a; intro a hF
  refine wl_nil (hK1 _ _ ?_)
  refine wp_seq_k fun K2 hK2 => ?_
  refine ws fun K3 hK3 => ?_
  refine wl_mvs (A := [_]) hF rfl ?_; clear hF a; intro a hF
  refine wl hF rfl rfl rfl (r_len ul24 (hF.ev rfl)) ?_; clear hF a; intro a hF
  refine wl hF rfl rfl rfl (r_gtr (hF.ev rfl) ec) ?_; clear hF a; intro a hF
  refine wl_nil (hK3 _ _ ?_)
  first | refine wc_dec (hF.ev rfl) (fun c21 => ?_) (fun c21 => ?_) | refine wc_ndec (hF.ev rfl) (fun c21 => ?_) (fun c21 => ?_) | refine wc_b (hF.ev rfl) (fun c21 => ?_) (fun c21 => ?_)
  ·
    refine ws fun K4 hK4 => ?_
    refine wl_mvs (A := [_]) hF rfl ?_; clear hF a; intro a hF
    refine wl_nil (hK4 _ _ ?_)
    refine wp_ret ?_
    try simp only [Exit.then, Exit.inBlock, ↓reduceIte]
    exact ret1 rfl hF rfl ⟨rfl, hS.old⟩
  refine wp_skip ?_
  refine hK2 _ _ ?_
  refine ws fun K5 hK5 => ?_
  refine wl_mvs (A := [_]) hF rfl ?_; clear hF a; intro a hF
  refine wl_nil (hK5 _ _ ?_)
  refine ws fun K6 hK6 => ?_
  refine wl_mvs (A := [_, _]) hF rfl ?_; clear hF a; intro a hF
  refine wl_call hF rfl rfl rfl (r_call2 en17 (hF.ev rfl) (hF.ev rfl)) (szEventS_c (hS.rd ha) (by omega) (by omega)) ?_; clear hF a; rintro v w2 a ⟨⟨r24, rfl, e1_24, e2_24, e3_24⟩, hB_⟩ hF; replace hS := hS.ext hB_; clear hB_
  refine wl_mvs (A := [_]) hF rfl ?_; clear hF a; intro a hF
  refine wl_nil (hK6 _ _ ?_)
  refine wp_seq_k fun K7 hK7 => ?_
  refine ws fun K8 hK8 => ?_
  refine wl_mvs (A := [_]) hF rfl ?_; clear hF a; intro a hF
  refine wl hF rfl rfl rfl (r_lss (hF.ev rfl) ec) ?_; clear hF a; intro a hF
  refine wl_nil (hK8 _ _ ?_)
  first | refine wc_dec (hF.ev rfl) (fun c26 => ?_) (fun c26 => ?_) | refine wc_ndec (hF.ev rfl) (fun c26 => ?_) (fun c26 => ?_) | refine wc_b (hF.ev rfl) (fun c26 => ?_) (fun c26 => ?_)
  ·
    refine ws fun K9 hK9 => ?_
    refine wl_mvs (A := [_]) hF rfl ?_; clear hF a; intro a hF
    refine wl_nil (hK9 _ _ ?_)
    refine wp_ret ?_
    try simp only [Exit.then, Exit.inBlock, ↓reduceIte]
    exact ret1 rfl hF rfl ⟨rfl, hS.old⟩
  refine wp_skip ?_
  refine hK7 _ _ ?_
  refine ws fun K10 hK10 => ?_
  refine wl hF rfl rfl rfl (r_loadn ag23 (hF.ev rfl) (hS.box_rd (i := 0) rfl) sz23) ?_; clear hF a; intro a hF
  refine wl_call hF rfl rfl rfl (r_call1 en10 (hF.ev rfl)) (toConfig_c _) ?_; clear hF a; rintro v w3 a ⟨rfl, hB_⟩ hF; replace hS := hS.ext hB_; clear hB_
  refine wl_mvs (A := [_]) hF rfl ?_; clear hF a; intro a hF
  refine wl_mk hF hS rfl rfl rfl (r_call1 en19 (hF.ev rfl)) (toEventS_c (hS.rd ha) (by omega)) ?_; clear hF a; rintro s31 w4 a hS_ hF; replace hS := hS_; clear hS_; dsimp only [List.cons_append, List.nil_append] at hS
  refine wl_mvs (A := [_]) hF rfl ?_; clear hF a; intro a hF
  refine wl_mk hF hS rfl rfl rfl (r_call1 en29 (hF.ev rfl)) (toIntS_c (hS.rd ho) (by omega)) ?_; clear hF a; rintro s33 w5 a hS_ hF; replace hS := hS_; clear hS_; dsimp only [List.cons_append, List.nil_append] at hS
  refine wl_mk hF hS rfl rfl rfl (r_call3 en28 (hF.ev rfl) (hF.ev rfl) (hF.ev rfl)) (specReplay_c (hS.own_rd (i := 1) rfl) (hS.own_rd (i := 0) rfl) (by omega)) ?_; clear hF a; rintro vs34 w6 a hS_ hF; replace hS := hS_; clear hS_; dsimp only [List.cons_append, List.nil_append] at hS
  refine wl_mvs (A := [_]) hF rfl ?_; clear hF a; intro a hF
  refine wl hF rfl rfl rfl (r_extract (hF.ev rfl) rfl) ?_; clear hF a; intro a hF
  refine wl hF rfl rfl rfl (r_extract (hF.ev rfl) rfl) ?_; clear hF a; intro a hF
  refine wl_alloc hF hS rfl zr35 ?_; clear hF a; intro g2 w7 a hS_ hB_ hF; replace hS := hS_; clear hS_ hB_
  refine wl_storew hF hS (i := 0) rfl (hF.ev rfl) (hF.ev rfl) sz35 rfl rfl ?_; intro w8 hS_; replace hS := hS_; clear hS_; dsimp only [List.set, Nat.reduceAdd] at hS
  refine wl_mvs (A := [_]) hF rfl ?_; clear hF a; intro a hF
  refine wl_nil (hK10 _ _ ?_)
  refine ws fun K11 hK11 => ?_
  refine wl_mvs (A := [_]) hF rfl ?_; clear hF a; intro a hF
  refine wl_mk hF hS rfl rfl rfl (r_call1 en19 (hF.ev rfl)) (toEventS_c (hS.rd ha) (by omega)) ?_; clear hF a; rintro s38 w9 a hS_ hF; replace hS := hS_; clear hS_; dsimp only [List.cons_append, List.nil_append] at hS
  refine wl_mvs (A := [_]) hF rfl ?_; clear hF a; intro a hF
  refine wl_nil (hK11 _ _ ?_)
  refine ws fun K12 hK12 => ?_
  refine wl_mvs (A := [_]) hF rfl ?_; clear hF a; intro a hF
  refine wl_mk hF hS rfl rfl rfl (r_call1 en29 (hF.ev rfl)) (toIntS_c (hS.rd ho) (by omega)) ?_; clear hF a; rintro s40 w10 a hS_ hF; replace hS := hS_; clear hS_; dsimp only [List.cons_append, List.nil_append] at hS
  refine wl_mvs (A := [_]) hF rfl ?_; clear hF a; intro a hF
  refine wl_nil (hK12 _ _ ?_)
  refine ws fun K13 hK13 => ?_
  refine wl hF rfl rfl rfl (r_loadn ag23 (hF.ev rfl) (hS.box_rd (i := 6) rfl) sz23) ?_; clear hF a; intro a hF
  refine wl_call hF rfl rfl rfl (r_call1 en10 (hF.ev rfl)) (toConfig_c _) ?_; clear hF a; rintro v w11 a ⟨rfl, hB_⟩ hF; replace hS := hS.ext hB_; clear hB_
  refine wl_mvs (A := [_, _]) hF rfl ?_; clear hF a; intro a hF
  refine wl_mk hF hS rfl rfl rfl (r_call3 en30 (hF.ev rfl) (hF.ev rfl) (hF.ev rfl)) (implReplay_c (hS.own_rd (i := 1) rfl) (hS.own_rd (i := 0) rfl) (by omega)) ?_; clear hF a; rintro vs46 w12 a hS_ hF; replace hS := hS_; clear hS_; dsimp only [List.cons_append, List.nil_append] at hS
  refine wl_mvs (A := [_]) hF rfl ?_; clear hF a; intro a hF
  refine wl hF rfl rfl rfl (r_extract (hF.ev rfl) rfl) ?_; clear hF a; intro a hF
  refine wl hF rfl rfl rfl (r_extract (hF.ev rfl) rfl) ?_; clear hF a; intro a hF
  refine wl_alloc hF hS rfl zr35 ?_; clear hF a; intro g3 w13 a hS_ hB_ hF; replace hS := hS_; clear hS_ hB_
  refine wl_storew hF hS (i := 0) rfl (hF.ev rfl) (hF.ev rfl) sz35 rfl rfl ?_; intro w14 hS_; replace hS := hS_; clear hS_; dsimp only [List.set, Nat.reduceAdd] at hS
  refine wl_mvs (A := [_]) hF rfl ?_; clear hF a; intro a hF
  refine wl_nil (hK13 _ _ ?_)
  refine wp_seq_k fun K14 hK14 => ?_
  refine ws fun K15 hK15 => ?_
  refine wl hF rfl rfl rfl (r_loadn ag35 (hF.ev rfl) (hS.box_rd (i := 0) rfl) sz35) ?_; clear hF a; intro a hF
  refine wl hF rfl rfl rfl (r_loadn ag35 (hF.ev rfl) (hS.box_rd (i := 4) rfl) sz35) ?_; clear hF a; intro a hF
  refine wl_call hF rfl rfl rfl (r_call2 en14 (hF.ev rfl) (hF.ev rfl)) (eqModel_same (hS.part_k (i := 1) rfl) (hS.part_k (i := 5) rfl)) ?_; clear hF a; rintro v w15 a ⟨rfl, hB_⟩ hF; replace hS := hS.ext hB_; clear hB_
  refine wl hF rfl rfl rfl (r_not (hF.ev rfl)) ?_; clear hF a; intro a hF
  refine wl_mvs (A := [_, _, _]) hF rfl ?_; clear hF a; intro a hF
  refine wl_take hF rfl rfl rfl rfl ?_
  refine wl hF rfl rfl rfl (r_neqb bl4 (hF.ev rfl) (hF.ev rfl)) ?_; clear hF a; intro a hF
  refine wl hF rfl rfl rfl (r_pick_f (hF.ev rfl) (hF.ev rfl)) ?_; clear hF a; intro a hF
  refine wl_nil (hK15 _ _ ?_)
  first | refine wc_dec (hF.ev rfl) (fun c57 => ?_) (fun c57 => ?_) | refine wc_ndec (hF.ev rfl) (fun c57 => ?_) (fun c57 => ?_) | refine wc_b (hF.ev rfl) (fun c57 => ?_) (fun c57 => ?_)
  · exfalso; first | omega | exact (c57 rfl).elim | (simp_all; done)
  refine wp_skip ?_
  refine hK14 _ _ ?_
  refine wp_seq_k fun K16 hK16 => ?_
  refine ws fun K17 hK17 => ?_
  refine wl_mvs (A := [_, _]) hF rfl ?_; clear hF a; intro a hF
  refine wl_mk hF hS rfl rfl rfl (r_call1 en19 (hF.ev rfl)) (toEventS_c (hS.rd ha) (by omega)) ?_; clear hF a; rintro s60 w16 a hS_ hF; replace hS := hS_; clear hS_; dsimp only [List.cons_append, List.nil_append] at hS
  refine wl_call hF rfl rfl rfl (r_call2 en21 (hF.ev rfl) (hF.ev rfl)) (eqEventS_same (hS.own_rd (i := 4) rfl) (hS.own_rd (i := 0) rfl)) ?_; clear hF a; rintro v w17 a ⟨rfl, hB_⟩ hF; replace hS := hS.ext hB_; clear hB_
  refine wl hF rfl rfl rfl (r_not (hF.ev rfl)) ?_; clear hF a; intro a hF
  refine wl_nil (hK17 _ _ ?_)
  refine wc_false (hF.ev rfl) ?_
  refine wp_skip ?_
  refine hK16 _ _ ?_
  refine wp_seq_k fun K18 hK18 => ?_
  refine ws fun K19 hK19 => ?_
  refine wl_mvs (A := [_, _]) hF rfl ?_; clear hF a; intro a hF
  refine wl_mk hF hS rfl rfl rfl (r_call1 en29 (hF.ev rfl)) (toIntS_c (hS.rd ho) (by omega)) ?_; clear hF a; rintro s65 w18 a hS_ hF; replace hS := hS_; clear hS_; dsimp only [List.cons_append, List.nil_append] at hS
  refine wl_call hF rfl rfl rfl (r_call2 en24 (hF.ev rfl) (hF.ev rfl)) (eqIntS_same (hS.own_rd (i := 4) rfl) (hS.own_rd (i := 0) rfl)) ?_; clear hF a; rintro v w19 a ⟨rfl, hB_⟩ hF; replace hS := hS.ext hB_; clear hB_
  refine wl hF rfl rfl rfl (r_not (hF.ev rfl)) ?_; clear hF a; intro a hF
  refine wl_nil (hK19 _ _ ?_)
  refine wc_false (hF.ev rfl) ?_
  refine wp_skip ?_
  refine hK18 _ _ ?_
  refine ws fun K20 hK20 => ?_
  refine wl_mvs (A := [_]) hF rfl ?_; clear hF a; intro a hF
  refine wl_nil (hK20 _ _ ?_)
  refine ws fun K21 hK21 => ?_
  refine wl_mvs (A := [_, _]) hF rfl ?_; clear hF a; intro a hF
  replace hS := hS.pull (p := 5) rfl; dsimp only [List.eraseIdx] at hS
  refine wl_call hF rfl rfl rfl (r_call2 en25 (hF.ev rfl) (hF.ev rfl)) (markEventS_c hS (by omega) (by omega)) ?_; clear hF a; rintro v w20 a ⟨rfl, hS_⟩ hF; replace hS := hS_; clear hS_
  refine wl_mvs (A := [_]) hF rfl ?_; clear hF a; intro a hF
  refine wl_nil (hK21 _ _ ?_)
  refine ws fun K22 hK22 => ?_
  refine wl_mvs (A := [_, _]) hF rfl ?_; clear hF a; intro a hF
  refine wl_call hF rfl rfl rfl (r_call2 en26 (hF.ev rfl) (hF.ev rfl)) (markIntS_c hS (q := 5) rfl (by omega) (by first | omega | (simp only [marks_length]; omega))) ?_; clear hF a; rintro v w21 a ⟨rfl, hS_⟩ hF; replace hS := hS_; clear hS_; dsimp only [List.set] at hS
  refine wl_mvs (A := [_]) hF rfl ?_; clear hF a; intro a hF
  refine wl_nil (hK22 _ _ ?_)
  refine wp_seq_k fun K23 hK23 => ?_
  refine ws fun K24 hK24 => ?_
  refine wl_mvs (A := [_]) hF rfl ?_; clear hF a; intro a hF
  refine wl hF rfl rfl rfl (r_lss (hF.ev rfl) ec) ?_; clear hF a; intro a hF
  refine wl_mvs (A := [_]) hF rfl ?_; clear hF a; intro a hF
  revert hF; intro hF0; refine bsplit (t := 76) hF0 rfl (fun b76 hF => ?_) (fun b76 hF => ?_)
  · exfalso; clear hF hF0; try simp only [decide_eq_true_eq, decide_eq_false_iff_not, Bool.not_eq_true', Bool.not_eq_false'] at b76
    first | omega | exact (b76 rfl).elim | (simp_all; done)
  clear hF0
  refine wl_take hF rfl rfl rfl rfl ?_
  refine wl hF rfl rfl rfl (r_loadn ag35 (hF.ev rfl) (hS.box_rd (i := 3) rfl) sz35) ?_; clear hF a; intro a hF
  refine wl_take hF rfl rfl rfl rfl ?_
  refine wl hF rfl rfl rfl (r_loadn ag35 (hF.ev rfl) (hS.box_rd (i := 6) rfl) sz35) ?_; clear hF a; intro a hF
  refine wl_take hF rfl rfl rfl rfl ?_
  refine wl_call hF rfl rfl rfl (r_call2 en14 (hF.ev rfl) (hF.ev rfl)) (eqModel_same (hS.part_k (i := 4) rfl) (hS.part_k (i := 7) rfl)) ?_; clear hF a; rintro v w22 a ⟨rfl, hB_⟩ hF; replace hS := hS.ext hB_; clear hB_
  refine wl_take hF rfl rfl rfl rfl ?_
  refine wl hF rfl rfl rfl (r_not (hF.ev rfl)) ?_; clear hF a; intro a hF
  refine wl hF rfl rfl rfl (r_pick_f (hF.ev rfl) (hF.ev rfl)) ?_; clear hF a; intro a hF
  refine wl_mvs (A := [_, _, _]) hF rfl ?_; clear hF a; intro a hF
  refine wl_take hF rfl rfl rfl rfl ?_
  refine wl hF rfl rfl rfl (r_neqb bl4 (hF.ev rfl) (hF.ev rfl)) ?_; clear hF a; intro a hF
  refine wl hF rfl rfl rfl (r_pick_f (hF.ev rfl) (hF.ev rfl)) ?_; clear hF a; intro a hF
  refine wl_nil (hK24 _ _ ?_)
  first | refine wc_dec (hF.ev rfl) (fun c86 => ?_) (fun c86 => ?_) | refine wc_ndec (hF.ev rfl) (fun c86 => ?_) (fun c86 => ?_) | refine wc_b (hF.ev rfl) (fun c86 => ?_) (fun c86 => ?_)
  · exfalso; first | omega | exact (c86 rfl).elim | (simp_all; done)
  refine wp_skip ?_
  refine hK23 _ _ ?_
  refine ws fun K25 hK25 => ?_
  refine wl_mvs (A := [_]) hF rfl ?_; clear hF a; intro a hF
  refine wl_nil (hK25 _ _ ?_)
  refine ws fun K26 hK26 => ?_
  refine wl hF rfl rfl rfl (r_loadn ag35 (hF.ev rfl) (hS.box_rd (i := 3) rfl) sz35) ?_; clear hF a; intro a hF
  refine wl_mvs (A := [_]) hF rfl ?_; clear hF a; intro a hF
  replace hS := hS.pull (p := 4) rfl; dsimp only [List.eraseIdx] at hS
  refine wl_call hF rfl rfl rfl (r_call2 en15 (hF.ev rfl) (hF.ev rfl)) (markModel_c hS (by omega) (by omega)) ?_; clear hF a; rintro v w23 a ⟨rfl, hS_⟩ hF; replace hS := hS_; clear hS_
  refine wl_mvs (A := [_]) hF rfl ?_; clear hF a; intro a hF
  refine wl_nil (hK26 _ _ ?_)
  refine ws fun K27 hK27 => ?_
  refine wl_mvs (A := [_]) hF rfl ?_; clear hF a; intro a hF
  refine wl_nil (hK27 _ _ ?_)
  refine ws fun K28 hK28 => ?_
  refine wl hF rfl rfl rfl (r_loadn ag35 (hF.ev rfl) (hS.box_rd (i := 4) rfl) sz35) ?_; clear hF a; intro a hF
  refine wl_mvs (A := [_]) hF rfl ?_; clear hF a; intro a hF
  refine wl_call hF rfl rfl rfl (r_call2 en16 (hF.ev rfl) (hF.ev rfl)) (heldModel_c (hS.part_k (i := 0) rfl) (by omega) (by omega)) ?_; clear hF a; rintro v w24 a ⟨rfl, hB_⟩ hF; replace hS := hS.ext hB_; clear hB_
  refine wl_mvs (A := [_]) hF rfl ?_; clear hF a; intro a hF
  refine wl_nil (hK28 _ _ ?_)
  refine wp_seq_k fun K29 hK29 => ?_
  refine ws fun K30 hK30 => ?_
  refine wl_mvs (A := [_]) hF rfl ?_; clear hF a; intro a hF
  refine wl hF rfl rfl rfl (r_lss (hF.ev rfl) ec) ?_; clear hF a; intro a hF
  refine wl_nil (hK30 _ _ ?_)
  first | refine wc_dec (hF.ev rfl) (fun c94 => ?_) (fun c94 => ?_) | refine wc_ndec (hF.ev rfl) (fun c94 => ?_) (fun c94 => ?_) | refine wc_b (hF.ev rfl) (fun c94 => ?_) (fun c94 => ?_)
  · exfalso; first | omega | exact (c94 rfl).elim | (simp_all; done)
  refine wp_skip ?_
  refine hK29 _ _ ?_
  refine wp_seq_k fun K31 hK31 => ?_
  refine ws fun K32 hK32 => ?_
  refine wl_mvs (A := [_, _]) hF rfl ?_; clear hF a; intro a hF
  refine wl hF rfl rfl rfl (r_neq (hF.ev rfl) (hF.ev rfl)) ?_; clear hF a; intro a hF
  refine wl_nil (hK32 _ _ ?_)
  first | refine wc_dec (hF.ev rfl) (fun c97 => ?_) (fun c97 => ?_) | refine wc_ndec (hF.ev rfl) (fun c97 => ?_) (fun c97 => ?_) | refine wc_b (hF.ev rfl) (fun c97 => ?_) (fun c97 => ?_)
  · exfalso; first | omega | exact (c97 rfl).elim | (simp_all; done)
  refine wp_skip ?_
  refine hK31 _ _ ?_
  refine ws fun K33 hK33 => ?_
  refine wl hF rfl rfl rfl (r_loadn ag23 (hF.ev rfl) (hS.box_rd (i := 10) rfl) sz23) ?_; clear hF a; intro a hF
  refine wl_call hF rfl rfl rfl (r_call1 en10 (hF.ev rfl)) (toConfig_c _) ?_; clear hF a; rintro v w25 a ⟨rfl, hB_⟩ hF; replace hS := hS.ext hB_; clear hB_
  refine wl_mvs (A := [_]) hF rfl ?_; clear hF a; intro a hF
  refine wl_mk hF hS rfl rfl rfl (r_call1 en19 (hF.ev rfl)) (toEventS_c (hS.rd ha) (by omega)) ?_; clear hF a; rintro s102 w26 a hS_ hF; replace hS := hS_; clear hS_; dsimp only [List.cons_append, List.nil_append] at hS
  refine wl_mvs (A := [_]) hF rfl ?_; clear hF a; intro a hF
  refine wl_mk hF hS rfl rfl rfl (r_call1 en29 (hF.ev rfl)) (toIntS_c (hS.rd ho) (by omega)) ?_; clear hF a; rintro s104 w27 a hS_ hF; replace hS := hS_; clear hS_; dsimp only [List.cons_append, List.nil_append] at hS
  refine wl_mk hF hS rfl rfl rfl (r_call3 en30 (hF.ev rfl) (hF.ev rfl) (hF.ev rfl)) (implReplay_c (hS.own_rd (i := 1) rfl) (hS.own_rd (i := 0) rfl) (by omega)) ?_; clear hF a; rintro vs105 w28 a hS_ hF; replace hS := hS_; clear hS_; dsimp only [List.cons_append, List.nil_append] at hS
  refine wl_mvs (A := [_]) hF rfl ?_; clear hF a; intro a hF
  refine wl hF rfl rfl rfl (r_extract (hF.ev rfl) rfl) ?_; clear hF a; intro a hF
  refine wl hF rfl rfl rfl (r_extract (hF.ev rfl) rfl) ?_; clear hF a; intro a hF
  refine wl_alloc hF hS rfl zr35 ?_; clear hF a; intro g4 w29 a hS_ hB_ hF; replace hS := hS_; clear hS_ hB_
  refine wl_storew hF hS (i := 0) rfl (hF.ev rfl) (hF.ev rfl) sz35 rfl rfl ?_; intro w30 hS_; replace hS := hS_; clear hS_; dsimp only [List.set, Nat.reduceAdd] at hS
  refine wl_mvs (A := [_]) hF rfl ?_; clear hF a; intro a hF
  refine wl_nil (hK33 _ _ ?_)
  refine wp_seq_k fun K34 hK34 => ?_
  refine ws fun K35 hK35 => ?_
  refine wl hF rfl rfl rfl (r_loadn ag35 (hF.ev rfl) (hS.box_rd (i := 0) rfl) sz35) ?_; clear hF a; intro a hF
  refine wl hF rfl rfl rfl (r_loadn ag35 (hF.ev rfl) (hS.box_rd (i := 10) rfl) sz35) ?_; clear hF a; intro a hF
  refine wl_call hF rfl rfl rfl (r_call2 en14 (hF.ev rfl) (hF.ev rfl)) (eqModel_same (hS.part_k (i := 1) rfl) (hS.part_k (i := 11) rfl)) ?_; clear hF a; rintro v w31 a ⟨rfl, hB_⟩ hF; replace hS := hS.ext hB_; clear hB_
  refine wl hF rfl rfl rfl (r_not (hF.ev rfl)) ?_; clear hF a; intro a hF
  refine wl_mvs (A := [_, _, _]) hF rfl ?_; clear hF a; intro a hF
  refine wl_take hF rfl rfl rfl rfl ?_
  refine wl hF rfl rfl rfl (r_neqb bl4 (hF.ev rfl) (hF.ev rfl)) ?_; clear hF a; intro a hF
  refine wl hF rfl rfl rfl (r_pick_f (hF.ev rfl) (hF.ev rfl)) ?_; clear hF a; intro a hF
  refine wl_nil (hK35 _ _ ?_)
  first | refine wc_dec (hF.ev rfl) (fun c116 => ?_) (fun c116 => ?_) | refine wc_ndec (hF.ev rfl) (fun c116 => ?_) (fun c116 => ?_) | refine wc_b (hF.ev rfl) (fun c116 => ?_) (fun c116 => ?_)
  · exfalso; first | omega | exact (c116 rfl).elim | (simp_all; done)
  refine wp_skip ?_
  refine hK34 _ _ ?_
  refine ws fun K36 hK36 => ?_
  refine wl_mvs (A := [_]) hF rfl ?_; clear hF a; intro a hF
  refine wl_nil (hK36 _ _ ?_)
  refine ws fun K37 hK37 => ?_
  refine wl hF rfl rfl rfl (r_loadn ag35 (hF.ev rfl) (hS.box_rd (i := 8) rfl) sz35) ?_; clear hF a; intro a hF
  refine wl_mvs (A := [_]) hF rfl ?_; clear hF a; intro a hF
  refine wl_call hF rfl rfl rfl (r_call2 en16 (hF.ev rfl) (hF.ev rfl)) (heldModel_c (hS.part_k (i := 4) rfl) (by omega) (by omega)) ?_; clear hF a; rintro v w32 a ⟨rfl, hB_⟩ hF; replace hS := hS.ext hB_; clear hB_
  refine wl_mvs (A := [_]) hF rfl ?_; clear hF a; intro a hF
  refine wl_nil (hK37 _ _ ?_)
  refine wp_seq_k fun K38 hK38 => ?_
  refine ws fun K39 hK39 => ?_
  refine wl_mvs (A := [_]) hF rfl ?_; clear hF a; intro a hF
  refine wl hF rfl rfl rfl (r_lss (hF.ev rfl) ec) ?_; clear hF a; intro a hF
  refine wl_nil (hK39 _ _ ?_)
  first | refine wc_dec (hF.ev rfl) (fun c121 => ?_) (fun c121 => ?_) | refine wc_ndec (hF.ev rfl) (fun c121 => ?_) (fun c121 => ?_) | refine wc_b (hF.ev rfl) (fun c121 => ?_) (fun c121 => ?_)
  · exfalso; first | omega | exact (c121 rfl).elim | (simp_all; done)
  refine wp_skip ?_
  refine hK38 _ _ ?_
  refine wp_seq_k fun K40 hK40 => ?_
  refine ws fun K41 hK41 => ?_
  refine wl_mvs (A := [_, _]) hF rfl ?_; clear hF a; intro a hF
  refine wl hF rfl rfl rfl (r_neq (hF.ev rfl) (hF.ev rfl)) ?_; clear hF a; intro a hF
  refine wl_nil (hK41 _ _ ?_)
  first | refine wc_dec (hF.ev rfl) (fun c124 => ?_) (fun c124 => ?_) | refine wc_ndec (hF.ev rfl) (fun c124 => ?_) (fun c124 => ?_) | refine wc_b (hF.ev rfl) (fun c124 => ?_) (fun c124 => ?_)
  · exfalso; first | omega | exact (c124 rfl).elim | (simp_all; done)
  refine wp_skip ?_
  refine hK40 _ _ ?_
  refine ws fun K42 hK42 => ?_
  refine wl_mvs (A := [_]) hF rfl ?_; clear hF a; intro a hF
  refine wl_nil (hK42 _ _ ?_)
  refine wp_ret ?_
  try simp only [Exit.then, Exit.inBlock, ↓reduceIte]
  exact ret1 rfl hF rfl ⟨rfl, hS.old⟩

end Go.Proofs.Yteldnoimmjihoaa.Wk
