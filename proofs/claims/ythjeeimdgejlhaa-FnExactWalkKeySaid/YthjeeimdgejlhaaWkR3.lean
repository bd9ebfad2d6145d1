/- Walks: what reads a state: RefusalOf, WalkKey. -/
import Derived.Test.YthjeeimdgejlhaaChecked
import Derived.Test.YthjeeimdgejlhaaWkR2
import Derived.Test.YthjeeimdgejlhaaFactsB
namespace Go.Proofs.Ythjeeimdgejlhaa.Wk
open Go Go.RowKit Sl
set_option linter.unusedVariables false
set_option linter.unusedSimpArgs false
set_option maxRecDepth 20000

set_option maxHeartbeats 4000000 in
set_option maxRecDepth 20000 in
theorem specRefusal_c {W : World} {s : Sl.State} {cs : List Value} (hm : stateEK.K W s cs) (hw : s.wf) (hz : (s.size : Int) ≤ 1048576) {p : Int} {o : Sl.Op} (hp : int64 p) : Calls Try.prog 46 #[.agg cs.toArray, vi p, .agg o.enc.toArray] W (Ret fun v w' => v = vi (refusalOf s p o) ∧ Below W.heap.size W w') := by
  refine calls_fr Try.func46 rfl Try.ntmps46 rfl ?_
  intro a hF
  have hS := Sep.refl W
  obtain ⟨v0, v1, v2, rfl, r0, r1, r2⟩ := hm
  have hm : stateEK.K W s (s.encv v0 v1 v2) := ⟨_, _, _, rfl, r0, r1, r2⟩
  obtain ⟨A_a, q_a, rfl, hq_a, hn_a⟩ := r0.sl; unfold maxLen at hn_a
  obtain ⟨A_b, q_b, rfl, hq_b, hn_b⟩ := r1.sl; unfold maxLen at hn_b
  obtain ⟨A_c, q_c, rfl, hq_c, hn_c⟩ := r2.sl; unfold maxLen at hn_c
  have hwl : IntKind.i64.wrap ((s.threads.length : Int) - 1) = s.threads.length - 1 := w64_id (by omega) (by omega)
  refine wp_seq_k fun K1 hK1 => ?_
  refine wp_region_lit ?_
  refine wl_box (cs := [_, _, _, _, _, _, _, _, _, _, _, _, _]) hF hS rfl (hF.ev rfl) rfl ?_; clear hF a; intro g1 w1 a hS_ hB_ hF; replace hS := hS_; clear hS_ hB_
  refine wl_box (cs := [_, _, _]) hF hS rfl (hF.ev rfl) rfl ?_; clear hF a; intro g2 w2 a hS_ hB_ hF; replace hS := hS_; clear hS_ hB_
  refine wl hF rfl rfl rfl (r_assign ec) ?_; clear hF a; intro a hF
  refine wl_nil ?_
  refine hK1 _ _ ?_
  refine wp_seq_k fun K2 hK2 => ?_
  refine wp_seq_k fun K3 hK3 => ?_
  refine wp_region_lit ?_
  refine wl hF rfl rfl rfl (r_loadn ag37 (hF.ev rfl) (hS.box_rd (i := 1) rfl) sz37) ?_; clear hF a; intro a hF
  refine wl_call hF rfl rfl rfl (r_call1 en28 (hF.ev rfl)) (specIsState_c (hS.k hm) hw (by omega)) ?_; clear hF a; rintro v w3 a ⟨rfl, hB_⟩ hF; replace hS := hS.ext hB_; clear hB_
  refine wl hF rfl rfl rfl (r_not (hF.ev rfl)) ?_; clear hF a; intro a hF
  refine wl hF rfl rfl rfl (r_move (hF.ev rfl)) ?_; clear hF a; intro a hF
  apply wl_or (A := [_, _, _, _, _, _, _, _]) (pk := 19) hF hS (tc := 11) rfl
  ·
    intro hg11 a hF; try simp only [Bool.not_eq_true', Bool.not_eq_false', Bool.or_eq_true, Bool.and_eq_true, Bool.or_eq_false_iff, Bool.and_eq_false_iff, Bool.not_eq_eq_eq_not, Bool.not_true, Bool.not_false, decide_eq_true_eq, decide_eq_false_iff_not] at hg11
    refine wl_take hF rfl rfl rfl rfl ?_
    refine wl hF rfl rfl rfl (r_move (hF.ev rfl)) ?_; clear hF a; intro a hF
    refine wl_take hF rfl rfl rfl rfl ?_
    refine wl hF rfl rfl rfl (r_field fo37_3 (hF.ev rfl)) ?_; clear hF a; intro a hF
    refine wl_take hF rfl rfl rfl rfl ?_
    refine wl hF rfl rfl rfl (r_load1 sc35 (hF.ev rfl) (hS.box (i := 1) rfl rfl)) ?_; clear hF a; intro a hF
    refine wl_take hF rfl rfl rfl rfl ?_
    refine wl hF rfl rfl rfl (r_len ul35 (hF.ev rfl)) ?_; clear hF a; intro a hF
    refine wl_take hF rfl rfl rfl rfl ?_
    refine wl hF rfl rfl rfl (r_sub (hF.ev rfl) ec) ?_; clear hF a; intro a hF
    refine wl_take hF rfl rfl rfl rfl ?_
    refine wl_call hF rfl rfl rfl (r_call3 en93 (hF.ev rfl) ec (hF.ev rfl)) (l1In_c _ _ _) ?_; clear hF a; rintro v w4 a ⟨rfl, hB_⟩ hF; replace hS := hS.ext hB_; clear hB_
    refine wl_take hF rfl rfl rfl rfl ?_
    refine wl hF rfl rfl rfl (r_not (hF.ev rfl)) ?_; clear hF a; intro a hF
    refine wl hF rfl rfl rfl (r_pick_f (hF.ev rfl) (hF.ev rfl)) ?_; clear hF a; intro a hF
    exact wl_nil ⟨rfl, (Fr.pre (A := [_, _, _, _, _, _, _, _]) hF rfl).keep hF (t := 19) rfl, hS⟩
  ·
    intro hg11 a hF; try simp only [Bool.not_eq_true', Bool.not_eq_false', Bool.or_eq_true, Bool.and_eq_true, Bool.or_eq_false_iff, Bool.and_eq_false_iff, Bool.not_eq_eq_eq_not, Bool.not_true, Bool.not_false, decide_eq_true_eq, decide_eq_false_iff_not] at hg11
    refine wl_skip hF rfl rfl rfl rfl rfl rfl ?_; clear hF a; intro a hF
    refine wl_skip hF rfl rfl rfl rfl rfl rfl ?_; clear hF a; intro a hF
    refine wl_skip hF rfl rfl rfl rfl rfl rfl ?_; clear hF a; intro a hF
    refine wl_skip hF rfl rfl rfl rfl rfl rfl ?_; clear hF a; intro a hF
    refine wl_skip hF rfl rfl rfl rfl rfl rfl ?_; clear hF a; intro a hF
    refine wl_skip hF rfl rfl rfl rfl rfl rfl ?_; clear hF a; intro a hF
    refine wl_skip hF rfl rfl rfl rfl rfl rfl ?_; clear hF a; intro a hF
    refine wl hF rfl rfl rfl (r_pick_t (hF.ev rfl) ec) ?_; clear hF a; intro a hF
    exact wl_nil ⟨rfl, (Fr.pre (A := [_, _, _, _, _, _, _, _]) hF rfl).keep hF (t := 19) rfl, hS⟩
  clear hF a hS; intro a w5 hF hS
  refine wl hF rfl rfl rfl (r_move (hF.ev rfl)) ?_; clear hF a; intro a hF
  apply wl_or (A := [_, _, _, _]) (pk := 24) hF hS (tc := 20) rfl
  ·
    intro hg20 a hF; try simp only [Bool.not_eq_true', Bool.not_eq_false', Bool.or_eq_true, Bool.and_eq_true, Bool.or_eq_false_iff, Bool.and_eq_false_iff, Bool.not_eq_eq_eq_not, Bool.not_true, Bool.not_false, decide_eq_true_eq, decide_eq_false_iff_not] at hg20
    refine wl_take hF rfl rfl rfl rfl ?_
    refine wl hF rfl rfl rfl (r_loadn ag59 (hF.ev rfl) (hS.box_rd (i := 0) rfl) sz59) ?_; clear hF a; intro a hF
    refine wl_take hF rfl rfl rfl rfl ?_
    refine wl_call hF rfl rfl rfl (r_call1 en124 (hF.ev rfl)) (specIsOp_c _) ?_; clear hF a; rintro v w6 a ⟨rfl, hB_⟩ hF; replace hS := hS.ext hB_; clear hB_
    refine wl_take hF rfl rfl rfl rfl ?_
    refine wl hF rfl rfl rfl (r_not (hF.ev rfl)) ?_; clear hF a; intro a hF
    refine wl hF rfl rfl rfl (r_pick_f (hF.ev rfl) (hF.ev rfl)) ?_; clear hF a; intro a hF
    exact wl_nil ⟨rfl, (Fr.pre (A := [_, _, _, _]) hF rfl).keep hF (t := 24) rfl, hS⟩
  ·
    intro hg20 a hF; try simp only [Bool.not_eq_true', Bool.not_eq_false', Bool.or_eq_true, Bool.and_eq_true, Bool.or_eq_false_iff, Bool.and_eq_false_iff, Bool.not_eq_eq_eq_not, Bool.not_true, Bool.not_false, decide_eq_true_eq, decide_eq_false_iff_not] at hg20
    refine wl_skip hF rfl rfl rfl rfl rfl rfl ?_; clear hF a; intro a hF
    refine wl_skip hF rfl rfl rfl rfl rfl rfl ?_; clear hF a; intro a hF
    refine wl_skip hF rfl rfl rfl rfl rfl rfl ?_; clear hF a; intro a hF
    refine wl hF rfl rfl rfl (r_pick_t (hF.ev rfl) ec) ?_; clear hF a; intro a hF
    exact wl_nil ⟨rfl, (Fr.pre (A := [_, _, _, _]) hF rfl).keep hF (t := 24) rfl, hS⟩
  clear hF a hS; intro a w7 hF hS
  refine wl_nil ?_
  refine hK3 _ _ ?_
  revert hF; intro hF0; refine wc_fx (t := 24) hF0 rfl (fun c24 hF => ?_) (fun c24 hF => ?_)
  ·
    clear hF0; try simp only [Bool.not_eq_true', Bool.not_eq_false', Bool.or_eq_true, Bool.and_eq_true, Bool.or_eq_false_iff, Bool.and_eq_false_iff, Bool.not_eq_eq_eq_not, Bool.not_true, Bool.not_false, decide_eq_true_eq, decide_eq_false_iff_not] at c24
    rw [hwl] at c24
    refine wp_seq_k fun K4 hK4 => ?_
    refine wp_region_lit ?_
    refine wl hF rfl rfl rfl (r_assign ec) ?_; clear hF a; intro a hF
    refine wl_nil ?_
    refine hK4 _ _ ?_
    refine wp_ret ?_
    try simp only [Exit.then, Exit.inBlock, ↓reduceIte]
    refine ret1 rfl hF rfl ⟨congrArg vi (Eq.symm ?_), hS.old⟩
    unfold refusalOf
    first
      | (rw [if_pos ⟨c24.1.1, c24.1.2, c24.2⟩]; clear hF hS a hK4 hK3 hK2 hK1 K4 K3 K2 K1; repeat' split
         all_goals omega)
      | exact if_neg (by
          rintro ⟨a, b, c⟩
          rcases c24 with (h | h) | h
          · rw [h] at a; cases a
          · exact h b
          · exact h c)
  ·
    clear hF0; try simp only [Bool.not_eq_true', Bool.not_eq_false', Bool.or_eq_true, Bool.and_eq_true, Bool.or_eq_false_iff, Bool.and_eq_false_iff, Bool.not_eq_eq_eq_not, Bool.not_true, Bool.not_false, decide_eq_true_eq, decide_eq_false_iff_not] at c24
    rw [hwl] at c24
    have hsn := thread_snap (state_thread (p := p) c24.1.1 (by omega) (by omega))
    refine wp_skip ?_
    refine hK2 _ _ ?_
    refine wp_seq_k fun K5 hK5 => ?_
    refine wp_region_lit ?_
    refine wl hF rfl rfl rfl (r_field fo37_3 (hF.ev rfl)) ?_; clear hF a; intro a hF
    refine wl hF rfl rfl rfl (r_load1 sc35 (hF.ev rfl) (hS.box (i := 1) rfl rfl)) ?_; clear hF a; intro a hF
    refine wl hF rfl rfl rfl (r_move (hF.ev rfl)) ?_; clear hF a; intro a hF
    obtain ⟨g28, o28, m28, q28, cs28, hv28, hm28, hl28, hk28, hz28, hc28⟩ := Rd.at (r2) (a := a) (X := .tmp 27) (hF.ev rfl) (by omega) (by omega)
    have hkk28 := hk28; obtain ⟨v28_0, v28_1, v28_2, v28_3, v28_4, rfl, r28_0, r28_1, r28_2, r28_3, r28_4⟩ := hk28
    obtain ⟨A28_0, q28_0, rfl, hq28_0, hn28_0⟩ := r28_0.sl; unfold maxLen at hn28_0
    obtain ⟨A28_1, q28_1, rfl, hq28_1, hn28_1⟩ := r28_1.sl; unfold maxLen at hn28_1
    obtain ⟨A28_2, q28_2, rfl, hq28_2, hn28_2⟩ := r28_2.sl; unfold maxLen at hn28_2
    obtain ⟨A28_3, q28_3, rfl, hq28_3, hn28_3⟩ := r28_3.sl; unfold maxLen at hn28_3
    obtain ⟨A28_4, q28_4, rfl, hq28_4, hn28_4⟩ := r28_4.sl; unfold maxLen at hn28_4
    refine wl hF rfl rfl rfl (r_index sl35 ((hF.ev rfl).trans hv28) (hF.ev rfl) (by omega) (by first | omega | (simp at hm28; omega))) ?_; clear hF a; intro a hF
    refine wl hF rfl rfl rfl (r_loadn ag96 (hF.ev rfl) (fun j_ u_ hu_ => cellB hS.old (hc28 j_ u_ hu_)) sz96) ?_; clear hF a; intro a hF
    refine wl_alloc hF hS rfl zr96 ?_; clear hF a; intro g3 w8 a hS_ hB_ hF; replace hS := hS_; clear hS_ hB_
    refine wl_storew hF hS (i := 0) rfl (hF.ev rfl) (hF.ev rfl) sz96 rfl rfl ?_; intro w9 hS_; replace hS := hS_; clear hS_; dsimp only [List.set, Nat.reduceAdd] at hS
    refine wl_nil ?_
    refine hK5 _ _ ?_
    refine wp_seq_k fun K6 hK6 => ?_
    refine wp_block ?_
    refine wp_seq_k fun K7 hK7 => ?_
    refine wp_region_lit ?_
    refine wl hF rfl rfl rfl (r_field fo59_1 (hF.ev rfl)) ?_; clear hF a; intro a hF
    refine wl hF rfl rfl rfl (r_load1 sc3 (hF.ev rfl) (hS.box (i := 1) rfl rfl)) ?_; clear hF a; intro a hF
    refine wl hF rfl rfl rfl (r_field fo37_0 (hF.ev rfl)) ?_; clear hF a; intro a hF
    refine wl hF rfl rfl rfl (r_field fo34_1 (hF.ev rfl)) ?_; clear hF a; intro a hF
    refine wl hF rfl rfl rfl (r_load1 sc3 (hF.ev rfl) (hS.box (i := 2) rfl rfl)) ?_; clear hF a; intro a hF
    refine wl hF rfl rfl rfl (r_geq (hF.ev rfl) (hF.ev rfl)) ?_; clear hF a; intro a hF
    refine wl hF rfl rfl rfl (r_assign (hF.ev rfl)) ?_; clear hF a; intro a hF
    refine wl_nil ?_
    refine hK7 _ _ ?_
    revert hF; intro hF0; refine wc_fx (t := 30) hF0 rfl (fun c30 hF => ?_) (fun c30 hF => ?_)
    ·
      clear hF0; try simp only [Bool.not_eq_true', Bool.not_eq_false', Bool.or_eq_true, Bool.and_eq_true, Bool.or_eq_false_iff, Bool.and_eq_false_iff, Bool.not_eq_eq_eq_not, Bool.not_true, Bool.not_false, decide_eq_true_eq, decide_eq_false_iff_not] at c30
      refine wp_seq_k fun K8 hK8 => ?_
      refine wp_region_lit ?_
      refine wl hF rfl rfl rfl (r_assign ec) ?_; clear hF a; intro a hF
      refine wl_nil ?_
      refine hK8 _ _ ?_
      refine wp_ret ?_
      try simp only [Exit.then, Exit.inBlock, ↓reduceIte]
      refine ret1 rfl hF rfl ⟨congrArg vi (Eq.symm ?_), hS.old⟩
      unfold refusalOf
      first
        | (rw [if_pos ⟨c24.1.1, c24.1.2, c24.2⟩]; clear hF hS a hK8 hK7 hK6 hK5 hK3 hK2 hK1 K8 K7 K6 K5 K3 K2 K1; repeat' split
           all_goals omega)
        | exact if_neg (by
            rintro ⟨a, b, c⟩
            rcases c24 with (h | h) | h
            · rw [h] at a; cases a
            · exact h b
            · exact h c)
    ·
      clear hF0; try simp only [Bool.not_eq_true', Bool.not_eq_false', Bool.or_eq_true, Bool.and_eq_true, Bool.or_eq_false_iff, Bool.and_eq_false_iff, Bool.not_eq_eq_eq_not, Bool.not_true, Bool.not_false, decide_eq_true_eq, decide_eq_false_iff_not] at c30
      refine wp_seq_k fun K9 hK9 => ?_
      refine wp_region_lit ?_
      refine wl hF rfl rfl rfl (r_field fo59_0 (hF.ev rfl)) ?_; clear hF a; intro a hF
      refine wl hF rfl rfl rfl (r_load1 sc3 (hF.ev rfl) (hS.box (i := 1) rfl rfl)) ?_; clear hF a; intro a hF
      refine wl hF rfl rfl rfl (r_eql (hF.ev rfl) ec) ?_; clear hF a; intro a hF
      refine wl hF rfl rfl rfl (r_move (hF.ev rfl)) ?_; clear hF a; intro a hF
      apply wl_and (A := [_, _, _, _]) (pk := 45) hF hS (tc := 41) rfl
      ·
        intro hg41 a hF; try simp only [Bool.not_eq_true', Bool.not_eq_false', Bool.or_eq_true, Bool.and_eq_true, Bool.or_eq_false_iff, Bool.and_eq_false_iff, Bool.not_eq_eq_eq_not, Bool.not_true, Bool.not_false, decide_eq_true_eq, decide_eq_false_iff_not] at hg41
        refine wl_take hF rfl rfl rfl rfl ?_
        refine wl hF rfl rfl rfl (r_field fo96_3 (hF.ev rfl)) ?_; clear hF a; intro a hF
        refine wl_take hF rfl rfl rfl rfl ?_
        refine wl hF rfl rfl rfl (r_load1 sc3 (hF.ev rfl) (hS.box (i := 0) rfl rfl)) ?_; clear hF a; intro a hF
        refine wl_take hF rfl rfl rfl rfl ?_
        refine wl hF rfl rfl rfl (r_gtr (hF.ev rfl) ec) ?_; clear hF a; intro a hF
        refine wl hF rfl rfl rfl (r_pick_t (hF.ev rfl) (hF.ev rfl)) ?_; clear hF a; intro a hF
        exact wl_nil ⟨rfl, (Fr.pre (A := [_, _, _, _]) hF rfl).keep hF (t := 45) rfl, hS⟩
      ·
        intro hg41 a hF; try simp only [Bool.not_eq_true', Bool.not_eq_false', Bool.or_eq_true, Bool.and_eq_true, Bool.or_eq_false_iff, Bool.and_eq_false_iff, Bool.not_eq_eq_eq_not, Bool.not_true, Bool.not_false, decide_eq_true_eq, decide_eq_false_iff_not] at hg41
        refine wl_skip hF rfl rfl rfl rfl rfl rfl ?_; clear hF a; intro a hF
        refine wl_skip hF rfl rfl rfl rfl rfl rfl ?_; clear hF a; intro a hF
        refine wl_skip hF rfl rfl rfl rfl rfl rfl ?_; clear hF a; intro a hF
        refine wl hF rfl rfl rfl (r_pick_f (hF.ev rfl) ec) ?_; clear hF a; intro a hF
        exact wl_nil ⟨rfl, (Fr.pre (A := [_, _, _, _]) hF rfl).keep hF (t := 45) rfl, hS⟩
      clear hF a hS; intro a w10 hF hS
      refine wl hF rfl rfl rfl (r_assign (hF.ev rfl)) ?_; clear hF a; intro a hF
      refine wl_nil ?_
      refine hK9 _ _ ?_
      revert hF; intro hF0; refine wc_fx (t := 37) hF0 rfl (fun c37 hF => ?_) (fun c37 hF => ?_)
      ·
        clear hF0; try simp only [Bool.not_eq_true', Bool.not_eq_false', Bool.or_eq_true, Bool.and_eq_true, Bool.or_eq_false_iff, Bool.and_eq_false_iff, Bool.not_eq_eq_eq_not, Bool.not_true, Bool.not_false, decide_eq_true_eq, decide_eq_false_iff_not] at c37
        refine wp_seq_k fun K10 hK10 => ?_
        refine wp_region_lit ?_
        refine wl hF rfl rfl rfl (r_assign ec) ?_; clear hF a; intro a hF
        refine wl_nil ?_
        refine hK10 _ _ ?_
        refine wp_ret ?_
        try simp only [Exit.then, Exit.inBlock, ↓reduceIte]
        refine ret1 rfl hF rfl ⟨congrArg vi (Eq.symm ?_), hS.old⟩
        unfold refusalOf
        first
          | (rw [if_pos ⟨c24.1.1, c24.1.2, c24.2⟩]; clear hF hS a hK10 hK9 hK7 hK6 hK5 hK3 hK2 hK1 K10 K9 K7 K6 K5 K3 K2 K1; repeat' split
             all_goals omega)
          | exact if_neg (by
              rintro ⟨a, b, c⟩
              rcases c24 with (h | h) | h
              · rw [h] at a; cases a
              · exact h b
              · exact h c)
      ·
        clear hF0; try simp only [Bool.not_eq_true', Bool.not_eq_false', Bool.or_eq_true, Bool.and_eq_true, Bool.or_eq_false_iff, Bool.and_eq_false_iff, Bool.not_eq_eq_eq_not, Bool.not_true, Bool.not_false, decide_eq_true_eq, decide_eq_false_iff_not] at c37
        refine wp_seq_k fun K11 hK11 => ?_
        refine wp_region_lit ?_
        refine wl hF rfl rfl rfl (r_field fo59_0 (hF.ev rfl)) ?_; clear hF a; intro a hF
        refine wl hF rfl rfl rfl (r_load1 sc3 (hF.ev rfl) (hS.box (i := 1) rfl rfl)) ?_; clear hF a; intro a hF
        refine wl hF rfl rfl rfl (r_eql (hF.ev rfl) ec) ?_; clear hF a; intro a hF
        refine wl hF rfl rfl rfl (r_move (hF.ev rfl)) ?_; clear hF a; intro a hF
        apply wl_or (A := [_, _, _, _]) (pk := 54) hF hS (tc := 50) rfl
        ·
          intro hg50 a hF; try simp only [Bool.not_eq_true', Bool.not_eq_false', Bool.or_eq_true, Bool.and_eq_true, Bool.or_eq_false_iff, Bool.and_eq_false_iff, Bool.not_eq_eq_eq_not, Bool.not_true, Bool.not_false, decide_eq_true_eq, decide_eq_false_iff_not] at hg50
          refine wl_take hF rfl rfl rfl rfl ?_
          refine wl hF rfl rfl rfl (r_field fo59_0 (hF.ev rfl)) ?_; clear hF a; intro a hF
          refine wl_take hF rfl rfl rfl rfl ?_
          refine wl hF rfl rfl rfl (r_load1 sc3 (hF.ev rfl) (hS.box (i := 1) rfl rfl)) ?_; clear hF a; intro a hF
          refine wl_take hF rfl rfl rfl rfl ?_
          refine wl hF rfl rfl rfl (r_eql (hF.ev rfl) ec) ?_; clear hF a; intro a hF
          refine wl hF rfl rfl rfl (r_pick_f (hF.ev rfl) (hF.ev rfl)) ?_; clear hF a; intro a hF
          exact wl_nil ⟨rfl, (Fr.pre (A := [_, _, _, _]) hF rfl).keep hF (t := 54) rfl, hS⟩
        ·
          intro hg50 a hF; try simp only [Bool.not_eq_true', Bool.not_eq_false', Bool.or_eq_true, Bool.and_eq_true, Bool.or_eq_false_iff, Bool.and_eq_false_iff, Bool.not_eq_eq_eq_not, Bool.not_true, Bool.not_false, decide_eq_true_eq, decide_eq_false_iff_not] at hg50
          refine wl_skip hF rfl rfl rfl rfl rfl rfl ?_; clear hF a; intro a hF
          refine wl_skip hF rfl rfl rfl rfl rfl rfl ?_; clear hF a; intro a hF
          refine wl_skip hF rfl rfl rfl rfl rfl rfl ?_; clear hF a; intro a hF
          refine wl hF rfl rfl rfl (r_pick_t (hF.ev rfl) ec) ?_; clear hF a; intro a hF
          exact wl_nil ⟨rfl, (Fr.pre (A := [_, _, _, _]) hF rfl).keep hF (t := 54) rfl, hS⟩
        clear hF a hS; intro a w11 hF hS
        refine wl hF rfl rfl rfl (r_move (hF.ev rfl)) ?_; clear hF a; intro a hF
        apply wl_and (A := [_, _, _, _]) (pk := 59) hF hS (tc := 55) rfl
        ·
          intro hg55 a hF; try simp only [Bool.not_eq_true', Bool.not_eq_false', Bool.or_eq_true, Bool.and_eq_true, Bool.or_eq_false_iff, Bool.and_eq_false_iff, Bool.not_eq_eq_eq_not, Bool.not_true, Bool.not_false, decide_eq_true_eq, decide_eq_false_iff_not] at hg55
          refine wl_take hF rfl rfl rfl rfl ?_
          refine wl hF rfl rfl rfl (r_field fo96_3 (hF.ev rfl)) ?_; clear hF a; intro a hF
          refine wl_take hF rfl rfl rfl rfl ?_
          refine wl hF rfl rfl rfl (r_load1 sc3 (hF.ev rfl) (hS.box (i := 0) rfl rfl)) ?_; clear hF a; intro a hF
          refine wl_take hF rfl rfl rfl rfl ?_
          refine wl hF rfl rfl rfl (r_eql (hF.ev rfl) ec) ?_; clear hF a; intro a hF
          refine wl hF rfl rfl rfl (r_pick_t (hF.ev rfl) (hF.ev rfl)) ?_; clear hF a; intro a hF
          exact wl_nil ⟨rfl, (Fr.pre (A := [_, _, _, _]) hF rfl).keep hF (t := 59) rfl, hS⟩
        ·
          intro hg55 a hF; try simp only [Bool.not_eq_true', Bool.not_eq_false', Bool.or_eq_true, Bool.and_eq_true, Bool.or_eq_false_iff, Bool.and_eq_false_iff, Bool.not_eq_eq_eq_not, Bool.not_true, Bool.not_false, decide_eq_true_eq, decide_eq_false_iff_not] at hg55
          refine wl_skip hF rfl rfl rfl rfl rfl rfl ?_; clear hF a; intro a hF
          refine wl_skip hF rfl rfl rfl rfl rfl rfl ?_; clear hF a; intro a hF
          refine wl_skip hF rfl rfl rfl rfl rfl rfl ?_; clear hF a; intro a hF
          refine wl hF rfl rfl rfl (r_pick_f (hF.ev rfl) ec) ?_; clear hF a; intro a hF
          exact wl_nil ⟨rfl, (Fr.pre (A := [_, _, _, _]) hF rfl).keep hF (t := 59) rfl, hS⟩
        clear hF a hS; intro a w12 hF hS
        refine wl hF rfl rfl rfl (r_assign (hF.ev rfl)) ?_; clear hF a; intro a hF
        refine wl_nil ?_
        refine hK11 _ _ ?_
        revert hF; intro hF0; refine wc_fx (t := 46) hF0 rfl (fun c46 hF => ?_) (fun c46 hF => ?_)
        ·
          clear hF0; try simp only [Bool.not_eq_true', Bool.not_eq_false', Bool.or_eq_true, Bool.and_eq_true, Bool.or_eq_false_iff, Bool.and_eq_false_iff, Bool.not_eq_eq_eq_not, Bool.not_true, Bool.not_false, decide_eq_true_eq, decide_eq_false_iff_not] at c46
          refine wp_seq_k fun K12 hK12 => ?_
          refine wp_region_lit ?_
          refine wl hF rfl rfl rfl (r_assign ec) ?_; clear hF a; intro a hF
          refine wl_nil ?_
          refine hK12 _ _ ?_
          refine wp_ret ?_
          try simp only [Exit.then, Exit.inBlock, ↓reduceIte]
          refine ret1 rfl hF rfl ⟨congrArg vi (Eq.symm ?_), hS.old⟩
          unfold refusalOf
          first
            | (rw [if_pos ⟨c24.1.1, c24.1.2, c24.2⟩]; clear hF hS a hK12 hK11 hK9 hK7 hK6 hK5 hK3 hK2 hK1 K12 K11 K9 K7 K6 K5 K3 K2 K1; repeat' split
               all_goals omega)
            | exact if_neg (by
                rintro ⟨a, b, c⟩
                rcases c24 with (h | h) | h
                · rw [h] at a; cases a
                · exact h b
                · exact h c)
        ·
          clear hF0; try simp only [Bool.not_eq_true', Bool.not_eq_false', Bool.or_eq_true, Bool.and_eq_true, Bool.or_eq_false_iff, Bool.and_eq_false_iff, Bool.not_eq_eq_eq_not, Bool.not_true, Bool.not_false, decide_eq_true_eq, decide_eq_false_iff_not] at c46
          refine wp_skip ?_
          simp only [Exit.then, Exit.inBlock, ↓reduceIte]
          refine hK6 _ _ ?_
          refine wp_seq_k fun K13 hK13 => ?_
          refine wp_region_lit ?_
          refine wl hF rfl rfl rfl (r_assign ec) ?_; clear hF a; intro a hF
          refine wl_nil ?_
          refine hK13 _ _ ?_
          refine wp_ret ?_
          try simp only [Exit.then, Exit.inBlock, ↓reduceIte]
          refine ret1 rfl hF rfl ⟨congrArg vi (Eq.symm ?_), hS.old⟩
          unfold refusalOf
          first
            | (rw [if_pos ⟨c24.1.1, c24.1.2, c24.2⟩]; clear hF hS a hK13 hK11 hK9 hK7 hK6 hK5 hK3 hK2 hK1 K13 K11 K9 K7 K6 K5 K3 K2 K1; repeat' split
               all_goals omega)
            | exact if_neg (by
                rintro ⟨a, b, c⟩
                rcases c24 with (h | h) | h
                · rw [h] at a; cases a
                · exact h b
                · exact h c)

set_option maxHeartbeats 4000000 in
set_option maxRecDepth 20000 in
theorem implRefusal_c {W : World} {s : Sl.State} {cs : List Value} (hm : stateEK.K W s cs) (hw : s.wf) (hz : (s.size : Int) ≤ 1048576) {p : Int} {o : Sl.Op} (hp : int64 p) : Calls Try.prog 48 #[.agg cs.toArray, vi p, .agg o.enc.toArray] W (Ret fun v w' => v = vi (refusalOf s p o) ∧ Below W.heap.size W w') := by
  refine calls_fr Try.func48 rfl Try.ntmps48 rfl ?_
  intro a hF
  have hS := Sep.refl W
  obtain ⟨v0, v1, v2, rfl, r0, r1, r2⟩ := hm
  have hm : stateEK.K W s (s.encv v0 v1 v2) := ⟨_, _, _, rfl, r0, r1, r2⟩
  obtain ⟨A_a, q_a, rfl, hq_a, hn_a⟩ := r0.sl; unfold maxLen at hn_a
  obtain ⟨A_b, q_b, rfl, hq_b, hn_b⟩ := r1.sl; unfold maxLen at hn_b
  obtain ⟨A_c, q_c, rfl, hq_c, hn_c⟩ := r2.sl; unfold maxLen at hn_c
  have hwl : IntKind.i64.wrap ((s.threads.length : Int) - 1) = s.threads.length - 1 := w64_id (by omega) (by omega)
  refine wp_seq_k fun K1 hK1 => ?_
  refine wp_region_lit ?_
  refine wl_box (cs := [_, _, _, _, _, _, _, _, _, _, _, _, _]) hF hS rfl (hF.ev rfl) rfl ?_; clear hF a; intro g1 w1 a hS_ hB_ hF; replace hS := hS_; clear hS_ hB_
  refine wl_box (cs := [_, _, _]) hF hS rfl (hF.ev rfl) rfl ?_; clear hF a; intro g2 w2 a hS_ hB_ hF; replace hS := hS_; clear hS_ hB_
  refine wl hF rfl rfl rfl (r_assign ec) ?_; clear hF a; intro a hF
  refine wl_nil ?_
  refine hK1 _ _ ?_
  refine wp_seq_k fun K2 hK2 => ?_
  refine wp_seq_k fun K3 hK3 => ?_
  refine wp_region_lit ?_
  refine wl hF rfl rfl rfl (r_loadn ag37 (hF.ev rfl) (hS.box_rd (i := 1) rfl) sz37) ?_; clear hF a; intro a hF
  refine wl hF rfl rfl rfl (r_move (hF.ev rfl)) ?_; clear hF a; intro a hF
  refine wl_call hF rfl rfl rfl (r_call2 en114 (hF.ev rfl) (hF.ev rfl)) (hasThread_c (hS.k hm) hw hz hp) ?_; clear hF a; rintro v w3 a ⟨rfl, hB_⟩ hF; replace hS := hS.ext hB_; clear hB_
  refine wl hF rfl rfl rfl (r_not (hF.ev rfl)) ?_; clear hF a; intro a hF
  refine wl hF rfl rfl rfl (r_move (hF.ev rfl)) ?_; clear hF a; intro a hF
  apply wl_or (A := [_, _, _, _]) (pk := 16) hF hS (tc := 12) rfl
  ·
    intro hg12 a hF; try simp only [Bool.not_eq_true', Bool.not_eq_false', Bool.or_eq_true, Bool.and_eq_true, Bool.or_eq_false_iff, Bool.and_eq_false_iff, Bool.not_eq_eq_eq_not, Bool.not_true, Bool.not_false, decide_eq_true_eq, decide_eq_false_iff_not] at hg12
    refine wl_take hF rfl rfl rfl rfl ?_
    refine wl hF rfl rfl rfl (r_loadn ag59 (hF.ev rfl) (hS.box_rd (i := 0) rfl) sz59) ?_; clear hF a; intro a hF
    refine wl_take hF rfl rfl rfl rfl ?_
    refine wl_call hF rfl rfl rfl (r_call1 en125 (hF.ev rfl)) (implIsOp_c _) ?_; clear hF a; rintro v w4 a ⟨rfl, hB_⟩ hF; replace hS := hS.ext hB_; clear hB_
    refine wl_take hF rfl rfl rfl rfl ?_
    refine wl hF rfl rfl rfl (r_not (hF.ev rfl)) ?_; clear hF a; intro a hF
    refine wl hF rfl rfl rfl (r_pick_f (hF.ev rfl) (hF.ev rfl)) ?_; clear hF a; intro a hF
    exact wl_nil ⟨rfl, (Fr.pre (A := [_, _, _, _]) hF rfl).keep hF (t := 16) rfl, hS⟩
  ·
    intro hg12 a hF; try simp only [Bool.not_eq_true', Bool.not_eq_false', Bool.or_eq_true, Bool.and_eq_true, Bool.or_eq_false_iff, Bool.and_eq_false_iff, Bool.not_eq_eq_eq_not, Bool.not_true, Bool.not_false, decide_eq_true_eq, decide_eq_false_iff_not] at hg12
    refine wl_skip hF rfl rfl rfl rfl rfl rfl ?_; clear hF a; intro a hF
    refine wl_skip hF rfl rfl rfl rfl rfl rfl ?_; clear hF a; intro a hF
    refine wl_skip hF rfl rfl rfl rfl rfl rfl ?_; clear hF a; intro a hF
    refine wl hF rfl rfl rfl (r_pick_t (hF.ev rfl) ec) ?_; clear hF a; intro a hF
    exact wl_nil ⟨rfl, (Fr.pre (A := [_, _, _, _]) hF rfl).keep hF (t := 16) rfl, hS⟩
  clear hF a hS; intro a w5 hF hS
  refine wl_nil ?_
  refine hK3 _ _ ?_
  revert hF; intro hF0; refine wc_fx (t := 16) hF0 rfl (fun c16 hF => ?_) (fun c16 hF => ?_)
  ·
    clear hF0; try simp only [Bool.not_eq_true', Bool.not_eq_false', Bool.or_eq_true, Bool.and_eq_true, Bool.or_eq_false_iff, Bool.and_eq_false_iff, Bool.not_eq_eq_eq_not, Bool.not_true, Bool.not_false, decide_eq_true_eq, decide_eq_false_iff_not] at c16
    refine wp_seq_k fun K4 hK4 => ?_
    refine wp_region_lit ?_
    refine wl hF rfl rfl rfl (r_assign ec) ?_; clear hF a; intro a hF
    refine wl_nil ?_
    refine hK4 _ _ ?_
    refine wp_ret ?_
    try simp only [Exit.then, Exit.inBlock, ↓reduceIte]
    refine ret1 rfl hF rfl ⟨congrArg vi (Eq.symm ?_), hS.old⟩
    unfold refusalOf
    first
      | (rw [if_pos ⟨c16.1.1, c16.1.2, c16.2⟩]; clear hF hS a hK4 hK3 hK2 hK1 K4 K3 K2 K1; repeat' split
         all_goals omega)
      | exact if_neg (by
          rintro ⟨a, b, c⟩
          rcases c16 with (h | h) | h
          · rw [h] at a; cases a
          · exact h b
          · exact h c)
  ·
    clear hF0; try simp only [Bool.not_eq_true', Bool.not_eq_false', Bool.or_eq_true, Bool.and_eq_true, Bool.or_eq_false_iff, Bool.and_eq_false_iff, Bool.not_eq_eq_eq_not, Bool.not_true, Bool.not_false, decide_eq_true_eq, decide_eq_false_iff_not] at c16
    refine wp_skip ?_
    refine hK2 _ _ ?_
    refine wp_seq_k fun K5 hK5 => ?_
    refine wp_region_lit ?_
    refine wl hF rfl rfl rfl (r_field fo37_3 (hF.ev rfl)) ?_; clear hF a; intro a hF
    refine wl hF rfl rfl rfl (r_load1 sc35 (hF.ev rfl) (hS.box (i := 1) rfl rfl)) ?_; clear hF a; intro a hF
    refine wl hF rfl rfl rfl (r_move (hF.ev rfl)) ?_; clear hF a; intro a hF
    obtain ⟨g20, o20, m20, q20, cs20, hv20, hm20, hl20, hk20, hz20, hc20⟩ := Rd.at (r2) (a := a) (X := .tmp 19) (hF.ev rfl) (by omega) (by omega)
    have hkk20 := hk20; obtain ⟨v20_0, v20_1, v20_2, v20_3, v20_4, rfl, r20_0, r20_1, r20_2, r20_3, r20_4⟩ := hk20
    refine wl hF rfl rfl rfl (r_index sl35 ((hF.ev rfl).trans hv20) (hF.ev rfl) (by omega) (by first | omega | (simp at hm20; omega))) ?_; clear hF a; intro a hF
    refine wl hF rfl rfl rfl (r_field fo96_3 (hF.ev rfl)) ?_; clear hF a; intro a hF
    refine wl hF rfl rfl rfl (r_load1 sc3 (hF.ev rfl) (cellB hS.old (hc20 6 _ rfl))) ?_; clear hF a; intro a hF
    refine wl hF rfl rfl rfl (r_neq (hF.ev rfl) ec) ?_; clear hF a; intro a hF
    refine wl hF rfl rfl rfl (r_assign (hF.ev rfl)) ?_; clear hF a; intro a hF
    refine wl_nil ?_
    refine hK5 _ _ ?_
    refine wp_seq_k fun K6 hK6 => ?_
    refine wp_block ?_
    refine wp_seq_k fun K7 hK7 => ?_
    refine wp_region_lit ?_
    refine wl hF rfl rfl rfl (r_field fo59_1 (hF.ev rfl)) ?_; clear hF a; intro a hF
    refine wl hF rfl rfl rfl (r_load1 sc3 (hF.ev rfl) (hS.box (i := 0) rfl rfl)) ?_; clear hF a; intro a hF
    refine wl hF rfl rfl rfl (r_field fo37_0 (hF.ev rfl)) ?_; clear hF a; intro a hF
    refine wl hF rfl rfl rfl (r_field fo34_1 (hF.ev rfl)) ?_; clear hF a; intro a hF
    refine wl hF rfl rfl rfl (r_load1 sc3 (hF.ev rfl) (hS.box (i := 1) rfl rfl)) ?_; clear hF a; intro a hF
    refine wl hF rfl rfl rfl (r_geq (hF.ev rfl) (hF.ev rfl)) ?_; clear hF a; intro a hF
    refine wl hF rfl rfl rfl (r_assign (hF.ev rfl)) ?_; clear hF a; intro a hF
    refine wl_nil ?_
    refine hK7 _ _ ?_
    revert hF; intro hF0; refine wc_fx (t := 24) hF0 rfl (fun c24 hF => ?_) (fun c24 hF => ?_)
    ·
      clear hF0; try simp only [Bool.not_eq_true', Bool.not_eq_false', Bool.or_eq_true, Bool.and_eq_true, Bool.or_eq_false_iff, Bool.and_eq_false_iff, Bool.not_eq_eq_eq_not, Bool.not_true, Bool.not_false, decide_eq_true_eq, decide_eq_false_iff_not] at c24
      refine wp_seq_k fun K8 hK8 => ?_
      refine wp_region_lit ?_
      refine wl hF rfl rfl rfl (r_assign ec) ?_; clear hF a; intro a hF
      refine wl_nil ?_
      refine hK8 _ _ ?_
      refine wp_ret ?_
      try simp only [Exit.then, Exit.inBlock, ↓reduceIte]
      refine ret1 rfl hF rfl ⟨congrArg vi (Eq.symm ?_), hS.old⟩
      unfold refusalOf
      first
        | (rw [if_pos ⟨c16.1.1, c16.1.2, c16.2⟩]; clear hF hS a hK8 hK7 hK6 hK5 hK3 hK2 hK1 K8 K7 K6 K5 K3 K2 K1; repeat' split
           all_goals omega)
        | exact if_neg (by
            rintro ⟨a, b, c⟩
            rcases c16 with (h | h) | h
            · rw [h] at a; cases a
            · exact h b
            · exact h c)
    ·
      clear hF0; try simp only [Bool.not_eq_true', Bool.not_eq_false', Bool.or_eq_true, Bool.and_eq_true, Bool.or_eq_false_iff, Bool.and_eq_false_iff, Bool.not_eq_eq_eq_not, Bool.not_true, Bool.not_false, decide_eq_true_eq, decide_eq_false_iff_not] at c24
      refine wp_seq_k fun K9 hK9 => ?_
      refine wp_region_lit ?_
      refine wl hF rfl rfl rfl (r_field fo59_0 (hF.ev rfl)) ?_; clear hF a; intro a hF
      refine wl hF rfl rfl rfl (r_load1 sc3 (hF.ev rfl) (hS.box (i := 0) rfl rfl)) ?_; clear hF a; intro a hF
      refine wl hF rfl rfl rfl (r_eql (hF.ev rfl) ec) ?_; clear hF a; intro a hF
      refine wl hF rfl rfl rfl (r_move (hF.ev rfl)) ?_; clear hF a; intro a hF
      apply wl_and (A := [_, _]) (pk := 37) hF hS (tc := 35) rfl
      ·
        intro hg35 a hF; try simp only [Bool.not_eq_true', Bool.not_eq_false', Bool.or_eq_true, Bool.and_eq_true, Bool.or_eq_false_iff, Bool.and_eq_false_iff, Bool.not_eq_eq_eq_not, Bool.not_true, Bool.not_false, decide_eq_true_eq, decide_eq_false_iff_not] at hg35
        refine wl_take hF rfl rfl rfl rfl ?_
        refine wl hF rfl rfl rfl (r_move (hF.ev rfl)) ?_; clear hF a; intro a hF
        refine wl hF rfl rfl rfl (r_pick_t (hF.ev rfl) (hF.ev rfl)) ?_; clear hF a; intro a hF
        exact wl_nil ⟨rfl, (Fr.pre (A := [_, _]) hF rfl).keep hF (t := 37) rfl, hS⟩
      ·
        intro hg35 a hF; try simp only [Bool.not_eq_true', Bool.not_eq_false', Bool.or_eq_true, Bool.and_eq_true, Bool.or_eq_false_iff, Bool.and_eq_false_iff, Bool.not_eq_eq_eq_not, Bool.not_true, Bool.not_false, decide_eq_true_eq, decide_eq_false_iff_not] at hg35
        refine wl_skip hF rfl rfl rfl rfl rfl rfl ?_; clear hF a; intro a hF
        refine wl hF rfl rfl rfl (r_pick_f (hF.ev rfl) ec) ?_; clear hF a; intro a hF
        exact wl_nil ⟨rfl, (Fr.pre (A := [_, _]) hF rfl).keep hF (t := 37) rfl, hS⟩
      clear hF a hS; intro a w6 hF hS
      refine wl hF rfl rfl rfl (r_assign (hF.ev rfl)) ?_; clear hF a; intro a hF
      refine wl_nil ?_
      refine hK9 _ _ ?_
      revert hF; intro hF0; refine wc_fx (t := 31) hF0 rfl (fun c31 hF => ?_) (fun c31 hF => ?_)
      ·
        clear hF0; try simp only [Bool.not_eq_true', Bool.not_eq_false', Bool.or_eq_true, Bool.and_eq_true, Bool.or_eq_false_iff, Bool.and_eq_false_iff, Bool.not_eq_eq_eq_not, Bool.not_true, Bool.not_false, decide_eq_true_eq, decide_eq_false_iff_not] at c31
        refine wp_seq_k fun K10 hK10 => ?_
        refine wp_region_lit ?_
        refine wl hF rfl rfl rfl (r_assign ec) ?_; clear hF a; intro a hF
        refine wl_nil ?_
        refine hK10 _ _ ?_
        refine wp_ret ?_
        try simp only [Exit.then, Exit.inBlock, ↓reduceIte]
        refine ret1 rfl hF rfl ⟨congrArg vi (Eq.symm ?_), hS.old⟩
        unfold refusalOf
        first
          | (rw [if_pos ⟨c16.1.1, c16.1.2, c16.2⟩]; clear hF hS a hK10 hK9 hK7 hK6 hK5 hK3 hK2 hK1 K10 K9 K7 K6 K5 K3 K2 K1; repeat' split
             all_goals omega)
          | exact if_neg (by
              rintro ⟨a, b, c⟩
              rcases c16 with (h | h) | h
              · rw [h] at a; cases a
              · exact h b
              · exact h c)
      ·
        clear hF0; try simp only [Bool.not_eq_true', Bool.not_eq_false', Bool.or_eq_true, Bool.and_eq_true, Bool.or_eq_false_iff, Bool.and_eq_false_iff, Bool.not_eq_eq_eq_not, Bool.not_true, Bool.not_false, decide_eq_true_eq, decide_eq_false_iff_not] at c31
        refine wp_seq_k fun K11 hK11 => ?_
        refine wp_region_lit ?_
        refine wl hF rfl rfl rfl (r_field fo59_0 (hF.ev rfl)) ?_; clear hF a; intro a hF
        refine wl hF rfl rfl rfl (r_load1 sc3 (hF.ev rfl) (hS.box (i := 0) rfl rfl)) ?_; clear hF a; intro a hF
        refine wl hF rfl rfl rfl (r_eql (hF.ev rfl) ec) ?_; clear hF a; intro a hF
        refine wl hF rfl rfl rfl (r_move (hF.ev rfl)) ?_; clear hF a; intro a hF
        apply wl_or (A := [_, _, _, _]) (pk := 46) hF hS (tc := 42) rfl
        ·
          intro hg42 a hF; try simp only [Bool.not_eq_true', Bool.not_eq_false', Bool.or_eq_true, Bool.and_eq_true, Bool.or_eq_false_iff, Bool.and_eq_false_iff, Bool.not_eq_eq_eq_not, Bool.not_true, Bool.not_false, decide_eq_true_eq, decide_eq_false_iff_not] at hg42
          refine wl_take hF rfl rfl rfl rfl ?_
          refine wl hF rfl rfl rfl (r_field fo59_0 (hF.ev rfl)) ?_; clear hF a; intro a hF
          refine wl_take hF rfl rfl rfl rfl ?_
          refine wl hF rfl rfl rfl (r_load1 sc3 (hF.ev rfl) (hS.box (i := 0) rfl rfl)) ?_; clear hF a; intro a hF
          refine wl_take hF rfl rfl rfl rfl ?_
          refine wl hF rfl rfl rfl (r_eql (hF.ev rfl) ec) ?_; clear hF a; intro a hF
          refine wl hF rfl rfl rfl (r_pick_f (hF.ev rfl) (hF.ev rfl)) ?_; clear hF a; intro a hF
          exact wl_nil ⟨rfl, (Fr.pre (A := [_, _, _, _]) hF rfl).keep hF (t := 46) rfl, hS⟩
        ·
          intro hg42 a hF; try simp only [Bool.not_eq_true', Bool.not_eq_false', Bool.or_eq_true, Bool.and_eq_true, Bool.or_eq_false_iff, Bool.and_eq_false_iff, Bool.not_eq_eq_eq_not, Bool.not_true, Bool.not_false, decide_eq_true_eq, decide_eq_false_iff_not] at hg42
          refine wl_skip hF rfl rfl rfl rfl rfl rfl ?_; clear hF a; intro a hF
          refine wl_skip hF rfl rfl rfl rfl rfl rfl ?_; clear hF a; intro a hF
          refine wl_skip hF rfl rfl rfl rfl rfl rfl ?_; clear hF a; intro a hF
          refine wl hF rfl rfl rfl (r_pick_t (hF.ev rfl) ec) ?_; clear hF a; intro a hF
          exact wl_nil ⟨rfl, (Fr.pre (A := [_, _, _, _]) hF rfl).keep hF (t := 46) rfl, hS⟩
        clear hF a hS; intro a w7 hF hS
        refine wl hF rfl rfl rfl (r_move (hF.ev rfl)) ?_; clear hF a; intro a hF
        apply wl_and (A := [_, _, _]) (pk := 50) hF hS (tc := 47) rfl
        ·
          intro hg47 a hF; try simp only [Bool.not_eq_true', Bool.not_eq_false', Bool.or_eq_true, Bool.and_eq_true, Bool.or_eq_false_iff, Bool.and_eq_false_iff, Bool.not_eq_eq_eq_not, Bool.not_true, Bool.not_false, decide_eq_true_eq, decide_eq_false_iff_not] at hg47
          refine wl_take hF rfl rfl rfl rfl ?_
          refine wl hF rfl rfl rfl (r_move (hF.ev rfl)) ?_; clear hF a; intro a hF
          refine wl_take hF rfl rfl rfl rfl ?_
          refine wl hF rfl rfl rfl (r_not (hF.ev rfl)) ?_; clear hF a; intro a hF
          refine wl hF rfl rfl rfl (r_pick_t (hF.ev rfl) (hF.ev rfl)) ?_; clear hF a; intro a hF
          exact wl_nil ⟨rfl, (Fr.pre (A := [_, _, _]) hF rfl).keep hF (t := 50) rfl, hS⟩
        ·
          intro hg47 a hF; try simp only [Bool.not_eq_true', Bool.not_eq_false', Bool.or_eq_true, Bool.and_eq_true, Bool.or_eq_false_iff, Bool.and_eq_false_iff, Bool.not_eq_eq_eq_not, Bool.not_true, Bool.not_false, decide_eq_true_eq, decide_eq_false_iff_not] at hg47
          refine wl_skip hF rfl rfl rfl rfl rfl rfl ?_; clear hF a; intro a hF
          refine wl_skip hF rfl rfl rfl rfl rfl rfl ?_; clear hF a; intro a hF
          refine wl hF rfl rfl rfl (r_pick_f (hF.ev rfl) ec) ?_; clear hF a; intro a hF
          exact wl_nil ⟨rfl, (Fr.pre (A := [_, _, _]) hF rfl).keep hF (t := 50) rfl, hS⟩
        clear hF a hS; intro a w8 hF hS
        refine wl hF rfl rfl rfl (r_assign (hF.ev rfl)) ?_; clear hF a; intro a hF
        refine wl_nil ?_
        refine hK11 _ _ ?_
        revert hF; intro hF0; refine wc_fx (t := 38) hF0 rfl (fun c38 hF => ?_) (fun c38 hF => ?_)
        ·
          clear hF0; try simp only [Bool.not_eq_true', Bool.not_eq_false', Bool.or_eq_true, Bool.and_eq_true, Bool.or_eq_false_iff, Bool.and_eq_false_iff, Bool.not_eq_eq_eq_not, Bool.not_true, Bool.not_false, decide_eq_true_eq, decide_eq_false_iff_not] at c38
          refine wp_seq_k fun K12 hK12 => ?_
          refine wp_region_lit ?_
          refine wl hF rfl rfl rfl (r_assign ec) ?_; clear hF a; intro a hF
          refine wl_nil ?_
          refine hK12 _ _ ?_
          refine wp_ret ?_
          try simp only [Exit.then, Exit.inBlock, ↓reduceIte]
          refine ret1 rfl hF rfl ⟨congrArg vi (Eq.symm ?_), hS.old⟩
          unfold refusalOf
          first
            | (rw [if_pos ⟨c16.1.1, c16.1.2, c16.2⟩]; clear hF hS a hK12 hK11 hK9 hK7 hK6 hK5 hK3 hK2 hK1 K12 K11 K9 K7 K6 K5 K3 K2 K1; repeat' split
               all_goals omega)
            | exact if_neg (by
                rintro ⟨a, b, c⟩
                rcases c16 with (h | h) | h
                · rw [h] at a; cases a
                · exact h b
                · exact h c)
        ·
          clear hF0; try simp only [Bool.not_eq_true', Bool.not_eq_false', Bool.or_eq_true, Bool.and_eq_true, Bool.or_eq_false_iff, Bool.and_eq_false_iff, Bool.not_eq_eq_eq_not, Bool.not_true, Bool.not_false, decide_eq_true_eq, decide_eq_false_iff_not] at c38
          refine wp_skip ?_
          simp only [Exit.then, Exit.inBlock, ↓reduceIte]
          refine hK6 _ _ ?_
          refine wp_seq_k fun K13 hK13 => ?_
          refine wp_region_lit ?_
          refine wl hF rfl rfl rfl (r_assign ec) ?_; clear hF a; intro a hF
          refine wl_nil ?_
          refine hK13 _ _ ?_
          refine wp_ret ?_
          try simp only [Exit.then, Exit.inBlock, ↓reduceIte]
          refine ret1 rfl hF rfl ⟨congrArg vi (Eq.symm ?_), hS.old⟩
          unfold refusalOf
          first
            | (rw [if_pos ⟨c16.1.1, c16.1.2, c16.2⟩]; clear hF hS a hK13 hK11 hK9 hK7 hK6 hK5 hK3 hK2 hK1 K13 K11 K9 K7 K6 K5 K3 K2 K1; repeat' split
               all_goals omega)
            | exact if_neg (by
                rintro ⟨a, b, c⟩
                rcases c16 with (h | h) | h
                · rw [h] at a; cases a
                · exact h b
                · exact h c)

set_option maxHeartbeats 4000000 in
set_option maxRecDepth 20000 in
theorem reading_c {W : World} {t : Sl.Thread} {cs : List Value} (hm : threadEK.K W t cs) : Calls Try.prog 122 #[.agg cs.toArray] W (Ret fun v w' => v = .bool (decide (t.op.kind = 2)) ∧ Below W.heap.size W w') := by
  refine calls_fr Try.func122 rfl Try.ntmps122 rfl ?_
  intro a hF
  have hS := Sep.refl W
  obtain ⟨v0, v1, v2, v3, v4, rfl, r0, r1, r2, r3, r4⟩ := hm
  have hm : threadEK.K W t (t.encv v0 v1 v2 v3 v4) := ⟨_, _, _, _, _, rfl, r0, r1, r2, r3, r4⟩
  refine wp_seq_k fun K1 hK1 => ?_
  refine wp_region_lit ?_
  refine wl_box (cs := [_, _, _, _, _, _, _, _, _, _, _, _, _, _, _, _, _, _, _]) hF hS rfl (hF.ev rfl) rfl ?_; clear hF a; intro g1 w1 a hS_ hB_ hF; replace hS := hS_; clear hS_ hB_
  refine wl hF rfl rfl rfl (r_assign ec) ?_; clear hF a; intro a hF
  refine wl_nil ?_
  refine hK1 _ _ ?_
  refine wp_seq_k fun K2 hK2 => ?_
  refine wp_region_lit ?_
  refine wl hF rfl rfl rfl (r_field fo96_1 (hF.ev rfl)) ?_; clear hF a; intro a hF
  refine wl hF rfl rfl rfl (r_field fo59_0 (hF.ev rfl)) ?_; clear hF a; intro a hF
  refine wl hF rfl rfl rfl (r_load1 sc3 (hF.ev rfl) (hS.box (i := 0) rfl rfl)) ?_; clear hF a; intro a hF
  refine wl hF rfl rfl rfl (r_eql (hF.ev rfl) ec) ?_; clear hF a; intro a hF
  refine wl hF rfl rfl rfl (r_assign (hF.ev rfl)) ?_; clear hF a; intro a hF
  refine wl_nil ?_
  refine hK2 _ _ ?_
  refine wp_ret ?_
  try simp only [Exit.then, Exit.inBlock, ↓reduceIte]
  exact ret1 rfl hF rfl ⟨rfl, hS.old⟩

set_option maxHeartbeats 4000000 in
set_option maxRecDepth 20000 in
theorem specWalkKey_c {W : World} {s : Sl.State} {cs : List Value} (hm : stateEK.K W s cs) (hw : s.wf) (hz : (s.size : Int) ≤ 1048576) {p : Int} (hp : int64 p) : Calls Try.prog 44 #[.agg cs.toArray, vi p] W (Ret fun v w' => v = vi (walkKeyOf s p) ∧ Below W.heap.size W w') := by
  refine calls_fr Try.func44 rfl Try.ntmps44 rfl ?_
  intro a hF
  have hS := Sep.refl W
  obtain ⟨v0, v1, v2, rfl, r0, r1, r2⟩ := hm
  have hm : stateEK.K W s (s.encv v0 v1 v2) := ⟨_, _, _, rfl, r0, r1, r2⟩
  obtain ⟨A_a, q_a, rfl, hq_a, hn_a⟩ := r0.sl; unfold maxLen at hn_a
  obtain ⟨A_b, q_b, rfl, hq_b, hn_b⟩ := r1.sl; unfold maxLen at hn_b
  obtain ⟨A_c, q_c, rfl, hq_c, hn_c⟩ := r2.sl; unfold maxLen at hn_c
  have hwl : IntKind.i64.wrap ((s.threads.length : Int) - 1) = s.threads.length - 1 := w64_id (by omega) (by omega)
  refine wp_seq_k fun K1 hK1 => ?_
  refine wp_region_lit ?_
  refine wl_box (cs := [_, _, _, _, _, _, _, _, _, _, _, _, _]) hF hS rfl (hF.ev rfl) rfl ?_; clear hF a; intro g1 w1 a hS_ hB_ hF; replace hS := hS_; clear hS_ hB_
  refine wl hF rfl rfl rfl (r_assign ec) ?_; clear hF a; intro a hF
  refine wl_nil ?_
  refine hK1 _ _ ?_
  refine wp_seq_k fun K2 hK2 => ?_
  refine wp_seq_k fun K3 hK3 => ?_
  refine wp_region_lit ?_
  refine wl hF rfl rfl rfl (r_loadn ag37 (hF.ev rfl) (hS.box_rd (i := 0) rfl) sz37) ?_; clear hF a; intro a hF
  refine wl hF rfl rfl rfl (r_move (hF.ev rfl)) ?_; clear hF a; intro a hF
  refine wl_call hF rfl rfl rfl (r_call2 en32 (hF.ev rfl) (hF.ev rfl)) (specIsRunning_c (hS.k hm) hw (by omega) hp) ?_; clear hF a; rintro v w2 a ⟨rfl, hB_⟩ hF; replace hS := hS.ext hB_; clear hB_
  refine wl hF rfl rfl rfl (r_not (hF.ev rfl)) ?_; clear hF a; intro a hF
  refine wl_nil ?_
  refine hK3 _ _ ?_
  revert hF; intro hF0; refine wc_fx (t := 9) hF0 rfl (fun c9 hF => ?_) (fun c9 hF => ?_)
  ·
    clear hF0; try simp only [Bool.not_eq_true', Bool.not_eq_false', Bool.or_eq_true, Bool.and_eq_true, Bool.or_eq_false_iff, Bool.and_eq_false_iff, Bool.not_eq_eq_eq_not, Bool.not_true, Bool.not_false, decide_eq_true_eq, decide_eq_false_iff_not] at c9
    refine wp_seq_k fun K4 hK4 => ?_
    refine wp_region_lit ?_
    refine wl hF rfl rfl rfl (r_assign ec) ?_; clear hF a; intro a hF
    refine wl_nil ?_
    refine hK4 _ _ ?_
    refine wp_ret ?_
    try simp only [Exit.then, Exit.inBlock, ↓reduceIte]
    refine ret1 rfl hF rfl ⟨congrArg vi (Eq.symm ?_), hS.old⟩
    unfold walkKeyOf
    first
      | exact if_neg (by rw [c9]; decide)
      | (rw [if_pos c9]; done)
      | (rw [if_pos c9]; unfold walkKey; first | exact if_pos c22 | exact if_neg (by omega))
  ·
    clear hF0; try simp only [Bool.not_eq_true', Bool.not_eq_false', Bool.or_eq_true, Bool.and_eq_true, Bool.or_eq_false_iff, Bool.and_eq_false_iff, Bool.not_eq_eq_eq_not, Bool.not_true, Bool.not_false, decide_eq_true_eq, decide_eq_false_iff_not] at c9
    have hru := c9; unfold isRunning at hru; simp only [Bool.and_eq_true, decide_eq_true_eq] at hru
    have hb1 := hru.1.2
    refine wp_skip ?_
    refine hK2 _ _ ?_
    refine wp_seq_k fun K5 hK5 => ?_
    refine wp_region_lit ?_
    refine wl hF rfl rfl rfl (r_field fo37_3 (hF.ev rfl)) ?_; clear hF a; intro a hF
    refine wl hF rfl rfl rfl (r_load1 sc35 (hF.ev rfl) (hS.box (i := 0) rfl rfl)) ?_; clear hF a; intro a hF
    refine wl hF rfl rfl rfl (r_move (hF.ev rfl)) ?_; clear hF a; intro a hF
    obtain ⟨g13, o13, m13, q13, cs13, hv13, hm13, hl13, hk13, hz13, hc13⟩ := Rd.at (r2) (a := a) (X := .tmp 12) (hF.ev rfl) (by omega) (by omega)
    have hkk13 := hk13; obtain ⟨v13_0, v13_1, v13_2, v13_3, v13_4, rfl, r13_0, r13_1, r13_2, r13_3, r13_4⟩ := hk13
    obtain ⟨A13_0, q13_0, rfl, hq13_0, hn13_0⟩ := r13_0.sl; unfold maxLen at hn13_0
    obtain ⟨A13_1, q13_1, rfl, hq13_1, hn13_1⟩ := r13_1.sl; unfold maxLen at hn13_1
    obtain ⟨A13_2, q13_2, rfl, hq13_2, hn13_2⟩ := r13_2.sl; unfold maxLen at hn13_2
    obtain ⟨A13_3, q13_3, rfl, hq13_3, hn13_3⟩ := r13_3.sl; unfold maxLen at hn13_3
    obtain ⟨A13_4, q13_4, rfl, hq13_4, hn13_4⟩ := r13_4.sl; unfold maxLen at hn13_4
    refine wl hF rfl rfl rfl (r_index sl35 ((hF.ev rfl).trans hv13) (hF.ev rfl) (by omega) (by first | omega | (simp at hm13; omega))) ?_; clear hF a; intro a hF
    refine wl hF rfl rfl rfl (r_loadn ag96 (hF.ev rfl) (fun j_ u_ hu_ => cellB hS.old (hc13 j_ u_ hu_)) sz96) ?_; clear hF a; intro a hF
    refine wl_alloc hF hS rfl zr96 ?_; clear hF a; intro g2 w3 a hS_ hB_ hF; replace hS := hS_; clear hS_ hB_
    refine wl_storew hF hS (i := 0) rfl (hF.ev rfl) (hF.ev rfl) sz96 rfl rfl ?_; intro w4 hS_; replace hS := hS_; clear hS_; dsimp only [List.set, Nat.reduceAdd] at hS
    refine wl_nil ?_
    refine hK5 _ _ ?_
    refine wp_seq_k fun K6 hK6 => ?_
    refine wp_seq_k fun K7 hK7 => ?_
    refine wp_region_lit ?_
    refine wl hF rfl rfl rfl (r_loadn ag96 (hF.ev rfl) (hS.box_rd (i := 0) rfl) sz96) ?_; clear hF a; intro a hF
    refine wl_call hF rfl rfl rfl (r_call1 en122 (hF.ev rfl)) (reading_c (hS.k hkk13)) ?_; clear hF a; rintro v w5 a ⟨rfl, hB_⟩ hF; replace hS := hS.ext hB_; clear hB_
    refine wl hF rfl rfl rfl (r_move (hF.ev rfl)) ?_; clear hF a; intro a hF
    apply wl_or (A := [_, _, _, _, _]) (pk := 22) hF hS (tc := 17) rfl
    ·
      intro hg17 a hF; try simp only [Bool.not_eq_true', Bool.not_eq_false', Bool.or_eq_true, Bool.and_eq_true, Bool.or_eq_false_iff, Bool.and_eq_false_iff, Bool.not_eq_eq_eq_not, Bool.not_true, Bool.not_false, decide_eq_true_eq, decide_eq_false_iff_not] at hg17
      refine wl_take hF rfl rfl rfl rfl ?_
      refine wl hF rfl rfl rfl (r_field fo96_14 (hF.ev rfl)) ?_; clear hF a; intro a hF
      refine wl_take hF rfl rfl rfl rfl ?_
      refine wl hF rfl rfl rfl (r_load1 sc94 (hF.ev rfl) (hS.box (i := 0) rfl rfl)) ?_; clear hF a; intro a hF
      refine wl_take hF rfl rfl rfl rfl ?_
      refine wl hF rfl rfl rfl (r_len ul94 (hF.ev rfl)) ?_; clear hF a; intro a hF
      refine wl_take hF rfl rfl rfl rfl ?_
      refine wl hF rfl rfl rfl (r_eql (hF.ev rfl) ec) ?_; clear hF a; intro a hF
      refine wl hF rfl rfl rfl (r_pick_f (hF.ev rfl) (hF.ev rfl)) ?_; clear hF a; intro a hF
      exact wl_nil ⟨rfl, (Fr.pre (A := [_, _, _, _, _]) hF rfl).keep hF (t := 22) rfl, hS⟩
    ·
      intro hg17 a hF; try simp only [Bool.not_eq_true', Bool.not_eq_false', Bool.or_eq_true, Bool.and_eq_true, Bool.or_eq_false_iff, Bool.and_eq_false_iff, Bool.not_eq_eq_eq_not, Bool.not_true, Bool.not_false, decide_eq_true_eq, decide_eq_false_iff_not] at hg17
      refine wl_skip hF rfl rfl rfl rfl rfl rfl ?_; clear hF a; intro a hF
      refine wl_skip hF rfl rfl rfl rfl rfl rfl ?_; clear hF a; intro a hF
      refine wl_skip hF rfl rfl rfl rfl rfl rfl ?_; clear hF a; intro a hF
      refine wl_skip hF rfl rfl rfl rfl rfl rfl ?_; clear hF a; intro a hF
      refine wl hF rfl rfl rfl (r_pick_t (hF.ev rfl) ec) ?_; clear hF a; intro a hF
      exact wl_nil ⟨rfl, (Fr.pre (A := [_, _, _, _, _]) hF rfl).keep hF (t := 22) rfl, hS⟩
    clear hF a hS; intro a w6 hF hS
    refine wl_nil ?_
    refine hK7 _ _ ?_
    revert hF; intro hF0; refine wc_fx (t := 22) hF0 rfl (fun c22 hF => ?_) (fun c22 hF => ?_)
    ·
      clear hF0; try simp only [Bool.not_eq_true', Bool.not_eq_false', Bool.or_eq_true, Bool.and_eq_true, Bool.or_eq_false_iff, Bool.and_eq_false_iff, Bool.not_eq_eq_eq_not, Bool.not_true, Bool.not_false, decide_eq_true_eq, decide_eq_false_iff_not] at c22
      refine wp_seq_k fun K8 hK8 => ?_
      refine wp_region_lit ?_
      refine wl hF rfl rfl rfl (r_field fo96_1 (hF.ev rfl)) ?_; clear hF a; intro a hF
      refine wl hF rfl rfl rfl (r_field fo59_1 (hF.ev rfl)) ?_; clear hF a; intro a hF
      refine wl hF rfl rfl rfl (r_load1 sc3 (hF.ev rfl) (hS.box (i := 0) rfl rfl)) ?_; clear hF a; intro a hF
      refine wl hF rfl rfl rfl (r_assign (hF.ev rfl)) ?_; clear hF a; intro a hF
      refine wl_nil ?_
      refine hK8 _ _ ?_
      refine wp_ret ?_
      try simp only [Exit.then, Exit.inBlock, ↓reduceIte]
      refine ret1 rfl hF rfl ⟨congrArg vi (Eq.symm ?_), hS.old⟩
      unfold walkKeyOf
      first
        | exact if_neg (by rw [c9]; decide)
        | (rw [if_pos c9]; done)
        | (rw [if_pos c9]; unfold walkKey; first | exact if_pos c22 | exact if_neg (by omega))
    ·
      clear hF0; try simp only [Bool.not_eq_true', Bool.not_eq_false', Bool.or_eq_true, Bool.and_eq_true, Bool.or_eq_false_iff, Bool.and_eq_false_iff, Bool.not_eq_eq_eq_not, Bool.not_true, Bool.not_false, decide_eq_true_eq, decide_eq_false_iff_not] at c22
      refine wp_skip ?_
      refine hK6 _ _ ?_
      refine wp_seq_k fun K9 hK9 => ?_
      refine wp_region_lit ?_
      refine wl hF rfl rfl rfl (r_field fo96_14 (hF.ev rfl)) ?_; clear hF a; intro a hF
      refine wl hF rfl rfl rfl (r_load1 sc94 (hF.ev rfl) (hS.box (i := 0) rfl rfl)) ?_; clear hF a; intro a hF
      obtain ⟨g28, o28, m28, q28, hv28, hm28, hl28, hc28⟩ := Rd.atF (r13_3) (a := a) (X := .const (.int .i64 0)) ec (by omega) (by omega)
      refine wl hF rfl rfl rfl (r_index sl94 ((hF.ev rfl).trans hv28) ec (by omega) (by first | omega | (simp at hm28; omega))) ?_; clear hF a; intro a hF
      refine wl hF rfl rfl rfl (r_field fo111_1 (hF.ev rfl)) ?_; clear hF a; intro a hF
      refine wl hF rfl rfl rfl (r_load1 sc3 (hF.ev rfl) (cellB hS.old (hc28 1 _ rfl))) ?_; clear hF a; intro a hF
      refine wl hF rfl rfl rfl (r_assign (hF.ev rfl)) ?_; clear hF a; intro a hF
      refine wl_nil ?_
      refine hK9 _ _ ?_
      refine wp_ret ?_
      try simp only [Exit.then, Exit.inBlock, ↓reduceIte]
      refine ret1 rfl hF rfl ⟨congrArg vi (Eq.symm ?_), hS.old⟩
      unfold walkKeyOf
      first
        | exact if_neg (by rw [c9]; decide)
        | (rw [if_pos c9]; done)
        | (rw [if_pos c9]; unfold walkKey; first | exact if_pos c22 | exact if_neg (by omega))

set_option maxHeartbeats 4000000 in
set_option maxRecDepth 20000 in
theorem walkKey_c {W : World} {t : Sl.Thread} {cs : List Value} (hm : threadEK.K W t cs) {g o : Nat} (hc : ∀ j u, cs[j]? = some u → W.cell? ⟨g, o + j, none⟩ = some u) : Calls Try.prog 123 #[.pointer (some ⟨g, o, none⟩)] W (Ret fun v w' => v = vi (walkKey t) ∧ Below W.heap.size W w') := by
  refine calls_fr Try.func123 rfl Try.ntmps123 rfl ?_
  intro a hF
  have hS := Sep.refl W
  obtain ⟨v0, v1, v2, v3, v4, rfl, r0, r1, r2, r3, r4⟩ := hm
  obtain ⟨A_a, q_a, rfl, hq_a, hn_a⟩ := r0.sl; unfold maxLen at hn_a
  obtain ⟨A_b, q_b, rfl, hq_b, hn_b⟩ := r1.sl; unfold maxLen at hn_b
  obtain ⟨A_c, q_c, rfl, hq_c, hn_c⟩ := r2.sl; unfold maxLen at hn_c
  obtain ⟨A_d, q_d, rfl, hq_d, hn_d⟩ := r3.sl; unfold maxLen at hn_d
  obtain ⟨A_e, q_e, rfl, hq_e, hn_e⟩ := r4.sl; unfold maxLen at hn_e
  refine wp_seq_k fun K1 hK1 => ?_
  refine wp_region_lit ?_
  refine wl hF rfl rfl rfl (r_assign ec) ?_; clear hF a; intro a hF
  refine wl_nil ?_
  refine hK1 _ _ ?_
  refine wp_seq_k fun K2 hK2 => ?_
  refine wp_seq_k fun K3 hK3 => ?_
  refine wp_region_lit ?_
  refine wl hF rfl rfl rfl (r_move (hF.ev rfl)) ?_; clear hF a; intro a hF
  refine wl hF rfl rfl rfl (r_nilCheck (hF.ev rfl)) ?_; clear hF a; intro a hF
  refine wl hF rfl rfl rfl (r_field fo96_1 (hF.ev rfl)) ?_; clear hF a; intro a hF
  refine wl hF rfl rfl rfl (r_field fo59_0 (hF.ev rfl)) ?_; clear hF a; intro a hF
  refine wl hF rfl rfl rfl (r_load1 sc3 (hF.ev rfl) (cellB hS.old (hc 1 _ rfl))) ?_; clear hF a; intro a hF
  refine wl hF rfl rfl rfl (r_eql (hF.ev rfl) ec) ?_; clear hF a; intro a hF
  refine wl hF rfl rfl rfl (r_move (hF.ev rfl)) ?_; clear hF a; intro a hF
  apply wl_or (A := [_, _, _, _, _, _, _]) (pk := 16) hF hS (tc := 9) rfl
  ·
    intro hg9 a hF; try simp only [Bool.not_eq_true', Bool.not_eq_false', Bool.or_eq_true, Bool.and_eq_true, Bool.or_eq_false_iff, Bool.and_eq_false_iff, Bool.not_eq_eq_eq_not, Bool.not_true, Bool.not_false, decide_eq_true_eq, decide_eq_false_iff_not] at hg9
    refine wl_take hF rfl rfl rfl rfl ?_
    refine wl hF rfl rfl rfl (r_move (hF.ev rfl)) ?_; clear hF a; intro a hF
    refine wl_take hF rfl rfl rfl rfl ?_
    refine wl hF rfl rfl rfl (r_nilCheck (hF.ev rfl)) ?_; clear hF a; intro a hF
    refine wl_take hF rfl rfl rfl rfl ?_
    refine wl hF rfl rfl rfl (r_field fo96_14 (hF.ev rfl)) ?_; clear hF a; intro a hF
    refine wl_take hF rfl rfl rfl rfl ?_
    refine wl hF rfl rfl rfl (r_load1 sc94 (hF.ev rfl) (cellB hS.old (hc 17 _ rfl))) ?_; clear hF a; intro a hF
    refine wl_take hF rfl rfl rfl rfl ?_
    refine wl hF rfl rfl rfl (r_len ul94 (hF.ev rfl)) ?_; clear hF a; intro a hF
    refine wl_take hF rfl rfl rfl rfl ?_
    refine wl hF rfl rfl rfl (r_eql (hF.ev rfl) ec) ?_; clear hF a; intro a hF
    refine wl hF rfl rfl rfl (r_pick_f (hF.ev rfl) (hF.ev rfl)) ?_; clear hF a; intro a hF
    exact wl_nil ⟨rfl, (Fr.pre (A := [_, _, _, _, _, _, _]) hF rfl).keep hF (t := 16) rfl, hS⟩
  ·
    intro hg9 a hF; try simp only [Bool.not_eq_true', Bool.not_eq_false', Bool.or_eq_true, Bool.and_eq_true, Bool.or_eq_false_iff, Bool.and_eq_false_iff, Bool.not_eq_eq_eq_not, Bool.not_true, Bool.not_false, decide_eq_true_eq, decide_eq_false_iff_not] at hg9
    refine wl_skip hF rfl rfl rfl rfl rfl rfl ?_; clear hF a; intro a hF
    refine wl_skip hF rfl rfl rfl rfl rfl rfl ?_; clear hF a; intro a hF
    refine wl_skip hF rfl rfl rfl rfl rfl rfl ?_; clear hF a; intro a hF
    refine wl_skip hF rfl rfl rfl rfl rfl rfl ?_; clear hF a; intro a hF
    refine wl_skip hF rfl rfl rfl rfl rfl rfl ?_; clear hF a; intro a hF
    refine wl_skip hF rfl rfl rfl rfl rfl rfl ?_; clear hF a; intro a hF
    refine wl hF rfl rfl rfl (r_pick_t (hF.ev rfl) ec) ?_; clear hF a; intro a hF
    exact wl_nil ⟨rfl, (Fr.pre (A := [_, _, _, _, _, _, _]) hF rfl).keep hF (t := 16) rfl, hS⟩
  clear hF a hS; intro a w1 hF hS
  refine wl_nil ?_
  refine hK3 _ _ ?_
  revert hF; intro hF0; refine wc_fx (t := 16) hF0 rfl (fun c16 hF => ?_) (fun c16 hF => ?_)
  ·
    clear hF0; try simp only [Bool.not_eq_true', Bool.not_eq_false', Bool.or_eq_true, Bool.and_eq_true, Bool.or_eq_false_iff, Bool.and_eq_false_iff, Bool.not_eq_eq_eq_not, Bool.not_true, Bool.not_false, decide_eq_true_eq, decide_eq_false_iff_not] at c16
    refine wp_seq_k fun K4 hK4 => ?_
    refine wp_region_lit ?_
    refine wl hF rfl rfl rfl (r_move (hF.ev rfl)) ?_; clear hF a; intro a hF
    refine wl hF rfl rfl rfl (r_nilCheck (hF.ev rfl)) ?_; clear hF a; intro a hF
    refine wl hF rfl rfl rfl (r_field fo96_1 (hF.ev rfl)) ?_; clear hF a; intro a hF
    refine wl hF rfl rfl rfl (r_field fo59_1 (hF.ev rfl)) ?_; clear hF a; intro a hF
    refine wl hF rfl rfl rfl (r_load1 sc3 (hF.ev rfl) (cellB hS.old (hc 2 _ rfl))) ?_; clear hF a; intro a hF
    refine wl hF rfl rfl rfl (r_assign (hF.ev rfl)) ?_; clear hF a; intro a hF
    refine wl_nil ?_
    refine hK4 _ _ ?_
    refine wp_ret ?_
    try simp only [Exit.then, Exit.inBlock, ↓reduceIte]
    refine ret1 rfl hF rfl ⟨congrArg vi (Eq.symm ?_), hS.old⟩
    unfold walkKey; first | exact if_pos c16 | exact if_neg (by omega)
  ·
    clear hF0; try simp only [Bool.not_eq_true', Bool.not_eq_false', Bool.or_eq_true, Bool.and_eq_true, Bool.or_eq_false_iff, Bool.and_eq_false_iff, Bool.not_eq_eq_eq_not, Bool.not_true, Bool.not_false, decide_eq_true_eq, decide_eq_false_iff_not] at c16
    refine wp_skip ?_
    refine hK2 _ _ ?_
    refine wp_seq_k fun K5 hK5 => ?_
    refine wp_region_lit ?_
    refine wl hF rfl rfl rfl (r_move (hF.ev rfl)) ?_; clear hF a; intro a hF
    refine wl hF rfl rfl rfl (r_nilCheck (hF.ev rfl)) ?_; clear hF a; intro a hF
    refine wl hF rfl rfl rfl (r_field fo96_14 (hF.ev rfl)) ?_; clear hF a; intro a hF
    refine wl hF rfl rfl rfl (r_load1 sc94 (hF.ev rfl) (cellB hS.old (hc 17 _ rfl))) ?_; clear hF a; intro a hF
    obtain ⟨g26, o26, m26, q26, hv26, hm26, hl26, hc26⟩ := Rd.atF (r3) (a := a) (X := .const (.int .i64 0)) ec (by omega) (by omega)
    refine wl hF rfl rfl rfl (r_index sl94 ((hF.ev rfl).trans hv26) ec (by omega) (by first | omega | (simp at hm26; omega))) ?_; clear hF a; intro a hF
    refine wl hF rfl rfl rfl (r_field fo111_1 (hF.ev rfl)) ?_; clear hF a; intro a hF
    refine wl hF rfl rfl rfl (r_load1 sc3 (hF.ev rfl) (cellB hS.old (hc26 1 _ rfl))) ?_; clear hF a; intro a hF
    refine wl hF rfl rfl rfl (r_assign (hF.ev rfl)) ?_; clear hF a; intro a hF
    refine wl_nil ?_
    refine hK5 _ _ ?_
    refine wp_ret ?_
    try simp only [Exit.then, Exit.inBlock, ↓reduceIte]
    refine ret1 rfl hF rfl ⟨congrArg vi (Eq.symm ?_), hS.old⟩
    unfold walkKey; first | exact if_pos c16 | exact if_neg (by omega)

set_option maxHeartbeats 4000000 in
set_option maxRecDepth 20000 in
theorem implWalkKey_c {W : World} {s : Sl.State} {cs : List Value} (hm : stateEK.K W s cs) (hw : s.wf) (hz : (s.size : Int) ≤ 1048576) {p : Int} (hp : int64 p) : Calls Try.prog 45 #[.agg cs.toArray, vi p] W (Ret fun v w' => v = vi (walkKeyOf s p) ∧ Below W.heap.size W w') := by
  refine calls_fr Try.func45 rfl Try.ntmps45 rfl ?_
  intro a hF
  have hS := Sep.refl W
  obtain ⟨v0, v1, v2, rfl, r0, r1, r2⟩ := hm
  have hm : stateEK.K W s (s.encv v0 v1 v2) := ⟨_, _, _, rfl, r0, r1, r2⟩
  obtain ⟨A_a, q_a, rfl, hq_a, hn_a⟩ := r0.sl; unfold maxLen at hn_a
  obtain ⟨A_b, q_b, rfl, hq_b, hn_b⟩ := r1.sl; unfold maxLen at hn_b
  obtain ⟨A_c, q_c, rfl, hq_c, hn_c⟩ := r2.sl; unfold maxLen at hn_c
  have hwl : IntKind.i64.wrap ((s.threads.length : Int) - 1) = s.threads.length - 1 := w64_id (by omega) (by omega)
  refine wp_seq_k fun K1 hK1 => ?_
  refine wp_region_lit ?_
  refine wl_box (cs := [_, _, _, _, _, _, _, _, _, _, _, _, _]) hF hS rfl (hF.ev rfl) rfl ?_; clear hF a; intro g1 w1 a hS_ hB_ hF; replace hS := hS_; clear hS_ hB_
  refine wl hF rfl rfl rfl (r_assign ec) ?_; clear hF a; intro a hF
  refine wl_nil ?_
  refine hK1 _ _ ?_
  refine wp_seq_k fun K2 hK2 => ?_
  refine wp_seq_k fun K3 hK3 => ?_
  refine wp_region_lit ?_
  refine wl hF rfl rfl rfl (r_loadn ag37 (hF.ev rfl) (hS.box_rd (i := 0) rfl) sz37) ?_; clear hF a; intro a hF
  refine wl hF rfl rfl rfl (r_move (hF.ev rfl)) ?_; clear hF a; intro a hF
  refine wl_call hF rfl rfl rfl (r_call2 en33 (hF.ev rfl) (hF.ev rfl)) (implIsRunning_c (hS.k hm) hw (by omega) hp) ?_; clear hF a; rintro v w2 a ⟨rfl, hB_⟩ hF; replace hS := hS.ext hB_; clear hB_
  refine wl hF rfl rfl rfl (r_not (hF.ev rfl)) ?_; clear hF a; intro a hF
  refine wl_nil ?_
  refine hK3 _ _ ?_
  revert hF; intro hF0; refine wc_fx (t := 8) hF0 rfl (fun c8 hF => ?_) (fun c8 hF => ?_)
  ·
    clear hF0; try simp only [Bool.not_eq_true', Bool.not_eq_false', Bool.or_eq_true, Bool.and_eq_true, Bool.or_eq_false_iff, Bool.and_eq_false_iff, Bool.not_eq_eq_eq_not, Bool.not_true, Bool.not_false, decide_eq_true_eq, decide_eq_false_iff_not] at c8
    refine wp_seq_k fun K4 hK4 => ?_
    refine wp_region_lit ?_
    refine wl hF rfl rfl rfl (r_assign ec) ?_; clear hF a; intro a hF
    refine wl_nil ?_
    refine hK4 _ _ ?_
    refine wp_ret ?_
    try simp only [Exit.then, Exit.inBlock, ↓reduceIte]
    refine ret1 rfl hF rfl ⟨congrArg vi (Eq.symm ?_), hS.old⟩
    unfold walkKeyOf
    first
      | exact if_neg (by rw [c8]; decide)
      | (rw [if_pos c8]; done)
      | (rw [if_pos c8]; unfold walkKey; first | exact if_pos c22 | exact if_neg (by omega))
  ·
    clear hF0; try simp only [Bool.not_eq_true', Bool.not_eq_false', Bool.or_eq_true, Bool.and_eq_true, Bool.or_eq_false_iff, Bool.and_eq_false_iff, Bool.not_eq_eq_eq_not, Bool.not_true, Bool.not_false, decide_eq_true_eq, decide_eq_false_iff_not] at c8
    have hru := c8; unfold isRunning at hru; simp only [Bool.and_eq_true, decide_eq_true_eq] at hru
    have hb1 := hru.1.2
    refine wp_skip ?_
    refine hK2 _ _ ?_
    refine wp_seq_k fun K5 hK5 => ?_
    refine wp_region_lit ?_
    refine wl hF rfl rfl rfl (r_field fo37_3 (hF.ev rfl)) ?_; clear hF a; intro a hF
    refine wl hF rfl rfl rfl (r_load1 sc35 (hF.ev rfl) (hS.box (i := 0) rfl rfl)) ?_; clear hF a; intro a hF
    refine wl hF rfl rfl rfl (r_move (hF.ev rfl)) ?_; clear hF a; intro a hF
    obtain ⟨g12, o12, m12, q12, cs12, hv12, hm12, hl12, hk12, hz12, hc12⟩ := Rd.at (r2) (a := a) (X := .tmp 11) (hF.ev rfl) (by omega) (by omega)
    have hkk12 := hk12; obtain ⟨v12_0, v12_1, v12_2, v12_3, v12_4, rfl, r12_0, r12_1, r12_2, r12_3, r12_4⟩ := hk12
    refine wl hF rfl rfl rfl (r_index sl35 ((hF.ev rfl).trans hv12) (hF.ev rfl) (by omega) (by first | omega | (simp at hm12; omega))) ?_; clear hF a; intro a hF
    refine wl_call hF rfl rfl rfl (r_call1 en123 (hF.ev rfl)) (walkKey_c (hS.k hkk12) (fun j u hu => cellB hS.old (hc12 j u hu))) ?_; clear hF a; rintro v w3 a ⟨rfl, hB_⟩ hF; replace hS := hS.ext hB_; clear hB_
    refine wl hF rfl rfl rfl (r_assign (hF.ev rfl)) ?_; clear hF a; intro a hF
    refine wl_nil ?_
    refine hK5 _ _ ?_
    refine wp_ret ?_
    try simp only [Exit.then, Exit.inBlock, ↓reduceIte]
    refine ret1 rfl hF rfl ⟨congrArg vi (Eq.symm ?_), hS.old⟩
    unfold walkKeyOf
    first
      | exact if_neg (by rw [c8]; decide)
      | (rw [if_pos c8]; done)
      | (rw [if_pos c8]; unfold walkKey; first | exact if_pos c22 | exact if_neg (by omega))

end Go.Proofs.Ythjeeimdgejlhaa.Wk
