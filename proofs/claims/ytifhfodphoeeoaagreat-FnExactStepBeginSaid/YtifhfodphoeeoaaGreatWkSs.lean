/- Walks: states that are valid, in the reference. -/
import Derived.Test.YtifhfodphoeeoaaGreatChecked
import Derived.Test.YtifhfodphoeeoaaGreatWkSt
namespace Go.Proofs.YtifhfodphoeeoaaGreat.Wk
open Go Go.RowKit Sl
set_option linter.unusedVariables false
set_option linter.unusedSimpArgs false
set_option maxRecDepth 20000

set_option maxHeartbeats 4000000 in
set_option maxRecDepth 20000 in
theorem specIsState_c {W : World} {s : Sl.State} {cs : List Value} (hm : stateEK.K W s cs) (hw : s.wf) (hz : (s.size : Int) ≤ 1048576) : Calls Tryz.prog 60 #[.agg cs.toArray] W (Ret fun v w' => v = .bool (stateOk s) ∧ Below W.heap.size W w') := by
  refine calls_fr Tryz.func60 rfl Tryz.ntmps60 rfl ?_
  intro a hF
  have hS := Sep.refl W
  obtain ⟨v0, v1, v2, rfl, r0, r1, r2⟩ := hm
  obtain ⟨A_a, q_a, rfl, hq_a, hn_a⟩ := r0.sl; unfold maxLen at hn_a
  obtain ⟨A_b, q_b, rfl, hq_b, hn_b⟩ := r1.sl; unfold maxLen at hn_b
  obtain ⟨A_c, q_c, rfl, hq_c, hn_c⟩ := r2.sl; unfold maxLen at hn_c
  obtain ⟨wcfg, wcells, wgens, wthr, wsteps, wchanges, wretries, wfaults⟩ := hw
  have hz1 := hz; unfold Sl.State.size at hz1
  refine ws fun K1 hK1 => ?_
  refine wl_box (cs := [_, _, _, _, _, _, _, _, _, _, _, _, _]) hF hS rfl (hF.ev rfl) rfl ?_; clear hF a; intro g1 w1 a hS_ hB_ hF; replace hS := hS_; clear hS_ hB_
  refine wl_mvs (A := [_]) hF rfl ?_; clear hF a; intro a hF
  refine wl_nil (hK1 _ _ ?_)
  refine wp_seq_k fun K2 hK2 => ?_
  refine wp_seq_k fun K3 hK3 => ?_
  refine wp_region_calm (by kernel_rfl) (by kernel_rfl) ?_
  refine wq hF rfl rfl rfl (fun w_ hB_ => r_field fo32_0 (hF.ev rfl)) ?_; clear hF a; intro a hF
  refine wq hF rfl rfl rfl (fun w_ hB_ => r_loadn ag29 (hF.ev rfl) ((hS.ext hB_).boxn (vs := [_, _, _, _, _, _]) (i := 0) (m := 6) rfl rfl) sz29) ?_; clear hF a; intro a hF
  refine wq_call hF rfl rfl rfl (fun w_ hB_ => r_call1 en114 (hF.ev rfl)) (fun w_ hB_ => specIsConfig_c _) ?_; clear hF a; intro a hF
  refine wq hF rfl rfl rfl (fun w_ hB_ => r_not (hF.ev rfl)) ?_; clear hF a; intro a hF
  refine wq_mvs (A := [_]) hF rfl ?_; clear hF a; intro a hF
  apply wq_or (A := [_, _, _, _, _, _, _, _]) (pk := 20) hF (tc := 12) rfl
  ·
    intro hg12 a hF; try simp only [zb1, zb2, zb3, zb4, zb5, zb6, zb7, zb8] at hg12
    refine wq_take hF rfl rfl rfl rfl ?_
    refine wq hF rfl rfl rfl (fun w_ hB_ => r_field fo32_1 (hF.ev rfl)) ?_; clear hF a; intro a hF
    refine wq_take hF rfl rfl rfl rfl ?_
    refine wq hF rfl rfl rfl (fun w_ hB_ => r_load1 sc24 (hF.ev rfl) ((hS.ext hB_).box (i := 0) rfl rfl)) ?_; clear hF a; intro a hF
    refine wq_take hF rfl rfl rfl rfl ?_
    refine wq hF rfl rfl rfl (fun w_ hB_ => r_len ul24 (hF.ev rfl)) ?_; clear hF a; intro a hF
    refine wq_take hF rfl rfl rfl rfl ?_
    refine wq hF rfl rfl rfl (fun w_ hB_ => r_field fo32_0 (hF.ev rfl)) ?_; clear hF a; intro a hF
    refine wq_take hF rfl rfl rfl rfl ?_
    refine wq hF rfl rfl rfl (fun w_ hB_ => r_loadn ag29 (hF.ev rfl) ((hS.ext hB_).boxn (vs := [_, _, _, _, _, _]) (i := 0) (m := 6) rfl rfl) sz29) ?_; clear hF a; intro a hF
    refine wq_take hF rfl rfl rfl rfl ?_
    refine wq_call hF rfl rfl rfl (fun w_ hB_ => r_call1 en115 (hF.ev rfl)) (fun w_ hB_ => specCellCount_c _) ?_; clear hF a; intro a hF
    refine wq_take hF rfl rfl rfl rfl ?_
    refine wq hF rfl rfl rfl (fun w_ hB_ => r_neq (hF.ev rfl) (hF.ev rfl)) ?_; clear hF a; intro a hF
    refine wq hF rfl rfl rfl (fun w_ hB_ => r_pick_f (hF.ev rfl) (hF.ev rfl)) ?_; clear hF a; intro a hF
    exact wpQuiet_nil ((Fr.pre (A := [_, _, _, _, _, _, _, _]) hF rfl).keep hF (t := 20) rfl)
  ·
    intro hg12 a hF; try simp only [zb1, zb2, zb3, zb4, zb5, zb6, zb7, zb8] at hg12
    refine wq_mvs (A := [_, _, _, _, _, _, _]) hF rfl ?_; clear hF a; intro a hF
    refine wq hF rfl rfl rfl (fun w_ hB_ => r_pick_t (hF.ev rfl) ec) ?_; clear hF a; intro a hF
    exact wpQuiet_nil ((Fr.pre (A := [_, _, _, _, _, _, _, _]) hF rfl).keep hF (t := 20) rfl)
  clear hF a; intro a hF
  refine wq_mvs (A := [_]) hF rfl ?_; clear hF a; intro a hF
  apply wq_or (A := [_, _, _, _, _, _, _, _]) (pk := 29) hF (tc := 21) rfl
  ·
    intro hg21 a hF; try simp only [zb1, zb2, zb3, zb4, zb5, zb6, zb7, zb8] at hg21
    refine wq_take hF rfl rfl rfl rfl ?_
    refine wq hF rfl rfl rfl (fun w_ hB_ => r_field fo32_2 (hF.ev rfl)) ?_; clear hF a; intro a hF
    refine wq_take hF rfl rfl rfl rfl ?_
    refine wq hF rfl rfl rfl (fun w_ hB_ => r_load1 sc24 (hF.ev rfl) ((hS.ext hB_).box (i := 0) rfl rfl)) ?_; clear hF a; intro a hF
    refine wq_take hF rfl rfl rfl rfl ?_
    refine wq hF rfl rfl rfl (fun w_ hB_ => r_len ul24 (hF.ev rfl)) ?_; clear hF a; intro a hF
    refine wq_take hF rfl rfl rfl rfl ?_
    refine wq hF rfl rfl rfl (fun w_ hB_ => r_field fo32_0 (hF.ev rfl)) ?_; clear hF a; intro a hF
    refine wq_take hF rfl rfl rfl rfl ?_
    refine wq hF rfl rfl rfl (fun w_ hB_ => r_field fo29_2 (hF.ev rfl)) ?_; clear hF a; intro a hF
    refine wq_take hF rfl rfl rfl rfl ?_
    refine wq hF rfl rfl rfl (fun w_ hB_ => r_load1 sc3 (hF.ev rfl) ((hS.ext hB_).box (i := 0) rfl rfl)) ?_; clear hF a; intro a hF
    refine wq_take hF rfl rfl rfl rfl ?_
    refine wq hF rfl rfl rfl (fun w_ hB_ => r_neq (hF.ev rfl) (hF.ev rfl)) ?_; clear hF a; intro a hF
    refine wq hF rfl rfl rfl (fun w_ hB_ => r_pick_f (hF.ev rfl) (hF.ev rfl)) ?_; clear hF a; intro a hF
    exact wpQuiet_nil ((Fr.pre (A := [_, _, _, _, _, _, _, _]) hF rfl).keep hF (t := 29) rfl)
  ·
    intro hg21 a hF; try simp only [zb1, zb2, zb3, zb4, zb5, zb6, zb7, zb8] at hg21
    refine wq_mvs (A := [_, _, _, _, _, _, _]) hF rfl ?_; clear hF a; intro a hF
    refine wq hF rfl rfl rfl (fun w_ hB_ => r_pick_t (hF.ev rfl) ec) ?_; clear hF a; intro a hF
    exact wpQuiet_nil ((Fr.pre (A := [_, _, _, _, _, _, _, _]) hF rfl).keep hF (t := 29) rfl)
  clear hF a; intro a hF
  refine wq_mvs (A := [_]) hF rfl ?_; clear hF a; intro a hF
  apply wq_or (A := [_, _, _, _, _, _, _, _]) (pk := 38) hF (tc := 30) rfl
  ·
    intro hg30 a hF; try simp only [zb1, zb2, zb3, zb4, zb5, zb6, zb7, zb8] at hg30
    refine wq_take hF rfl rfl rfl rfl ?_
    refine wq hF rfl rfl rfl (fun w_ hB_ => r_field fo32_3 (hF.ev rfl)) ?_; clear hF a; intro a hF
    refine wq_take hF rfl rfl rfl rfl ?_
    refine wq hF rfl rfl rfl (fun w_ hB_ => r_load1 sc30 (hF.ev rfl) ((hS.ext hB_).box (i := 0) rfl rfl)) ?_; clear hF a; intro a hF
    refine wq_take hF rfl rfl rfl rfl ?_
    refine wq hF rfl rfl rfl (fun w_ hB_ => r_len ul30 (hF.ev rfl)) ?_; clear hF a; intro a hF
    refine wq_take hF rfl rfl rfl rfl ?_
    refine wq hF rfl rfl rfl (fun w_ hB_ => r_field fo32_0 (hF.ev rfl)) ?_; clear hF a; intro a hF
    refine wq_take hF rfl rfl rfl rfl ?_
    refine wq hF rfl rfl rfl (fun w_ hB_ => r_field fo29_0 (hF.ev rfl)) ?_; clear hF a; intro a hF
    refine wq_take hF rfl rfl rfl rfl ?_
    refine wq hF rfl rfl rfl (fun w_ hB_ => r_load1 sc3 (hF.ev rfl) ((hS.ext hB_).box (i := 0) rfl rfl)) ?_; clear hF a; intro a hF
    refine wq_take hF rfl rfl rfl rfl ?_
    refine wq hF rfl rfl rfl (fun w_ hB_ => r_neq (hF.ev rfl) (hF.ev rfl)) ?_; clear hF a; intro a hF
    refine wq hF rfl rfl rfl (fun w_ hB_ => r_pick_f (hF.ev rfl) (hF.ev rfl)) ?_; clear hF a; intro a hF
    exact wpQuiet_nil ((Fr.pre (A := [_, _, _, _, _, _, _, _]) hF rfl).keep hF (t := 38) rfl)
  ·
    intro hg30 a hF; try simp only [zb1, zb2, zb3, zb4, zb5, zb6, zb7, zb8] at hg30
    refine wq_mvs (A := [_, _, _, _, _, _, _]) hF rfl ?_; clear hF a; intro a hF
    refine wq hF rfl rfl rfl (fun w_ hB_ => r_pick_t (hF.ev rfl) ec) ?_; clear hF a; intro a hF
    exact wpQuiet_nil ((Fr.pre (A := [_, _, _, _, _, _, _, _]) hF rfl).keep hF (t := 38) rfl)
  clear hF a; intro a hF
  refine wpQuiet_nil ?_; intro w5 hB_; replace hS := hS.ext hB_; clear hB_
  refine hK3 _ _ ?_
  refine wc_fx (t := 38) hF rfl ?_ ?_ <;> clear hF <;> intro c38 hF <;> try simp only [zb1, zb2, zb3, zb4, zb5, zb6, zb7, zb8] at c38
  ·
    refine ws fun K4 hK4 => ?_
    refine wl_mvs (A := [_]) hF rfl ?_; clear hF a; intro a hF
    refine wl_nil (hK4 _ _ ?_)
    refine wp_ret ?_
    try simp only [Exit.then, Exit.inBlock, ↓reduceIte]
    refine ret1 rfl hF rfl ⟨congrArg Value.bool (Eq.symm ?_), hS.old⟩
    first
      | exact st_gens (range_no (by omega) (decide_eq_false c52))
      | exact st_threads (all_no hx c68)
      | exact st_heads (range_no (k := k) (by omega) (isLink_zero.trans (Bool.and_eq_false_iff.2 (c92.imp_right (fun e => by rw [e]; rfl)))))
      | exact st_nodes (range_no (k := k) (by omega) (Bool.and_eq_false_iff.2 (c123.imp_right (fun e => decide_eq_false e))))
      | exact st_shape fun h => by
          unfold shapeOk at h
          rcases c38 with ((c | c) | c) | c
          · exact c h.1
          · exact c h.2.1
          · exact c h.2.2.1
          · exact c h.2.2.2
      | (rw [st_yes ⟨hok, hl1, hl2, hl3⟩ (all_done hg (by rw [List.length_range]; omega)) (all_done hn (by rw [List.length_range]; omega)) (all_done hv (by rw [List.length_range]; omega)), all_done ht (by omega), Bool.true_and, Bool.eq_iff_iff]
         simp only [Bool.and_eq_true, decide_eq_true_eq]
         unfold countsOk
         simp only [and_assoc])
  obtain ⟨⟨⟨hok, hl1⟩, hl2⟩, hl3⟩ := c38
  have hb := hok; unfold Config.ok at hb
  have hcc := cellCount_eq hok
  refine wp_skip ?_
  refine hK2 _ _ ?_
  refine wp_seq_k fun K5 hK5 => ?_
  refine ws fun K6 hK6 => ?_
  refine wl_mvs (A := [_]) hF rfl ?_; clear hF a; intro a hF
  refine wl_nil (hK6 _ _ ?_)
  refine wp_block ?_
  have hL_ := ((hF.nil.keep hF (t := 2) rfl).keep hF (t := 1) rfl)
  refine wp_loop_r (σ := Nat) (fun k L_ => (3, vi k) :: L_) (fun k => (k ≤ s.generations.length) ∧ (((List.range s.config.capacity.toNat).take k).all (fun k => decide (0 ≤ at0 s.generations (k : Int) ∧ at0 s.generations (k : Int) ≤ 9998)) = true)) (fun k => s.generations.length - k) 0 hS (hL_.keepE hF (t := 3) rfl rfl) ?_ ?_
  · exact ⟨Nat.zero_le _, rfl⟩
  clear hF hS hL_ a
  rintro k a w6 ⟨hk, hg⟩ hS hF; try dsimp only at hF; try dsimp only at hS
  refine wp_seq_k fun K7 hK7 => ?_
  refine ws fun K8 hK8 => ?_
  refine wl_mvs (A := [_]) hF rfl ?_; clear hF a; intro a hF
  refine wl hF rfl rfl rfl (r_field fo32_2 (hF.ev rfl)) ?_; clear hF a; intro a hF
  refine wl hF rfl rfl rfl (r_load1 sc24 (hF.ev rfl) (hS.box (i := 0) rfl rfl)) ?_; clear hF a; intro a hF
  refine wl hF rfl rfl rfl (r_len ul24 (hF.ev rfl)) ?_; clear hF a; intro a hF
  refine wl hF rfl rfl rfl (r_lss (hF.ev rfl) (hF.ev rfl)) ?_; clear hF a; intro a hF
  refine wl_nil (hK8 _ _ ?_)
  refine wc_fx (t := 43) hF rfl ?_ ?_ <;> clear hF <;> intro c43 hF <;> try simp only [zb1, zb2, zb3, zb4, zb5, zb6, zb7, zb8] at c43
  ·
    refine wp_skip ?_
    refine hK7 _ _ ?_
    refine wp_seq_k fun K9 hK9 => ?_
    refine wp_block ?_
    refine ws fun K10 hK10 => ?_
    refine wl hF rfl rfl rfl (r_field fo32_2 (hF.ev rfl)) ?_; clear hF a; intro a hF
    refine wl hF rfl rfl rfl (r_load1 sc24 (hF.ev rfl) (hS.box (i := 0) rfl rfl)) ?_; clear hF a; intro a hF
    refine wl_mvs (A := [_]) hF rfl ?_; clear hF a; intro a hF
    obtain ⟨g49, o49, m49, q49, hv49, hm49, hl49, hc49⟩ := Rd.atF (r1) (a := a) (X := .tmp 48) (hF.ev rfl) (by omega) (by omega)
    refine wl hF rfl rfl rfl (r_index sl24 ((hF.ev rfl).trans hv49) (hF.ev rfl) (by omega) (by first | omega | (simp at hm49; omega))) ?_; clear hF a; intro a hF
    refine wl hF rfl rfl rfl (r_load1 sc3 (hF.ev rfl) (cellB hS.old (hc49 0 _ rfl))) ?_; clear hF a; intro a hF
    refine wl_call hF rfl rfl rfl (r_call3 en67 (hF.ev rfl) ec ec) (l1In_c _ _ _) ?_; clear hF a; rintro v w7 a ⟨rfl, hB_⟩ hF; replace hS := hS.ext hB_; clear hB_
    refine wl hF rfl rfl rfl (r_not (hF.ev rfl)) ?_; clear hF a; intro a hF
    refine wl_nil (hK10 _ _ ?_)
    refine wc_fx (t := 52) hF rfl ?_ ?_ <;> clear hF <;> intro c52 hF <;> try simp only [zb1, zb2, zb3, zb4, zb5, zb6, zb7, zb8] at c52
    ·
      refine ws fun K11 hK11 => ?_
      refine wl_mvs (A := [_]) hF rfl ?_; clear hF a; intro a hF
      refine wl_nil (hK11 _ _ ?_)
      refine wp_ret ?_
      try simp only [Exit.then, Exit.inBlock, ↓reduceIte]
      refine ret1 rfl hF rfl ⟨congrArg Value.bool (Eq.symm ?_), hS.old⟩
      first
        | exact st_gens (range_no (by omega) (decide_eq_false c52))
        | exact st_threads (all_no hx c68)
        | exact st_heads (range_no (k := k) (by omega) (isLink_zero.trans (Bool.and_eq_false_iff.2 (c92.imp_right (fun e => by rw [e]; rfl)))))
        | exact st_nodes (range_no (k := k) (by omega) (Bool.and_eq_false_iff.2 (c123.imp_right (fun e => decide_eq_false e))))
        | exact st_shape fun h => by
            unfold shapeOk at h
            rcases c38 with ((c | c) | c) | c
            · exact c h.1
            · exact c h.2.1
            · exact c h.2.2.1
            · exact c h.2.2.2
        | (rw [st_yes ⟨hok, hl1, hl2, hl3⟩ (all_done hg (by rw [List.length_range]; omega)) (all_done hn (by rw [List.length_range]; omega)) (all_done hv (by rw [List.length_range]; omega)), all_done ht (by omega), Bool.true_and, Bool.eq_iff_iff]
           simp only [Bool.and_eq_true, decide_eq_true_eq]
           unfold countsOk
           simp only [and_assoc])
    refine wp_skip ?_
    simp only [Exit.then, Exit.inBlock, ↓reduceIte]
    refine hK9 _ _ ?_
    refine wp_region_lit ?_
    refine wl_mvs (A := [_]) hF rfl ?_; clear hF a; intro a hF
    refine wl hF rfl rfl rfl (r_add (hF.ev rfl) ec) ?_; clear hF a; intro a hF
    refine wl_mvs (A := [_]) hF rfl ?_; clear hF a; intro a hF
    refine wl_nil ?_
    try simp only [Exit.then, Exit.inBlock, ↓reduceIte]
    refine ⟨k + 1, ⟨by omega, all_nxt hg (range_at (by omega)) (decide_eq_true c52)⟩, hS, (((hF.nil.keep hF (t := 2) rfl).keep hF (t := 1) rfl).keepE hF (t := 3) rfl (wk (by omega))), by omega⟩
  refine wp_exit ?_
  simp only [Exit.then, Exit.inBlock, ↓reduceIte]
  refine hK5 _ _ ?_
  refine wp_seq_k fun K12 hK12 => ?_
  refine ws fun K13 hK13 => ?_
  refine wl_mvs (A := [_]) hF rfl ?_; clear hF a; intro a hF
  refine wl_nil (hK13 _ _ ?_)
  refine wp_block ?_
  have hL_ := ((hF.nil.keep hF (t := 2) rfl).keep hF (t := 1) rfl)
  refine wp_loop_r (σ := Nat) (fun k L_ => (4, vi k) :: L_) (fun k => (k ≤ s.threads.length) ∧ ((s.threads.take k).all (threadOk s.config) = true)) (fun k => s.threads.length - k) 0 hS (hL_.keepE hF (t := 4) rfl rfl) ?_ ?_
  · exact ⟨Nat.zero_le _, rfl⟩
  clear hF hS hL_ a
  rintro k a w8 ⟨hk, ht⟩ hS hF; try dsimp only at hF; try dsimp only at hS
  refine wp_seq_k fun K14 hK14 => ?_
  refine ws fun K15 hK15 => ?_
  refine wl_mvs (A := [_]) hF rfl ?_; clear hF a; intro a hF
  refine wl hF rfl rfl rfl (r_field fo32_3 (hF.ev rfl)) ?_; clear hF a; intro a hF
  refine wl hF rfl rfl rfl (r_load1 sc30 (hF.ev rfl) (hS.box (i := 0) rfl rfl)) ?_; clear hF a; intro a hF
  refine wl hF rfl rfl rfl (r_len ul30 (hF.ev rfl)) ?_; clear hF a; intro a hF
  refine wl hF rfl rfl rfl (r_lss (hF.ev rfl) (hF.ev rfl)) ?_; clear hF a; intro a hF
  refine wl_nil (hK15 _ _ ?_)
  refine wc_fx (t := 57) hF rfl ?_ ?_ <;> clear hF <;> intro c57 hF <;> try simp only [zb1, zb2, zb3, zb4, zb5, zb6, zb7, zb8] at c57
  ·
    have hlt : k < s.threads.length := by omega
    have hx := at0_nat hlt
    have hc1 := crow_le1 (c := Sl.Thread.size) hx
    refine wp_skip ?_
    refine hK14 _ _ ?_
    refine wp_seq_k fun K16 hK16 => ?_
    refine wp_block ?_
    refine wp_seq_k fun K17 hK17 => ?_
    refine wp_region_calm (by kernel_rfl) (by kernel_rfl) ?_
    refine wq hF rfl rfl rfl (fun w_ hB_ => r_field fo32_0 (hF.ev rfl)) ?_; clear hF a; intro a hF
    refine wq hF rfl rfl rfl (fun w_ hB_ => r_loadn ag29 (hF.ev rfl) ((hS.ext hB_).boxn (vs := [_, _, _, _, _, _]) (i := 0) (m := 6) rfl rfl) sz29) ?_; clear hF a; intro a hF
    refine wq hF rfl rfl rfl (fun w_ hB_ => r_field fo32_3 (hF.ev rfl)) ?_; clear hF a; intro a hF
    refine wq hF rfl rfl rfl (fun w_ hB_ => r_load1 sc30 (hF.ev rfl) ((hS.ext hB_).box (i := 0) rfl rfl)) ?_; clear hF a; intro a hF
    refine wq_mvs (A := [_]) hF rfl ?_; clear hF a; intro a hF
    obtain ⟨g65, o65, m65, q65, cs65, hv65, hm65, hl65, hk65, hz65, hc65⟩ := Rd.at (r2) (a := a) (X := .tmp 64) (hF.ev rfl) (by omega) (by omega)
    have hkk65 := hk65; obtain ⟨v65_0, v65_1, v65_2, v65_3, v65_4, rfl, r65_0, r65_1, r65_2, r65_3, r65_4⟩ := hk65
    refine wq hF rfl rfl rfl (fun w_ hB_ => r_index sl30 ((hF.ev rfl).trans hv65) (hF.ev rfl) (by omega) (by first | omega | (simp at hm65; omega))) ?_; clear hF a; intro a hF
    refine wq hF rfl rfl rfl (fun w_ hB_ => r_loadn ag53 (hF.ev rfl) (fun j_ u_ hu_ => cellB (hS.ext hB_).old (hc65 j_ u_ hu_)) sz53) ?_; clear hF a; intro a hF
    refine wq_call hF rfl rfl rfl (fun w_ hB_ => r_call2 en116 (hF.ev rfl) (hF.ev rfl)) (fun w_ hB_ => l8Thread_c ((hS.ext hB_).k hkk65) (wthr _ (at0_mem (by omega) (by omega))) hok (by omega)) ?_; clear hF a; intro a hF
    refine wq hF rfl rfl rfl (fun w_ hB_ => r_not (hF.ev rfl)) ?_; clear hF a; intro a hF
    refine wpQuiet_nil ?_; intro w9 hB_; replace hS := hS.ext hB_; clear hB_
    refine hK17 _ _ ?_
    refine wc_fx (t := 68) hF rfl ?_ ?_ <;> clear hF <;> intro c68 hF <;> try simp only [zb1, zb2, zb3, zb4, zb5, zb6, zb7, zb8] at c68
    ·
      refine ws fun K18 hK18 => ?_
      refine wl_mvs (A := [_]) hF rfl ?_; clear hF a; intro a hF
      refine wl_nil (hK18 _ _ ?_)
      refine wp_ret ?_
      try simp only [Exit.then, Exit.inBlock, ↓reduceIte]
      refine ret1 rfl hF rfl ⟨congrArg Value.bool (Eq.symm ?_), hS.old⟩
      first
        | exact st_gens (range_no (by omega) (decide_eq_false c52))
        | exact st_threads (all_no hx c68)
        | exact st_heads (range_no (k := k) (by omega) (isLink_zero.trans (Bool.and_eq_false_iff.2 (c92.imp_right (fun e => by rw [e]; rfl)))))
        | exact st_nodes (range_no (k := k) (by omega) (Bool.and_eq_false_iff.2 (c123.imp_right (fun e => decide_eq_false e))))
        | exact st_shape fun h => by
            unfold shapeOk at h
            rcases c38 with ((c | c) | c) | c
            · exact c h.1
            · exact c h.2.1
            · exact c h.2.2.1
            · exact c h.2.2.2
        | (rw [st_yes ⟨hok, hl1, hl2, hl3⟩ (all_done hg (by rw [List.length_range]; omega)) (all_done hn (by rw [List.length_range]; omega)) (all_done hv (by rw [List.length_range]; omega)), all_done ht (by omega), Bool.true_and, Bool.eq_iff_iff]
           simp only [Bool.and_eq_true, decide_eq_true_eq]
           unfold countsOk
           simp only [and_assoc])
    refine wp_skip ?_
    simp only [Exit.then, Exit.inBlock, ↓reduceIte]
    refine hK16 _ _ ?_
    refine wp_region_lit ?_
    refine wl_mvs (A := [_]) hF rfl ?_; clear hF a; intro a hF
    refine wl hF rfl rfl rfl (r_add (hF.ev rfl) ec) ?_; clear hF a; intro a hF
    refine wl_mvs (A := [_]) hF rfl ?_; clear hF a; intro a hF
    refine wl_nil ?_
    try simp only [Exit.then, Exit.inBlock, ↓reduceIte]
    refine ⟨k + 1, ⟨by omega, all_nxt ht hx c68⟩, hS, (((hF.nil.keep hF (t := 2) rfl).keep hF (t := 1) rfl).keepE hF (t := 4) rfl (wk (by omega))), by omega⟩
  refine wp_exit ?_
  simp only [Exit.then, Exit.inBlock, ↓reduceIte]
  refine hK12 _ _ ?_
  refine wp_seq_k fun K19 hK19 => ?_
  refine ws fun K20 hK20 => ?_
  refine wl_mvs (A := [_]) hF rfl ?_; clear hF a; intro a hF
  refine wl_nil (hK20 _ _ ?_)
  refine wp_block ?_
  have hL_ := ((hF.nil.keep hF (t := 2) rfl).keep hF (t := 1) rfl)
  refine wp_loop_r (σ := Nat) (fun k L_ => (5, vi k) :: L_) (fun k => (k ≤ s.config.keys.toNat) ∧ (((List.range s.config.keys.toNat).take k).all (fun k => isLink s.config (at0 s.cells (headCell s.config (k : Int)))) = true)) (fun k => s.config.keys.toNat - k) 0 hS (hL_.keepE hF (t := 5) rfl rfl) ?_ ?_
  · exact ⟨Nat.zero_le _, rfl⟩
  clear hF hS hL_ a
  rintro k a w10 ⟨hk, hn⟩ hS hF; try dsimp only at hF; try dsimp only at hS
  refine wp_seq_k fun K21 hK21 => ?_
  refine ws fun K22 hK22 => ?_
  refine wl_mvs (A := [_]) hF rfl ?_; clear hF a; intro a hF
  refine wl hF rfl rfl rfl (r_field fo32_0 (hF.ev rfl)) ?_; clear hF a; intro a hF
  refine wl hF rfl rfl rfl (r_field fo29_1 (hF.ev rfl)) ?_; clear hF a; intro a hF
  refine wl hF rfl rfl rfl (r_load1 sc3 (hF.ev rfl) (hS.box (i := 0) rfl rfl)) ?_; clear hF a; intro a hF
  refine wl hF rfl rfl rfl (r_lss (hF.ev rfl) (hF.ev rfl)) ?_; clear hF a; intro a hF
  refine wl_nil (hK22 _ _ ?_)
  refine wc_fx (t := 73) hF rfl ?_ ?_ <;> clear hF <;> intro c73 hF <;> try simp only [zb1, zb2, zb3, zb4, zb5, zb6, zb7, zb8] at c73
  ·
    have hd := headCell_eq hok (k := (k : Int)) (by omega) (by omega)
    have h1 : int64 (at0 s.cells (headCell s.config (k : Int))) := wcells _ (at0_mem (by omega) (by omega))
    refine wp_skip ?_
    refine hK21 _ _ ?_
    refine wp_seq_k fun K23 hK23 => ?_
    refine wp_block ?_
    refine wp_seq_k fun K24 hK24 => ?_
    refine wp_region_calm (by kernel_rfl) (by kernel_rfl) ?_
    refine wq hF rfl rfl rfl (fun w_ hB_ => r_field fo32_1 (hF.ev rfl)) ?_; clear hF a; intro a hF
    refine wq hF rfl rfl rfl (fun w_ hB_ => r_load1 sc24 (hF.ev rfl) ((hS.ext hB_).box (i := 0) rfl rfl)) ?_; clear hF a; intro a hF
    refine wq hF rfl rfl rfl (fun w_ hB_ => r_field fo32_0 (hF.ev rfl)) ?_; clear hF a; intro a hF
    refine wq hF rfl rfl rfl (fun w_ hB_ => r_loadn ag29 (hF.ev rfl) ((hS.ext hB_).boxn (vs := [_, _, _, _, _, _]) (i := 0) (m := 6) rfl rfl) sz29) ?_; clear hF a; intro a hF
    refine wq_mvs (A := [_]) hF rfl ?_; clear hF a; intro a hF
    refine wq_call hF rfl rfl rfl (fun w_ hB_ => r_call2 en117 (hF.ev rfl) (hF.ev rfl)) (fun w_ hB_ => specHeadCell_c _ _) ?_; clear hF a; intro a hF
    obtain ⟨g82, o82, m82, q82, hv82, hm82, hl82, hc82⟩ := Rd.atF (r0) (a := a) (X := .tmp 81) (hF.ev rfl) (by omega) (by omega)
    refine wq hF rfl rfl rfl (fun w_ hB_ => r_index sl24 ((hF.ev rfl).trans hv82) (hF.ev rfl) (by omega) (by first | omega | (simp at hm82; omega))) ?_; clear hF a; intro a hF
    refine wq hF rfl rfl rfl (fun w_ hB_ => r_load1 sc3 (hF.ev rfl) (cellB (hS.ext hB_).old (hc82 0 _ rfl))) ?_; clear hF a; intro a hF
    refine wq_mvs (A := [_]) hF rfl ?_; clear hF a; intro a hF
    refine wpQuiet_nil ?_; intro w11 hB_; replace hS := hS.ext hB_; clear hB_
    refine hK24 _ _ ?_
    refine ws fun K25 hK25 => ?_
    refine wl hF rfl rfl rfl (r_field fo32_0 (hF.ev rfl)) ?_; clear hF a; intro a hF
    refine wl hF rfl rfl rfl (r_loadn ag29 (hF.ev rfl) (hS.boxn (vs := [_, _, _, _, _, _]) (i := 0) (m := 6) rfl rfl) sz29) ?_; clear hF a; intro a hF
    refine wl_mvs (A := [_]) hF rfl ?_; clear hF a; intro a hF
    refine wl_call hF rfl rfl rfl (r_call2 en118 (hF.ev rfl) (hF.ev rfl)) (l8Zero_c h1) ?_; clear hF a; rintro v w12 a ⟨rfl, hB_⟩ hF; replace hS := hS.ext hB_; clear hB_
    refine wl hF rfl rfl rfl (r_not (hF.ev rfl)) ?_; clear hF a; intro a hF
    refine wl_mvs (A := [_]) hF rfl ?_; clear hF a; intro a hF
    apply wl_or (A := [_, _, _]) (pk := 92) hF hS (tc := 89) rfl
    ·
      intro hg89 a hF; try simp only [zb1, zb2, zb3, zb4, zb5, zb6, zb7, zb8] at hg89
      refine wl_mvs (A := [_]) hF rfl ?_; clear hF a; intro a hF
      refine wl_take hF rfl rfl rfl rfl ?_
      refine wl_call hF rfl rfl rfl (r_call1 en93 (hF.ev rfl)) (specIsMarked_c h1) ?_; clear hF a; rintro v w13 a ⟨rfl, hB_⟩ hF; replace hS := hS.ext hB_; clear hB_
      refine wl hF rfl rfl rfl (r_pick_f (hF.ev rfl) (hF.ev rfl)) ?_; clear hF a; intro a hF
      exact wl_nil ⟨rfl, (Fr.pre (A := [_, _, _]) hF rfl).keep hF (t := 92) rfl, hS⟩
    ·
      intro hg89 a hF; try simp only [zb1, zb2, zb3, zb4, zb5, zb6, zb7, zb8] at hg89
      refine wl_mvs (A := [_, _]) hF rfl ?_; clear hF a; intro a hF
      refine wl hF rfl rfl rfl (r_pick_t (hF.ev rfl) ec) ?_; clear hF a; intro a hF
      exact wl_nil ⟨rfl, (Fr.pre (A := [_, _, _]) hF rfl).keep hF (t := 92) rfl, hS⟩
    clear hF a hS; intro a w14 hF hS
    refine wl_nil (hK25 _ _ ?_)
    refine wc_fx (t := 92) hF rfl ?_ ?_ <;> clear hF <;> intro c92 hF <;> try simp only [zb1, zb2, zb3, zb4, zb5, zb6, zb7, zb8] at c92
    ·
      refine ws fun K26 hK26 => ?_
      refine wl_mvs (A := [_]) hF rfl ?_; clear hF a; intro a hF
      refine wl_nil (hK26 _ _ ?_)
      refine wp_ret ?_
      try simp only [Exit.then, Exit.inBlock, ↓reduceIte]
      refine ret1 rfl hF rfl ⟨congrArg Value.bool (Eq.symm ?_), hS.old⟩
      first
        | exact st_gens (range_no (by omega) (decide_eq_false c52))
        | exact st_threads (all_no hx c68)
        | exact st_heads (range_no (k := k) (by omega) (isLink_zero.trans (Bool.and_eq_false_iff.2 (c92.imp_right (fun e => by rw [e]; rfl)))))
        | exact st_nodes (range_no (k := k) (by omega) (Bool.and_eq_false_iff.2 (c123.imp_right (fun e => decide_eq_false e))))
        | exact st_shape fun h => by
            unfold shapeOk at h
            rcases c38 with ((c | c) | c) | c
            · exact c h.1
            · exact c h.2.1
            · exact c h.2.2.1
            · exact c h.2.2.2
        | (rw [st_yes ⟨hok, hl1, hl2, hl3⟩ (all_done hg (by rw [List.length_range]; omega)) (all_done hn (by rw [List.length_range]; omega)) (all_done hv (by rw [List.length_range]; omega)), all_done ht (by omega), Bool.true_and, Bool.eq_iff_iff]
           simp only [Bool.and_eq_true, decide_eq_true_eq]
           unfold countsOk
           simp only [and_assoc])
    refine wp_skip ?_
    simp only [Exit.then, Exit.inBlock, ↓reduceIte]
    refine hK23 _ _ ?_
    refine wp_region_lit ?_
    refine wl_mvs (A := [_]) hF rfl ?_; clear hF a; intro a hF
    refine wl hF rfl rfl rfl (r_add (hF.ev rfl) ec) ?_; clear hF a; intro a hF
    refine wl_mvs (A := [_]) hF rfl ?_; clear hF a; intro a hF
    refine wl_nil ?_
    try simp only [Exit.then, Exit.inBlock, ↓reduceIte]
    refine ⟨k + 1, ⟨by omega, all_nxt hn (range_at (by omega)) (by rw [isLink_zero, c92.1, c92.2]; rfl)⟩, hS, (((hF.nil.keep hF (t := 2) rfl).keep hF (t := 1) rfl).keepE hF (t := 5) rfl (wk (by omega))), by omega⟩
  refine wp_exit ?_
  simp only [Exit.then, Exit.inBlock, ↓reduceIte]
  refine hK19 _ _ ?_
  refine wp_seq_k fun K27 hK27 => ?_
  refine ws fun K28 hK28 => ?_
  refine wl_mvs (A := [_]) hF rfl ?_; clear hF a; intro a hF
  refine wl_nil (hK28 _ _ ?_)
  refine wp_block ?_
  have hL_ := ((hF.nil.keep hF (t := 2) rfl).keep hF (t := 1) rfl)
  refine wp_loop_r (σ := Nat) (fun k L_ => (7, vi k) :: L_) (fun k => (k ≤ s.config.capacity.toNat) ∧ (((List.range s.config.capacity.toNat).take k).all (fun k => zeroOk s.config (at0 s.cells (nodeCell s.config (k : Int) 2)) && decide (0 ≤ at0 s.cells (nodeCell s.config (k : Int) 0) ∧ at0 s.cells (nodeCell s.config (k : Int) 0) ≤ 99)) = true)) (fun k => s.config.capacity.toNat - k) 0 hS (hL_.keepE hF (t := 7) rfl rfl) ?_ ?_
  · exact ⟨Nat.zero_le _, rfl⟩
  clear hF hS hL_ a
  rintro k a w15 ⟨hk, hv⟩ hS hF; try dsimp only at hF; try dsimp only at hS
  refine wp_seq_k fun K29 hK29 => ?_
  refine ws fun K30 hK30 => ?_
  refine wl_mvs (A := [_]) hF rfl ?_; clear hF a; intro a hF
  refine wl hF rfl rfl rfl (r_field fo32_0 (hF.ev rfl)) ?_; clear hF a; intro a hF
  refine wl hF rfl rfl rfl (r_field fo29_2 (hF.ev rfl)) ?_; clear hF a; intro a hF
  refine wl hF rfl rfl rfl (r_load1 sc3 (hF.ev rfl) (hS.box (i := 0) rfl rfl)) ?_; clear hF a; intro a hF
  refine wl hF rfl rfl rfl (r_lss (hF.ev rfl) (hF.ev rfl)) ?_; clear hF a; intro a hF
  refine wl_nil (hK30 _ _ ?_)
  refine wc_fx (t := 97) hF rfl ?_ ?_ <;> clear hF <;> intro c97 hF <;> try simp only [zb1, zb2, zb3, zb4, zb5, zb6, zb7, zb8] at c97
  ·
    have hn0 := nodeCell_eq hok (i := (k : Int)) (f := 0) (by omega) (by omega) (by omega) (by omega)
    have hn2 := nodeCell_eq hok (i := (k : Int)) (f := 2) (by omega) (by omega) (by omega) (by omega)
    have h1 : int64 (at0 s.cells (nodeCell s.config (k : Int) 2)) := wcells _ (at0_mem (by omega) (by omega))
    refine wp_skip ?_
    refine hK29 _ _ ?_
    refine wp_seq_k fun K31 hK31 => ?_
    refine wp_block ?_
    refine wp_seq_k fun K32 hK32 => ?_
    refine wp_region_calm (by kernel_rfl) (by kernel_rfl) ?_
    refine wq hF rfl rfl rfl (fun w_ hB_ => r_field fo32_0 (hF.ev rfl)) ?_; clear hF a; intro a hF
    refine wq hF rfl rfl rfl (fun w_ hB_ => r_loadn ag29 (hF.ev rfl) ((hS.ext hB_).boxn (vs := [_, _, _, _, _, _]) (i := 0) (m := 6) rfl rfl) sz29) ?_; clear hF a; intro a hF
    refine wq hF rfl rfl rfl (fun w_ hB_ => r_field fo32_1 (hF.ev rfl)) ?_; clear hF a; intro a hF
    refine wq hF rfl rfl rfl (fun w_ hB_ => r_load1 sc24 (hF.ev rfl) ((hS.ext hB_).box (i := 0) rfl rfl)) ?_; clear hF a; intro a hF
    refine wq hF rfl rfl rfl (fun w_ hB_ => r_field fo32_0 (hF.ev rfl)) ?_; clear hF a; intro a hF
    refine wq hF rfl rfl rfl (fun w_ hB_ => r_loadn ag29 (hF.ev rfl) ((hS.ext hB_).boxn (vs := [_, _, _, _, _, _]) (i := 0) (m := 6) rfl rfl) sz29) ?_; clear hF a; intro a hF
    refine wq_mvs (A := [_]) hF rfl ?_; clear hF a; intro a hF
    refine wq_call hF rfl rfl rfl (fun w_ hB_ => r_call3 en119 (hF.ev rfl) (hF.ev rfl) ec) (fun w_ hB_ => specNodeCell_c _ _ _) ?_; clear hF a; intro a hF
    obtain ⟨g108, o108, m108, q108, hv108, hm108, hl108, hc108⟩ := Rd.atF (r0) (a := a) (X := .tmp 107) (hF.ev rfl) (by omega) (by omega)
    refine wq hF rfl rfl rfl (fun w_ hB_ => r_index sl24 ((hF.ev rfl).trans hv108) (hF.ev rfl) (by omega) (by first | omega | (simp at hm108; omega))) ?_; clear hF a; intro a hF
    refine wq hF rfl rfl rfl (fun w_ hB_ => r_load1 sc3 (hF.ev rfl) (cellB (hS.ext hB_).old (hc108 0 _ rfl))) ?_; clear hF a; intro a hF
    refine wq_call hF rfl rfl rfl (fun w_ hB_ => r_call2 en118 (hF.ev rfl) (hF.ev rfl)) (fun w_ hB_ => l8Zero_c h1) ?_; clear hF a; intro a hF
    refine wq hF rfl rfl rfl (fun w_ hB_ => r_not (hF.ev rfl)) ?_; clear hF a; intro a hF
    refine wq_mvs (A := [_]) hF rfl ?_; clear hF a; intro a hF
    apply wq_or (A := [_, _, _, _, _, _, _, _, _, _, _]) (pk := 123) hF (tc := 112) rfl
    ·
      intro hg112 a hF; try simp only [zb1, zb2, zb3, zb4, zb5, zb6, zb7, zb8] at hg112
      refine wq_take hF rfl rfl rfl rfl ?_
      refine wq hF rfl rfl rfl (fun w_ hB_ => r_field fo32_1 (hF.ev rfl)) ?_; clear hF a; intro a hF
      refine wq_take hF rfl rfl rfl rfl ?_
      refine wq hF rfl rfl rfl (fun w_ hB_ => r_load1 sc24 (hF.ev rfl) ((hS.ext hB_).box (i := 0) rfl rfl)) ?_; clear hF a; intro a hF
      refine wq_take hF rfl rfl rfl rfl ?_
      refine wq hF rfl rfl rfl (fun w_ hB_ => r_field fo32_0 (hF.ev rfl)) ?_; clear hF a; intro a hF
      refine wq_take hF rfl rfl rfl rfl ?_
      refine wq hF rfl rfl rfl (fun w_ hB_ => r_loadn ag29 (hF.ev rfl) ((hS.ext hB_).boxn (vs := [_, _, _, _, _, _]) (i := 0) (m := 6) rfl rfl) sz29) ?_; clear hF a; intro a hF
      refine wq_mvs (A := [_]) hF rfl ?_; clear hF a; intro a hF
      refine wq_take hF rfl rfl rfl rfl ?_
      refine wq_call hF rfl rfl rfl (fun w_ hB_ => r_call3 en119 (hF.ev rfl) (hF.ev rfl) ec) (fun w_ hB_ => specNodeCell_c _ _ _) ?_; clear hF a; intro a hF
      refine wq_take hF rfl rfl rfl rfl ?_
      obtain ⟨g119, o119, m119, q119, hv119, hm119, hl119, hc119⟩ := Rd.atF (r0) (a := a) (X := .tmp 118) (hF.ev rfl) (by omega) (by omega)
      refine wq hF rfl rfl rfl (fun w_ hB_ => r_index sl24 ((hF.ev rfl).trans hv119) (hF.ev rfl) (by omega) (by first | omega | (simp at hm119; omega))) ?_; clear hF a; intro a hF
      refine wq_take hF rfl rfl rfl rfl ?_
      refine wq hF rfl rfl rfl (fun w_ hB_ => r_load1 sc3 (hF.ev rfl) (cellB (hS.ext hB_).old (hc119 0 _ rfl))) ?_; clear hF a; intro a hF
      refine wq_take hF rfl rfl rfl rfl ?_
      refine wq_call hF rfl rfl rfl (fun w_ hB_ => r_call3 en67 (hF.ev rfl) ec ec) (fun w_ hB_ => l1In_c _ _ _) ?_; clear hF a; intro a hF
      refine wq_take hF rfl rfl rfl rfl ?_
      refine wq hF rfl rfl rfl (fun w_ hB_ => r_not (hF.ev rfl)) ?_; clear hF a; intro a hF
      refine wq hF rfl rfl rfl (fun w_ hB_ => r_pick_f (hF.ev rfl) (hF.ev rfl)) ?_; clear hF a; intro a hF
      exact wpQuiet_nil ((Fr.pre (A := [_, _, _, _, _, _, _, _, _, _, _]) hF rfl).keep hF (t := 123) rfl)
    ·
      intro hg112 a hF; try simp only [zb1, zb2, zb3, zb4, zb5, zb6, zb7, zb8] at hg112
      refine wq_mvs (A := [_, _, _, _, _, _, _, _, _, _]) hF rfl ?_; clear hF a; intro a hF
      refine wq hF rfl rfl rfl (fun w_ hB_ => r_pick_t (hF.ev rfl) ec) ?_; clear hF a; intro a hF
      exact wpQuiet_nil ((Fr.pre (A := [_, _, _, _, _, _, _, _, _, _, _]) hF rfl).keep hF (t := 123) rfl)
    clear hF a; intro a hF
    refine wpQuiet_nil ?_; intro w17 hB_; replace hS := hS.ext hB_; clear hB_
    refine hK32 _ _ ?_
    refine wc_fx (t := 123) hF rfl ?_ ?_ <;> clear hF <;> intro c123 hF <;> try simp only [zb1, zb2, zb3, zb4, zb5, zb6, zb7, zb8] at c123
    ·
      refine ws fun K33 hK33 => ?_
      refine wl_mvs (A := [_]) hF rfl ?_; clear hF a; intro a hF
      refine wl_nil (hK33 _ _ ?_)
      refine wp_ret ?_
      try simp only [Exit.then, Exit.inBlock, ↓reduceIte]
      refine ret1 rfl hF rfl ⟨congrArg Value.bool (Eq.symm ?_), hS.old⟩
      first
        | exact st_gens (range_no (by omega) (decide_eq_false c52))
        | exact st_threads (all_no hx c68)
        | exact st_heads (range_no (k := k) (by omega) (isLink_zero.trans (Bool.and_eq_false_iff.2 (c92.imp_right (fun e => by rw [e]; rfl)))))
        | exact st_nodes (range_no (k := k) (by omega) (Bool.and_eq_false_iff.2 (c123.imp_right (fun e => decide_eq_false e))))
        | exact st_shape fun h => by
            unfold shapeOk at h
            rcases c38 with ((c | c) | c) | c
            · exact c h.1
            · exact c h.2.1
            · exact c h.2.2.1
            · exact c h.2.2.2
        | (rw [st_yes ⟨hok, hl1, hl2, hl3⟩ (all_done hg (by rw [List.length_range]; omega)) (all_done hn (by rw [List.length_range]; omega)) (all_done hv (by rw [List.length_range]; omega)), all_done ht (by omega), Bool.true_and, Bool.eq_iff_iff]
           simp only [Bool.and_eq_true, decide_eq_true_eq]
           unfold countsOk
           simp only [and_assoc])
    refine wp_skip ?_
    simp only [Exit.then, Exit.inBlock, ↓reduceIte]
    refine hK31 _ _ ?_
    refine wp_region_lit ?_
    refine wl_mvs (A := [_]) hF rfl ?_; clear hF a; intro a hF
    refine wl hF rfl rfl rfl (r_add (hF.ev rfl) ec) ?_; clear hF a; intro a hF
    refine wl_mvs (A := [_]) hF rfl ?_; clear hF a; intro a hF
    refine wl_nil ?_
    try simp only [Exit.then, Exit.inBlock, ↓reduceIte]
    refine ⟨k + 1, ⟨by omega, all_nxt hv (range_at (by omega)) (by rw [c123.1, decide_eq_true c123.2]; rfl)⟩, hS, (((hF.nil.keep hF (t := 2) rfl).keep hF (t := 1) rfl).keepE hF (t := 7) rfl (wk (by omega))), by omega⟩
  refine wp_exit ?_
  simp only [Exit.then, Exit.inBlock, ↓reduceIte]
  refine hK27 _ _ ?_
  refine wp_seq_k fun K34 hK34 => ?_
  refine wp_region_calm (by kernel_rfl) (by kernel_rfl) ?_
  refine wq hF rfl rfl rfl (fun w_ hB_ => r_field fo32_1 (hF.ev rfl)) ?_; clear hF a; intro a hF
  refine wq hF rfl rfl rfl (fun w_ hB_ => r_load1 sc24 (hF.ev rfl) ((hS.ext hB_).box (i := 0) rfl rfl)) ?_; clear hF a; intro a hF
  obtain ⟨g126, o126, m126, q126, hv126, hm126, hl126, hc126⟩ := Rd.atF (r0) (a := a) (X := .const (.int .i64 0)) ec (by omega) (by omega)
  refine wq hF rfl rfl rfl (fun w_ hB_ => r_index sl24 ((hF.ev rfl).trans hv126) ec (by omega) (by first | omega | (simp at hm126; omega))) ?_; clear hF a; intro a hF
  refine wq hF rfl rfl rfl (fun w_ hB_ => r_load1 sc3 (hF.ev rfl) (cellB (hS.ext hB_).old (hc126 0 _ rfl))) ?_; clear hF a; intro a hF
  refine wq hF rfl rfl rfl (fun w_ hB_ => r_field fo32_0 (hF.ev rfl)) ?_; clear hF a; intro a hF
  refine wq hF rfl rfl rfl (fun w_ hB_ => r_field fo29_5 (hF.ev rfl)) ?_; clear hF a; intro a hF
  refine wq hF rfl rfl rfl (fun w_ hB_ => r_load1 sc3 (hF.ev rfl) ((hS.ext hB_).box (i := 0) rfl rfl)) ?_; clear hF a; intro a hF
  refine wq_call hF rfl rfl rfl (fun w_ hB_ => r_call3 en67 (hF.ev rfl) ec (hF.ev rfl)) (fun w_ hB_ => l1In_c _ _ _) ?_; clear hF a; intro a hF
  refine wq_mvs (A := [_]) hF rfl ?_; clear hF a; intro a hF
  apply wq_and (A := [_, _, _, _, _, _, _, _, _]) (pk := 141) hF (tc := 132) rfl
  ·
    intro hg132 a hF; try simp only [zb1, zb2, zb3, zb4, zb5, zb6, zb7, zb8] at hg132
    refine wq_take hF rfl rfl rfl rfl ?_
    refine wq hF rfl rfl rfl (fun w_ hB_ => r_field fo32_1 (hF.ev rfl)) ?_; clear hF a; intro a hF
    refine wq_take hF rfl rfl rfl rfl ?_
    refine wq hF rfl rfl rfl (fun w_ hB_ => r_load1 sc24 (hF.ev rfl) ((hS.ext hB_).box (i := 0) rfl rfl)) ?_; clear hF a; intro a hF
    refine wq_take hF rfl rfl rfl rfl ?_
    obtain ⟨g135, o135, m135, q135, hv135, hm135, hl135, hc135⟩ := Rd.atF (r0) (a := a) (X := .const (.int .i64 1)) ec (by omega) (by omega)
    refine wq hF rfl rfl rfl (fun w_ hB_ => r_index sl24 ((hF.ev rfl).trans hv135) ec (by omega) (by first | omega | (simp at hm135; omega))) ?_; clear hF a; intro a hF
    refine wq_take hF rfl rfl rfl rfl ?_
    refine wq hF rfl rfl rfl (fun w_ hB_ => r_load1 sc3 (hF.ev rfl) (cellB (hS.ext hB_).old (hc135 0 _ rfl))) ?_; clear hF a; intro a hF
    refine wq_take hF rfl rfl rfl rfl ?_
    refine wq hF rfl rfl rfl (fun w_ hB_ => r_field fo32_0 (hF.ev rfl)) ?_; clear hF a; intro a hF
    refine wq_take hF rfl rfl rfl rfl ?_
    refine wq hF rfl rfl rfl (fun w_ hB_ => r_field fo29_2 (hF.ev rfl)) ?_; clear hF a; intro a hF
    refine wq_take hF rfl rfl rfl rfl ?_
    refine wq hF rfl rfl rfl (fun w_ hB_ => r_load1 sc3 (hF.ev rfl) ((hS.ext hB_).box (i := 0) rfl rfl)) ?_; clear hF a; intro a hF
    refine wq_take hF rfl rfl rfl rfl ?_
    refine wq_call hF rfl rfl rfl (fun w_ hB_ => r_call3 en67 (hF.ev rfl) ec (hF.ev rfl)) (fun w_ hB_ => l1In_c _ _ _) ?_; clear hF a; intro a hF
    refine wq hF rfl rfl rfl (fun w_ hB_ => r_pick_t (hF.ev rfl) (hF.ev rfl)) ?_; clear hF a; intro a hF
    exact wpQuiet_nil ((Fr.pre (A := [_, _, _, _, _, _, _, _, _]) hF rfl).keep hF (t := 141) rfl)
  ·
    intro hg132 a hF; try simp only [zb1, zb2, zb3, zb4, zb5, zb6, zb7, zb8] at hg132
    refine wq_mvs (A := [_, _, _, _, _, _, _, _]) hF rfl ?_; clear hF a; intro a hF
    refine wq hF rfl rfl rfl (fun w_ hB_ => r_pick_f (hF.ev rfl) ec) ?_; clear hF a; intro a hF
    exact wpQuiet_nil ((Fr.pre (A := [_, _, _, _, _, _, _, _, _]) hF rfl).keep hF (t := 141) rfl)
  clear hF a; intro a hF
  refine wq_mvs (A := [_]) hF rfl ?_; clear hF a; intro a hF
  apply wq_and (A := [_, _, _, _]) (pk := 146) hF (tc := 142) rfl
  ·
    intro hg142 a hF; try simp only [zb1, zb2, zb3, zb4, zb5, zb6, zb7, zb8] at hg142
    refine wq_take hF rfl rfl rfl rfl ?_
    refine wq hF rfl rfl rfl (fun w_ hB_ => r_field fo32_4 (hF.ev rfl)) ?_; clear hF a; intro a hF
    refine wq_take hF rfl rfl rfl rfl ?_
    refine wq hF rfl rfl rfl (fun w_ hB_ => r_load1 sc3 (hF.ev rfl) ((hS.ext hB_).box (i := 0) rfl rfl)) ?_; clear hF a; intro a hF
    refine wq_take hF rfl rfl rfl rfl ?_
    refine wq_call hF rfl rfl rfl (fun w_ hB_ => r_call3 en67 (hF.ev rfl) ec ec) (fun w_ hB_ => l1In_c _ _ _) ?_; clear hF a; intro a hF
    refine wq hF rfl rfl rfl (fun w_ hB_ => r_pick_t (hF.ev rfl) (hF.ev rfl)) ?_; clear hF a; intro a hF
    exact wpQuiet_nil ((Fr.pre (A := [_, _, _, _]) hF rfl).keep hF (t := 146) rfl)
  ·
    intro hg142 a hF; try simp only [zb1, zb2, zb3, zb4, zb5, zb6, zb7, zb8] at hg142
    refine wq_mvs (A := [_, _, _]) hF rfl ?_; clear hF a; intro a hF
    refine wq hF rfl rfl rfl (fun w_ hB_ => r_pick_f (hF.ev rfl) ec) ?_; clear hF a; intro a hF
    exact wpQuiet_nil ((Fr.pre (A := [_, _, _, _]) hF rfl).keep hF (t := 146) rfl)
  clear hF a; intro a hF
  refine wq_mvs (A := [_]) hF rfl ?_; clear hF a; intro a hF
  apply wq_and (A := [_, _, _, _]) (pk := 151) hF (tc := 147) rfl
  ·
    intro hg147 a hF; try simp only [zb1, zb2, zb3, zb4, zb5, zb6, zb7, zb8] at hg147
    refine wq_take hF rfl rfl rfl rfl ?_
    refine wq hF rfl rfl rfl (fun w_ hB_ => r_field fo32_5 (hF.ev rfl)) ?_; clear hF a; intro a hF
    refine wq_take hF rfl rfl rfl rfl ?_
    refine wq hF rfl rfl rfl (fun w_ hB_ => r_load1 sc3 (hF.ev rfl) ((hS.ext hB_).box (i := 0) rfl rfl)) ?_; clear hF a; intro a hF
    refine wq_take hF rfl rfl rfl rfl ?_
    refine wq_call hF rfl rfl rfl (fun w_ hB_ => r_call3 en67 (hF.ev rfl) ec ec) (fun w_ hB_ => l1In_c _ _ _) ?_; clear hF a; intro a hF
    refine wq hF rfl rfl rfl (fun w_ hB_ => r_pick_t (hF.ev rfl) (hF.ev rfl)) ?_; clear hF a; intro a hF
    exact wpQuiet_nil ((Fr.pre (A := [_, _, _, _]) hF rfl).keep hF (t := 151) rfl)
  ·
    intro hg147 a hF; try simp only [zb1, zb2, zb3, zb4, zb5, zb6, zb7, zb8] at hg147
    refine wq_mvs (A := [_, _, _]) hF rfl ?_; clear hF a; intro a hF
    refine wq hF rfl rfl rfl (fun w_ hB_ => r_pick_f (hF.ev rfl) ec) ?_; clear hF a; intro a hF
    exact wpQuiet_nil ((Fr.pre (A := [_, _, _, _]) hF rfl).keep hF (t := 151) rfl)
  clear hF a; intro a hF
  refine wq_mvs (A := [_]) hF rfl ?_; clear hF a; intro a hF
  apply wq_and (A := [_, _, _, _]) (pk := 156) hF (tc := 152) rfl
  ·
    intro hg152 a hF; try simp only [zb1, zb2, zb3, zb4, zb5, zb6, zb7, zb8] at hg152
    refine wq_take hF rfl rfl rfl rfl ?_
    refine wq hF rfl rfl rfl (fun w_ hB_ => r_field fo32_6 (hF.ev rfl)) ?_; clear hF a; intro a hF
    refine wq_take hF rfl rfl rfl rfl ?_
    refine wq hF rfl rfl rfl (fun w_ hB_ => r_load1 sc3 (hF.ev rfl) ((hS.ext hB_).box (i := 0) rfl rfl)) ?_; clear hF a; intro a hF
    refine wq_take hF rfl rfl rfl rfl ?_
    refine wq_call hF rfl rfl rfl (fun w_ hB_ => r_call3 en67 (hF.ev rfl) ec ec) (fun w_ hB_ => l1In_c _ _ _) ?_; clear hF a; intro a hF
    refine wq hF rfl rfl rfl (fun w_ hB_ => r_pick_t (hF.ev rfl) (hF.ev rfl)) ?_; clear hF a; intro a hF
    exact wpQuiet_nil ((Fr.pre (A := [_, _, _, _]) hF rfl).keep hF (t := 156) rfl)
  ·
    intro hg152 a hF; try simp only [zb1, zb2, zb3, zb4, zb5, zb6, zb7, zb8] at hg152
    refine wq_mvs (A := [_, _, _]) hF rfl ?_; clear hF a; intro a hF
    refine wq hF rfl rfl rfl (fun w_ hB_ => r_pick_f (hF.ev rfl) ec) ?_; clear hF a; intro a hF
    exact wpQuiet_nil ((Fr.pre (A := [_, _, _, _]) hF rfl).keep hF (t := 156) rfl)
  clear hF a; intro a hF
  refine wq_mvs (A := [_]) hF rfl ?_; clear hF a; intro a hF
  apply wq_and (A := [_, _, _, _]) (pk := 161) hF (tc := 157) rfl
  ·
    intro hg157 a hF; try simp only [zb1, zb2, zb3, zb4, zb5, zb6, zb7, zb8] at hg157
    refine wq_take hF rfl rfl rfl rfl ?_
    refine wq hF rfl rfl rfl (fun w_ hB_ => r_field fo32_7 (hF.ev rfl)) ?_; clear hF a; intro a hF
    refine wq_take hF rfl rfl rfl rfl ?_
    refine wq hF rfl rfl rfl (fun w_ hB_ => r_load1 sc3 (hF.ev rfl) ((hS.ext hB_).box (i := 0) rfl rfl)) ?_; clear hF a; intro a hF
    refine wq_take hF rfl rfl rfl rfl ?_
    refine wq_call hF rfl rfl rfl (fun w_ hB_ => r_call3 en67 (hF.ev rfl) ec ec) (fun w_ hB_ => l1In_c _ _ _) ?_; clear hF a; intro a hF
    refine wq hF rfl rfl rfl (fun w_ hB_ => r_pick_t (hF.ev rfl) (hF.ev rfl)) ?_; clear hF a; intro a hF
    exact wpQuiet_nil ((Fr.pre (A := [_, _, _, _]) hF rfl).keep hF (t := 161) rfl)
  ·
    intro hg157 a hF; try simp only [zb1, zb2, zb3, zb4, zb5, zb6, zb7, zb8] at hg157
    refine wq_mvs (A := [_, _, _]) hF rfl ?_; clear hF a; intro a hF
    refine wq hF rfl rfl rfl (fun w_ hB_ => r_pick_f (hF.ev rfl) ec) ?_; clear hF a; intro a hF
    exact wpQuiet_nil ((Fr.pre (A := [_, _, _, _]) hF rfl).keep hF (t := 161) rfl)
  clear hF a; intro a hF
  refine wq_mvs (A := [_]) hF rfl ?_; clear hF a; intro a hF
  refine wpQuiet_nil ?_; intro w23 hB_; replace hS := hS.ext hB_; clear hB_
  refine hK34 _ _ ?_
  refine wp_ret ?_
  try simp only [Exit.then, Exit.inBlock, ↓reduceIte]
  refine ret1 rfl hF rfl ⟨congrArg Value.bool (Eq.symm ?_), hS.old⟩
  first
    | exact st_gens (range_no (by omega) (decide_eq_false c52))
    | exact st_threads (all_no hx c68)
    | exact st_heads (range_no (k := k) (by omega) (isLink_zero.trans (Bool.and_eq_false_iff.2 (c92.imp_right (fun e => by rw [e]; rfl)))))
    | exact st_nodes (range_no (k := k) (by omega) (Bool.and_eq_false_iff.2 (c123.imp_right (fun e => decide_eq_false e))))
    | exact st_shape fun h => by
        unfold shapeOk at h
        rcases c38 with ((c | c) | c) | c
        · exact c h.1
        · exact c h.2.1
        · exact c h.2.2.1
        · exact c h.2.2.2
    | (rw [st_yes ⟨hok, hl1, hl2, hl3⟩ (all_done hg (by rw [List.length_range]; omega)) (all_done hn (by rw [List.length_range]; omega)) (all_done hv (by rw [List.length_range]; omega)), all_done ht (by omega), Bool.true_and, Bool.eq_iff_iff]
       simp only [Bool.and_eq_true, decide_eq_true_eq]
       unfold countsOk
       simp only [and_assoc])

end Go.Proofs.YtifhfodphoeeoaaGreat.Wk
