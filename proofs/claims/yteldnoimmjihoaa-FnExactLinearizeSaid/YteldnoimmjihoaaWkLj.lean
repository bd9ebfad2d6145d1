/- Walks: Linearize and IsLinearizable, in the program, and their laws. -/
import Derived.Test.YteldnoimmjihoaaChecked
import Derived.Test.YteldnoimmjihoaaWkXt
import Derived.Test.YteldnoimmjihoaaFactsC
namespace Go.Proofs.Yteldnoimmjihoaa.Wk
open Go Go.RowKit Sl
set_option linter.unusedVariables false
set_option linter.unusedSimpArgs false
set_option maxRecDepth 20000

set_option maxHeartbeats 4000000 in
set_option maxRecDepth 20000 in
theorem implLinearize_c {W : World} {c : Config} {va : Value} {es : List Sl.Event} (ha : eventEK.Rd W va es) : Calls Try.prog 23 #[.agg c.enc.toArray, va] W (Ret (Mk W (fun z : Slv => .tuple #[sv z, .bool (linearize c es).isSome]) (fun z => [Own intEK (sv z) ((linearize c es).getD [])]))) := by
  refine calls_fr Try.func23 rfl Try.ntmps23 rfl ?_
  intro a hF
  have hS := Sep.refl W
  obtain ⟨A_a, q_a, rfl, hq_a, hn_a⟩ := ha.sl; unfold maxLen at hn_a
  have hnm := (newModel_cnt c).2
  have hnv := model_vals (newModel c)
  have hlr := left_rep es.length
  refine ws fun K1 hK1 => ?_
  refine wl_box (cs := [_, _, _, _, _, _]) hF hS rfl (hF.ev rfl) rfl ?_; clear hF a; intro g1 w1 a hS_ hB_ hF; replace hS := hS_; clear hS_ hB_
  refine wl_mvs (A := [_, _]) hF rfl ?_; clear hF a; intro a hF
  refine wl_nil (hK1 _ _ ?_)
  refine wp_seq_k fun K2 hK2 => ?_
  refine ws fun K3 hK3 => ?_
  refine wl hF rfl rfl rfl (r_loadn ag38 (hF.ev rfl) (hS.box_rd (i := 0) rfl) sz38) ?_; clear hF a; intro a hF
  refine wl_call hF rfl rfl rfl (r_call1 en58 (hF.ev rfl)) (implIsConfig_c _) ?_; clear hF a; rintro v w2 a ⟨rfl, hB_⟩ hF; replace hS := hS.ext hB_; clear hB_
  refine wl hF rfl rfl rfl (r_not (hF.ev rfl)) ?_; clear hF a; intro a hF
  refine wl_mvs (A := [_]) hF rfl ?_; clear hF a; intro a hF
  apply wl_or (A := [_, _, _, _]) (pk := 13) hF hS (tc := 9) rfl
  ·
    intro hg9 a hF; try simp only [zb1, zb2, zb3, zb4, zb5, zb6, zb7, zb8] at hg9
    refine wl_mvs (A := [_]) hF rfl ?_; clear hF a; intro a hF
    refine wl_take hF rfl rfl rfl rfl ?_
    refine wl hF rfl rfl rfl (r_len ul52 (hF.ev rfl)) ?_; clear hF a; intro a hF
    refine wl_take hF rfl rfl rfl rfl ?_
    refine wl hF rfl rfl rfl (r_gtr (hF.ev rfl) ec) ?_; clear hF a; intro a hF
    refine wl hF rfl rfl rfl (r_pick_f (hF.ev rfl) (hF.ev rfl)) ?_; clear hF a; intro a hF
    exact wl_nil ⟨rfl, (Fr.pre (A := [_, _, _, _]) hF rfl).keep hF (t := 13) rfl, hS⟩
  ·
    intro hg9 a hF; try simp only [zb1, zb2, zb3, zb4, zb5, zb6, zb7, zb8] at hg9
    refine wl_mvs (A := [_, _, _]) hF rfl ?_; clear hF a; intro a hF
    refine wl hF rfl rfl rfl (r_pick_t (hF.ev rfl) ec) ?_; clear hF a; intro a hF
    exact wl_nil ⟨rfl, (Fr.pre (A := [_, _, _, _]) hF rfl).keep hF (t := 13) rfl, hS⟩
  clear hF a hS; intro a w3 hF hS
  refine wl_nil (hK3 _ _ ?_)
  refine wc_fx (t := 13) hF rfl ?_ ?_ <;> clear hF <;> intro c13 hF <;> try simp only [zb1, zb2, zb3, zb4, zb5, zb6, zb7, zb8] at c13
  ·
    refine ws fun K4 hK4 => ?_
    refine wl_mvs (A := [_, _]) hF rfl ?_; clear hF a; intro a hF
    refine wl_nil (hK4 _ _ ?_)
    refine wp_ret ?_
    try simp only [Exit.then, Exit.inBlock, ↓reduceIte]
    first
      | (have e := lin_no c13
         refine ret2 rfl hF rfl rfl ⟨(none, 0, 0), by rw [e]; rfl, ?_⟩; rw [e]; exact (hS.own_nil intEK).pick [0] (by decide) rfl)
      | (have e := lin_yes (es := es) ⟨c13.1, by omega⟩
         refine ret2 rfl hF rfl rfl ⟨z, by rw [e]; rfl, ?_⟩
         rw [e]
         cases hr_ : search c es (left (List.replicate es.length false)) (List.replicate es.length false) (newModel c) [] with
         | none => rw [hr_] at hS; exact hS.pick [3] (by decide) rfl
         | some out => rw [hr_] at hS; exact hS.pick [0] (by decide) rfl)
  replace hS := hS.own_nil intEK
  refine wp_skip ?_
  refine hK2 _ _ ?_
  refine wp_seq_k fun K5 hK5 => ?_
  refine wp_region_todo (is := [0, 1, 2, 3, 5, 4, 6, 7, 8, 9, 10, 11]) [] [7] (by kernel_rfl) hF hS ⟨trivial, by decide, by decide, by decide⟩ (by kernel_rfl) ?_; clear hF; intro hl_ wd hSd
  refine todo_load [7, 8, 9, 10, 11] hl_ (by kernel_rfl) rfl (gw0 rfl) rfl rfl rfl (fun a w_ hF hB_ => r_loadn ag38 (hF.ev rfl) ((hSd.ext hB_).box_rd (i := 1) rfl) sz38) ?_
  refine todo_pure hl_ (by kernel_rfl) rfl (gw0 rfl) rfl rfl rfl (fun a w_ hF => r_move (hF.ev rfl)) ?_
  refine todo_pure hl_ (by kernel_rfl) rfl (gw0 rfl) rfl rfl rfl (fun a w_ hF => r_move (hF.ev rfl)) ?_
  refine todo_pure hl_ (by kernel_rfl) rfl (gw0 rfl) rfl rfl rfl (fun a w_ hF => r_len ul52 (hF.ev rfl)) ?_
  refine todo_load [6, 7, 8, 9, 10, 11] hl_ (by kernel_rfl) rfl (gw0 rfl) rfl rfl rfl (fun a w_ hF hB_ => r_loadn ag38 (hF.ev rfl) ((hSd.ext hB_).box_rd (i := 1) rfl) sz38) ?_
  refine todo_fork [(4, [6, 7, 8, 9, 10, 11]), (6, [4, 7, 8, 9, 10, 11])] hl_ rfl (by kernel_rfl) (List.forall_mem_cons.2 ⟨?_, List.forall_mem_cons.2 ⟨?_, fun _ h_ => nomatch h_⟩⟩)
  ·
    refine op_op rfl rfl (gw0 rfl) rfl rfl rfl (fun a w_ hF hS => r_make0 boolEK false [] mk84 rfl (fun _ => Sat.nil _ _) (hF.ev rfl) (by omega) (by unfold maxLen; omega)) ?_; intro gm_18
    refine todo_mk hl_ rfl (by kernel_rfl) rfl rfl rfl rfl rfl (fun a w_ hF => r_call1 en60 (hF.ev rfl)) (fun w_ hS => implNewModel_c _) ?_; rintro vs20
    refine todo_fork [(7, [8, 9, 10, 11])] hl_ rfl (by kernel_rfl) (List.forall_mem_cons.2 ⟨?_, fun _ h_ => nomatch h_⟩)
    ·
      refine op_mc (m' := []) rfl (gw0 rfl) rfl rfl rfl (fun a w_ hF => r_call5 en59 (hF.ev rfl) (hF.ev rfl) (hF.ev rfl) (hF.ev rfl) ec) (fun w_ hS => extend_all _ _ _ _ c _ _ _ es (List.replicate es.length false) (newModel c) _ [] ha (Sep.headp (A := [_, _, _, _]) (B := [_, _, _, _]) (l := []) hS [1, 0, 2, 3] (by decide) rfl rfl) (by simp) (by omega) (by omega) (by simp only [List.length_nil]; omega) (by simp only [List.length_nil]; omega) rfl) ?_; intro z; try clear hSd; try clear wd; intro wd hSd
      refine todo_pure hl_ (by kernel_rfl) rfl (gw0 rfl) rfl rfl rfl (fun a w_ hF => r_extract (hF.ev rfl) rfl) ?_
      refine todo_pure hl_ (by kernel_rfl) rfl (gw0 rfl) rfl rfl rfl (fun a w_ hF => r_extract (hF.ev rfl) rfl) ?_
      refine todo_pure hl_ (by kernel_rfl) rfl (gw0 rfl) rfl rfl rfl (fun a w_ hF => r_assign (hF.ev rfl)) ?_
      refine todo_pure hl_ (by kernel_rfl) rfl (gw0 rfl) rfl rfl rfl (fun a w_ hF => r_assign (hF.ev rfl)) ?_
      refine todo_fin hl_ rfl (by kernel_rfl) (tl := []) rfl ?_; clear hS a; intro a w5 hF hA_
      have hS := hA_.sep; clear hA_
      clear hl_; try clear hSd
      try dsimp only [List.cons_append, List.nil_append, List.set] at hS
      try clear wd
      refine wl_nil ⟨rfl, ?_⟩
      refine hK5 _ _ ?_
      refine wp_ret ?_
      try simp only [Exit.then, Exit.inBlock, ↓reduceIte]
      first
        | (have e := lin_no c13
           refine ret2 rfl hF rfl rfl ⟨(none, 0, 0), by rw [e]; rfl, ?_⟩; rw [e]; exact (hS.own_nil intEK).pick [0] (by decide) rfl)
        | (have e := lin_yes (es := es) ⟨c13.1, by omega⟩
           refine ret2 rfl hF rfl rfl ⟨z, by rw [e]; rfl, ?_⟩
           rw [e]
           cases hr_ : search c es (left (List.replicate es.length false)) (List.replicate es.length false) (newModel c) [] with
           | none => rw [hr_] at hS; exact hS.pick [3] (by decide) rfl
           | some out => rw [hr_] at hS; exact hS.pick [0] (by decide) rfl)
  ·
    refine op_mk rfl rfl (gw0 rfl) rfl rfl rfl (fun a w_ hF => r_call1 en60 (hF.ev rfl)) (fun w_ hS => implNewModel_c _) ?_; rintro vs20
    refine todo_op hl_ rfl (by kernel_rfl) rfl rfl rfl rfl rfl (fun a w_ hF hS => r_make0 boolEK false [] mk84 rfl (fun _ => Sat.nil _ _) (hF.ev rfl) (by omega) (by unfold maxLen; omega)) ?_; intro gm_18
    refine todo_fork [(7, [8, 9, 10, 11])] hl_ rfl (by kernel_rfl) (List.forall_mem_cons.2 ⟨?_, fun _ h_ => nomatch h_⟩)
    ·
      refine op_mc (m' := []) rfl (gw0 rfl) rfl rfl rfl (fun a w_ hF => r_call5 en59 (hF.ev rfl) (hF.ev rfl) (hF.ev rfl) (hF.ev rfl) ec) (fun w_ hS => extend_all _ _ _ _ c _ _ _ es (List.replicate es.length false) (newModel c) _ [] ha (Sep.headp (A := [_, _, _, _]) (B := [_, _, _, _]) (l := []) hS [0, 1, 2, 3] (by decide) rfl rfl) (by simp) (by omega) (by omega) (by simp only [List.length_nil]; omega) (by simp only [List.length_nil]; omega) rfl) ?_; intro z; try clear hSd; try clear wd; intro wd hSd
      refine todo_pure hl_ (by kernel_rfl) rfl (gw0 rfl) rfl rfl rfl (fun a w_ hF => r_extract (hF.ev rfl) rfl) ?_
      refine todo_pure hl_ (by kernel_rfl) rfl (gw0 rfl) rfl rfl rfl (fun a w_ hF => r_extract (hF.ev rfl) rfl) ?_
      refine todo_pure hl_ (by kernel_rfl) rfl (gw0 rfl) rfl rfl rfl (fun a w_ hF => r_assign (hF.ev rfl)) ?_
      refine todo_pure hl_ (by kernel_rfl) rfl (gw0 rfl) rfl rfl rfl (fun a w_ hF => r_assign (hF.ev rfl)) ?_
      refine todo_fin hl_ rfl (by kernel_rfl) (tl := []) rfl ?_; clear hS a; intro a w7 hF hA_
      have hS := hA_.sep; clear hA_
      clear hl_; try clear hSd
      try dsimp only [List.cons_append, List.nil_append, List.set] at hS
      try clear wd
      refine wl_nil ⟨rfl, ?_⟩
      refine hK5 _ _ ?_
      refine wp_ret ?_
      try simp only [Exit.then, Exit.inBlock, ↓reduceIte]
      first
        | (have e := lin_no c13
           refine ret2 rfl hF rfl rfl ⟨(none, 0, 0), by rw [e]; rfl, ?_⟩; rw [e]; exact (hS.own_nil intEK).pick [0] (by decide) rfl)
        | (have e := lin_yes (es := es) ⟨c13.1, by omega⟩
           refine ret2 rfl hF rfl rfl ⟨z, by rw [e]; rfl, ?_⟩
           rw [e]
           cases hr_ : search c es (left (List.replicate es.length false)) (List.replicate es.length false) (newModel c) [] with
           | none => rw [hr_] at hS; exact hS.pick [3] (by decide) rfl
           | some out => rw [hr_] at hS; exact hS.pick [0] (by decide) rfl)

set_option maxHeartbeats 4000000 in
set_option maxRecDepth 20000 in
theorem implIsLin_c {W : World} {c : Config} {va : Value} {es : List Sl.Event} (ha : eventEK.Rd W va es) : Calls Try.prog 20 #[.agg c.enc.toArray, va] W (Ret fun v w' => v = .bool (linearize c es).isSome ∧ Below W.heap.size W w') := by
  refine calls_fr Try.func20 rfl Try.ntmps20 rfl ?_
  intro a hF
  have hS := Sep.refl W
  refine ws fun K1 hK1 => ?_
  refine wl_box (cs := [_, _, _, _, _, _]) hF hS rfl (hF.ev rfl) rfl ?_; clear hF a; intro g1 w1 a hS_ hB_ hF; replace hS := hS_; clear hS_ hB_
  refine wl_mvs (A := [_]) hF rfl ?_; clear hF a; intro a hF
  refine wl_nil (hK1 _ _ ?_)
  refine ws fun K2 hK2 => ?_
  refine wl hF rfl rfl rfl (r_loadn ag38 (hF.ev rfl) (hS.box_rd (i := 0) rfl) sz38) ?_; clear hF a; intro a hF
  refine wl_mvs (A := [_]) hF rfl ?_; clear hF a; intro a hF
  refine wl_mk hF hS rfl rfl rfl (r_call2 en23 (hF.ev rfl) (hF.ev rfl)) (implLinearize_c (hS.rd ha)) ?_; clear hF a; rintro s10 w2 a hS_ hF; replace hS := hS_; clear hS_; dsimp only [List.cons_append, List.nil_append] at hS
  refine wl_mvs (A := [_]) hF rfl ?_; clear hF a; intro a hF
  refine wl hF rfl rfl rfl (r_extract (hF.ev rfl) rfl) ?_; clear hF a; intro a hF
  refine wl hF rfl rfl rfl (r_extract (hF.ev rfl) rfl) ?_; clear hF a; intro a hF
  refine wl_mvs (A := [_, _]) hF rfl ?_; clear hF a; intro a hF
  refine wl_nil (hK2 _ _ ?_)
  refine ws fun K3 hK3 => ?_
  refine wl_mvs (A := [_, _]) hF rfl ?_; clear hF a; intro a hF
  refine wl_nil (hK3 _ _ ?_)
  refine wp_ret ?_
  try simp only [Exit.then, Exit.inBlock, ↓reduceIte]
  exact ret1 rfl hF rfl ⟨rfl, hS.old⟩

end Go.Proofs.Yteldnoimmjihoaa.Wk
