/- Walks: Linearize, in the reference. -/
import Derived.Test.YteldnoimmjihoaaChecked
import Derived.Test.YteldnoimmjihoaaWkSr
import Derived.Test.YteldnoimmjihoaaFactsC
namespace Go.Proofs.Yteldnoimmjihoaa.Wk
open Go Go.RowKit Sl
set_option linter.unusedVariables false
set_option linter.unusedSimpArgs false
set_option maxRecDepth 20000

theorem lin_yes {c : Config} {es : List Sl.Event} (h : c.ok ∧ (es.length : Int) ≤ 10) : linearize c es = search c es (left (List.replicate es.length false)) (List.replicate es.length false) (newModel c) [] := by
  unfold linearize; rw [if_pos h, left_rep]
theorem lin_no {c : Config} {es : List Sl.Event} (h : ¬ c.ok ∨ 10 < (es.length : Int)) : linearize c es = none := by
  unfold linearize; exact if_neg fun hh => by rcases h with h | h; exact h hh.1; omega
theorem model_vals (m : Model) : m.values.length ≤ m.size := by unfold Model.size; omega

set_option maxHeartbeats 4000000 in
set_option maxRecDepth 20000 in
theorem specLinearize_c {W : World} {c : Config} {va : Value} {es : List Sl.Event} (ha : eventEK.Rd W va es) : Calls Try.prog 22 #[.agg c.enc.toArray, va] W (Ret (Mk W (fun z : Slv => .tuple #[sv z, .bool (linearize c es).isSome]) (fun z => [Own intEK (sv z) ((linearize c es).getD [])]))) := by
  refine calls_fr Try.func22 rfl Try.ntmps22 rfl ?_
  intro a hF
  have hS := Sep.refl W
  obtain ⟨A_a, q_a, rfl, hq_a, hn_a⟩ := ha.sl; unfold maxLen at hn_a
  have hnm := (newModel_cnt c).2
  have hnv := model_vals (newModel c)
  have hlr := left_rep es.length
  refine ws fun K1 hK1 => ?_
  refine wl_box (cs := [_, _, _, _, _, _]) hF hS rfl (hF.ev rfl) rfl ?_; clear hF a; intro g1 w1 a hS_ hB_ hF; replace hS := hS_; clear hS_ hB_
  refine wl_mvs (A := [_, _]) hF rfl ?_; clear hF a; intro a hF
  refine wl_nil (hK1 _ _ ?_)
  refine wp_seq_k fun K2 hK2 => ?_
  refine ws fun K3 hK3 => ?_
  refine wl hF rfl rfl rfl (r_loadn ag38 (hF.ev rfl) (hS.box_rd (i := 0) rfl) sz38) ?_; clear hF a; intro a hF
  refine wl_call hF rfl rfl rfl (r_call1 en55 (hF.ev rfl)) (specIsConfig_c _) ?_; clear hF a; rintro v w2 a ⟨rfl, hB_⟩ hF; replace hS := hS.ext hB_; clear hB_
  refine wl hF rfl rfl rfl (r_not (hF.ev rfl)) ?_; clear hF a; intro a hF
  refine wl_mvs (A := [_]) hF rfl ?_; clear hF a; intro a hF
  apply wl_or (A := [_, _, _, _]) (pk := 15) hF hS (tc := 11) rfl
  ·
    intro hg11 a hF; try simp only [zb1, zb2, zb3, zb4, zb5, zb6, zb7, zb8] at hg11
    refine wl_mvs (A := [_]) hF rfl ?_; clear hF a; intro a hF
    refine wl_take hF rfl rfl rfl rfl ?_
    refine wl hF rfl rfl rfl (r_len ul52 (hF.ev rfl)) ?_; clear hF a; intro a hF
    refine wl_take hF rfl rfl rfl rfl ?_
    refine wl hF rfl rfl rfl (r_gtr (hF.ev rfl) ec) ?_; clear hF a; intro a hF
    refine wl hF rfl rfl rfl (r_pick_f (hF.ev rfl) (hF.ev rfl)) ?_; clear hF a; intro a hF
    exact wl_nil ⟨rfl, (Fr.pre (A := [_, _, _, _]) hF rfl).keep hF (t := 15) rfl, hS⟩
  ·
    intro hg11 a hF; try simp only [zb1, zb2, zb3, zb4, zb5, zb6, zb7, zb8] at hg11
    refine wl_mvs (A := [_, _, _]) hF rfl ?_; clear hF a; intro a hF
    refine wl hF rfl rfl rfl (r_pick_t (hF.ev rfl) ec) ?_; clear hF a; intro a hF
    exact wl_nil ⟨rfl, (Fr.pre (A := [_, _, _, _]) hF rfl).keep hF (t := 15) rfl, hS⟩
  clear hF a hS; intro a w3 hF hS
  refine wl_nil (hK3 _ _ ?_)
  refine wc_fx (t := 15) hF rfl ?_ ?_ <;> clear hF <;> intro c15 hF <;> try simp only [zb1, zb2, zb3, zb4, zb5, zb6, zb7, zb8] at c15
  ·
    refine ws fun K4 hK4 => ?_
    refine wl_bslice intEK [] [] rfl hF hS rfl mk24 rfl trivial rfl rfl rfl rfl ?_; clear hF a; intro gl_16 w4 a hS_ hF; replace hS := hS_; clear hS_
    refine wl_mvs (A := [_, _]) hF rfl ?_; clear hF a; intro a hF
    refine wl_nil (hK4 _ _ ?_)
    refine wp_ret ?_
    try simp only [Exit.then, Exit.inBlock, ↓reduceIte]
    first
      | (have e := lin_no c15
         refine ret2 rfl hF rfl rfl ⟨(some ⟨gl_16, 0, none⟩, 0, 0), by rw [e]; rfl, ?_⟩; rw [e]; exact hS.pick [0] (by decide) rfl)
      | (have e := lin_yes (es := es) ⟨c15.1, by omega⟩
         refine ret2 rfl hF rfl rfl ⟨s26, by rw [e]; rfl, ?_⟩; rw [e]; exact hS.pick [99] (by decide) rfl)
  refine wp_skip ?_
  refine hK2 _ _ ?_
  refine wp_seq_k fun K5 hK5 => ?_
  refine wp_region_todo (is := [0, 1, 2, 3, 5, 4, 6, 7, 8, 9, 10, 11, 12, 13]) [] [] (by kernel_rfl) hF hS ⟨trivial, by decide, by decide, by decide⟩ (by kernel_rfl) ?_; clear hF; intro hl_ wd hSd
  refine todo_load [8, 9, 10, 11, 12, 13] hl_ (by kernel_rfl) rfl (gw0 rfl) rfl rfl rfl (fun a w_ hF hB_ => r_loadn ag38 (hF.ev rfl) ((hSd.ext hB_).box_rd (i := 0) rfl) sz38) ?_
  refine todo_pure hl_ (by kernel_rfl) rfl (gw0 rfl) rfl rfl rfl (fun a w_ hF => r_move (hF.ev rfl)) ?_
  refine todo_pure hl_ (by kernel_rfl) rfl (gw0 rfl) rfl rfl rfl (fun a w_ hF => r_move (hF.ev rfl)) ?_
  refine todo_pure hl_ (by kernel_rfl) rfl (gw0 rfl) rfl rfl rfl (fun a w_ hF => r_len ul52 (hF.ev rfl)) ?_
  refine todo_load [6, 8, 9, 10, 11, 12, 13] hl_ (by kernel_rfl) rfl (gw0 rfl) rfl rfl rfl (fun a w_ hF hB_ => r_loadn ag38 (hF.ev rfl) ((hSd.ext hB_).box_rd (i := 0) rfl) sz38) ?_
  refine todo_fork [(4, [6, 7, 8, 9, 10, 11, 12, 13]), (6, [4, 7, 8, 9, 10, 11, 12, 13]), (7, [4, 6, 8, 9, 10, 11, 12, 13])] hl_ rfl (by kernel_rfl) (List.forall_mem_cons.2 ⟨?_, List.forall_mem_cons.2 ⟨?_, List.forall_mem_cons.2 ⟨?_, fun _ h_ => nomatch h_⟩⟩⟩)
  ·
    refine op_op rfl rfl (gw0 rfl) rfl rfl rfl (fun a w_ hF hS => r_make0 boolEK false [] mk84 rfl (fun _ => Sat.nil _ _) (hF.ev rfl) (by omega) (by unfold maxLen; omega)) ?_; intro gm_22
    refine todo_fork [(6, [7, 8, 9, 10, 11, 12, 13]), (7, [6, 8, 9, 10, 11, 12, 13])] hl_ rfl (by kernel_rfl) (List.forall_mem_cons.2 ⟨?_, List.forall_mem_cons.2 ⟨?_, fun _ h_ => nomatch h_⟩⟩)
    ·
      refine op_mk rfl rfl (gw0 rfl) rfl rfl rfl (fun a w_ hF => r_call1 en57 (hF.ev rfl)) (fun w_ hS => specNewModel_c _) ?_; rintro vs24
      refine todo_op hl_ rfl (by kernel_rfl) rfl rfl rfl rfl rfl (fun a w_ hF hS => r_bslice intEK [] [] rfl mk24 rfl trivial rfl rfl rfl rfl) ?_; intro gl_25
      refine todo_mk hl_ rfl (by kernel_rfl) rfl rfl rfl rfl rfl (fun a w_ hF => r_call5 en56 (hF.ev rfl) (hF.ev rfl) (hF.ev rfl) (hF.ev rfl) (hF.ev rfl)) (fun w_ hS => l20Search_all _ _ c _ _ _ es (List.replicate es.length false) (newModel c) _ [] (hS.rd ha) (hS.own_rd (i := 2) rfl) (hS.part_k (i := 1) rfl) (hS.own_rd (i := 0) rfl) (by simp) (by omega) (by omega) (by simp only [List.length_nil]; omega) (by simp only [List.length_nil]; omega) rfl) ?_; rintro s26
      refine todo_pure hl_ (by kernel_rfl) rfl (gw0 rfl) rfl rfl rfl (fun a w_ hF => r_move (hF.ev rfl)) ?_
      refine todo_pure hl_ (by kernel_rfl) rfl (gw0 rfl) rfl rfl rfl (fun a w_ hF => r_extract (hF.ev rfl) rfl) ?_
      refine todo_pure hl_ (by kernel_rfl) rfl (gw0 rfl) rfl rfl rfl (fun a w_ hF => r_extract (hF.ev rfl) rfl) ?_
      refine todo_pure hl_ (by kernel_rfl) rfl (gw0 rfl) rfl rfl rfl (fun a w_ hF => r_assign (hF.ev rfl)) ?_
      refine todo_pure hl_ (by kernel_rfl) rfl (gw0 rfl) rfl rfl rfl (fun a w_ hF => r_assign (hF.ev rfl)) ?_
      refine todo_fin hl_ rfl (by kernel_rfl) (tl := []) rfl ?_; clear hS a; intro a w7 hF hA_
      have hS := hA_.sep; clear hA_
      clear hl_; try clear hSd
      try dsimp only [List.cons_append, List.nil_append, List.set] at hS
      try clear wd
      refine wl_nil ⟨rfl, ?_⟩
      refine hK5 _ _ ?_
      refine ws fun K6 hK6 => ?_
      refine wl_mvs (A := [_, _, _, _]) hF rfl ?_; clear hF a; intro a hF
      refine wl_nil (hK6 _ _ ?_)
      refine wp_ret ?_
      try simp only [Exit.then, Exit.inBlock, ↓reduceIte]
      first
        | (have e := lin_no c15
           refine ret2 rfl hF rfl rfl ⟨(some ⟨gl_16, 0, none⟩, 0, 0), by rw [e]; rfl, ?_⟩; rw [e]; exact hS.pick [99] (by decide) rfl)
        | (have e := lin_yes (es := es) ⟨c15.1, by omega⟩
           refine ret2 rfl hF rfl rfl ⟨s26, by rw [e]; rfl, ?_⟩; rw [e]; exact hS.pick [0] (by decide) rfl)
    ·
      refine op_op rfl rfl (gw0 rfl) rfl rfl rfl (fun a w_ hF hS => r_bslice intEK [] [] rfl mk24 rfl trivial rfl rfl rfl rfl) ?_; intro gl_25
      refine todo_mk hl_ rfl (by kernel_rfl) rfl rfl rfl rfl rfl (fun a w_ hF => r_call1 en57 (hF.ev rfl)) (fun w_ hS => specNewModel_c _) ?_; rintro vs24
      refine todo_mk hl_ rfl (by kernel_rfl) rfl rfl rfl rfl rfl (fun a w_ hF => r_call5 en56 (hF.ev rfl) (hF.ev rfl) (hF.ev rfl) (hF.ev rfl) (hF.ev rfl)) (fun w_ hS => l20Search_all _ _ c _ _ _ es (List.replicate es.length false) (newModel c) _ [] (hS.rd ha) (hS.own_rd (i := 2) rfl) (hS.part_k (i := 0) rfl) (hS.own_rd (i := 1) rfl) (by simp) (by omega) (by omega) (by simp only [List.length_nil]; omega) (by simp only [List.length_nil]; omega) rfl) ?_; rintro s26
      refine todo_pure hl_ (by kernel_rfl) rfl (gw0 rfl) rfl rfl rfl (fun a w_ hF => r_move (hF.ev rfl)) ?_
      refine todo_pure hl_ (by kernel_rfl) rfl (gw0 rfl) rfl rfl rfl (fun a w_ hF => r_extract (hF.ev rfl) rfl) ?_
      refine todo_pure hl_ (by kernel_rfl) rfl (gw0 rfl) rfl rfl rfl (fun a w_ hF => r_extract (hF.ev rfl) rfl) ?_
      refine todo_pure hl_ (by kernel_rfl) rfl (gw0 rfl) rfl rfl rfl (fun a w_ hF => r_assign (hF.ev rfl)) ?_
      refine todo_pure hl_ (by kernel_rfl) rfl (gw0 rfl) rfl rfl rfl (fun a w_ hF => r_assign (hF.ev rfl)) ?_
      refine todo_fin hl_ rfl (by kernel_rfl) (tl := []) rfl ?_; clear hS a; intro a w9 hF hA_
      have hS := hA_.sep; clear hA_
      clear hl_; try clear hSd
      try dsimp only [List.cons_append, List.nil_append, List.set] at hS
      try clear wd
      refine wl_nil ⟨rfl, ?_⟩
      refine hK5 _ _ ?_
      refine ws fun K7 hK7 => ?_
      refine wl_mvs (A := [_, _, _, _]) hF rfl ?_; clear hF a; intro a hF
      refine wl_nil (hK7 _ _ ?_)
      refine wp_ret ?_
      try simp only [Exit.then, Exit.inBlock, ↓reduceIte]
      first
        | (have e := lin_no c15
           refine ret2 rfl hF rfl rfl ⟨(some ⟨gl_16, 0, none⟩, 0, 0), by rw [e]; rfl, ?_⟩; rw [e]; exact hS.pick [99] (by decide) rfl)
        | (have e := lin_yes (es := es) ⟨c15.1, by omega⟩
           refine ret2 rfl hF rfl rfl ⟨s26, by rw [e]; rfl, ?_⟩; rw [e]; exact hS.pick [0] (by decide) rfl)
  ·
    refine op_mk rfl rfl (gw0 rfl) rfl rfl rfl (fun a w_ hF => r_call1 en57 (hF.ev rfl)) (fun w_ hS => specNewModel_c _) ?_; rintro vs24
    refine todo_fork [(4, [7, 8, 9, 10, 11, 12, 13]), (7, [4, 8, 9, 10, 11, 12, 13])] hl_ rfl (by kernel_rfl) (List.forall_mem_cons.2 ⟨?_, List.forall_mem_cons.2 ⟨?_, fun _ h_ => nomatch h_⟩⟩)
    ·
      refine op_op rfl rfl (gw0 rfl) rfl rfl rfl (fun a w_ hF hS => r_make0 boolEK false [] mk84 rfl (fun _ => Sat.nil _ _) (hF.ev rfl) (by omega) (by unfold maxLen; omega)) ?_; intro gm_22
      refine todo_op hl_ rfl (by kernel_rfl) rfl rfl rfl rfl rfl (fun a w_ hF hS => r_bslice intEK [] [] rfl mk24 rfl trivial rfl rfl rfl rfl) ?_; intro gl_25
      refine todo_mk hl_ rfl (by kernel_rfl) rfl rfl rfl rfl rfl (fun a w_ hF => r_call5 en56 (hF.ev rfl) (hF.ev rfl) (hF.ev rfl) (hF.ev rfl) (hF.ev rfl)) (fun w_ hS => l20Search_all _ _ c _ _ _ es (List.replicate es.length false) (newModel c) _ [] (hS.rd ha) (hS.own_rd (i := 1) rfl) (hS.part_k (i := 2) rfl) (hS.own_rd (i := 0) rfl) (by simp) (by omega) (by omega) (by simp only [List.length_nil]; omega) (by simp only [List.length_nil]; omega) rfl) ?_; rintro s26
      refine todo_pure hl_ (by kernel_rfl) rfl (gw0 rfl) rfl rfl rfl (fun a w_ hF => r_move (hF.ev rfl)) ?_
      refine todo_pure hl_ (by kernel_rfl) rfl (gw0 rfl) rfl rfl rfl (fun a w_ hF => r_extract (hF.ev rfl) rfl) ?_
      refine todo_pure hl_ (by kernel_rfl) rfl (gw0 rfl) rfl rfl rfl (fun a w_ hF => r_extract (hF.ev rfl) rfl) ?_
      refine todo_pure hl_ (by kernel_rfl) rfl (gw0 rfl) rfl rfl rfl (fun a w_ hF => r_assign (hF.ev rfl)) ?_
      refine todo_pure hl_ (by kernel_rfl) rfl (gw0 rfl) rfl rfl rfl (fun a w_ hF => r_assign (hF.ev rfl)) ?_
      refine todo_fin hl_ rfl (by kernel_rfl) (tl := []) rfl ?_; clear hS a; intro a w12 hF hA_
      have hS := hA_.sep; clear hA_
      clear hl_; try clear hSd
      try dsimp only [List.cons_append, List.nil_append, List.set] at hS
      try clear wd
      refine wl_nil ⟨rfl, ?_⟩
      refine hK5 _ _ ?_
      refine ws fun K8 hK8 => ?_
      refine wl_mvs (A := [_, _, _, _]) hF rfl ?_; clear hF a; intro a hF
      refine wl_nil (hK8 _ _ ?_)
      refine wp_ret ?_
      try simp only [Exit.then, Exit.inBlock, ↓reduceIte]
      first
        | (have e := lin_no c15
           refine ret2 rfl hF rfl rfl ⟨(some ⟨gl_16, 0, none⟩, 0, 0), by rw [e]; rfl, ?_⟩; rw [e]; exact hS.pick [99] (by decide) rfl)
        | (have e := lin_yes (es := es) ⟨c15.1, by omega⟩
           refine ret2 rfl hF rfl rfl ⟨s26, by rw [e]; rfl, ?_⟩; rw [e]; exact hS.pick [0] (by decide) rfl)
    ·
      refine op_op rfl rfl (gw0 rfl) rfl rfl rfl (fun a w_ hF hS => r_bslice intEK [] [] rfl mk24 rfl trivial rfl rfl rfl rfl) ?_; intro gl_25
      refine todo_op hl_ rfl (by kernel_rfl) rfl rfl rfl rfl rfl (fun a w_ hF hS => r_make0 boolEK false [] mk84 rfl (fun _ => Sat.nil _ _) (hF.ev rfl) (by omega) (by unfold maxLen; omega)) ?_; intro gm_22
      refine todo_mk hl_ rfl (by kernel_rfl) rfl rfl rfl rfl rfl (fun a w_ hF => r_call5 en56 (hF.ev rfl) (hF.ev rfl) (hF.ev rfl) (hF.ev rfl) (hF.ev rfl)) (fun w_ hS => l20Search_all _ _ c _ _ _ es (List.replicate es.length false) (newModel c) _ [] (hS.rd ha) (hS.own_rd (i := 0) rfl) (hS.part_k (i := 2) rfl) (hS.own_rd (i := 1) rfl) (by simp) (by omega) (by omega) (by simp only [List.length_nil]; omega) (by simp only [List.length_nil]; omega) rfl) ?_; rintro s26
      refine todo_pure hl_ (by kernel_rfl) rfl (gw0 rfl) rfl rfl rfl (fun a w_ hF => r_move (hF.ev rfl)) ?_
      refine todo_pure hl_ (by kernel_rfl) rfl (gw0 rfl) rfl rfl rfl (fun a w_ hF => r_extract (hF.ev rfl) rfl) ?_
      refine todo_pure hl_ (by kernel_rfl) rfl (gw0 rfl) rfl rfl rfl (fun a w_ hF => r_extract (hF.ev rfl) rfl) ?_
      refine todo_pure hl_ (by kernel_rfl) rfl (gw0 rfl) rfl rfl rfl (fun a w_ hF => r_assign (hF.ev rfl)) ?_
      refine todo_pure hl_ (by kernel_rfl) rfl (gw0 rfl) rfl rfl rfl (fun a w_ hF => r_assign (hF.ev rfl)) ?_
      refine todo_fin hl_ rfl (by kernel_rfl) (tl := []) rfl ?_; clear hS a; intro a w15 hF hA_
      have hS := hA_.sep; clear hA_
      clear hl_; try clear hSd
      try dsimp only [List.cons_append, List.nil_append, List.set] at hS
      try clear wd
      refine wl_nil ⟨rfl, ?_⟩
      refine hK5 _ _ ?_
      refine ws fun K9 hK9 => ?_
      refine wl_mvs (A := [_, _, _, _]) hF rfl ?_; clear hF a; intro a hF
      refine wl_nil (hK9 _ _ ?_)
      refine wp_ret ?_
      try simp only [Exit.then, Exit.inBlock, ↓reduceIte]
      first
        | (have e := lin_no c15
           refine ret2 rfl hF rfl rfl ⟨(some ⟨gl_16, 0, none⟩, 0, 0), by rw [e]; rfl, ?_⟩; rw [e]; exact hS.pick [99] (by decide) rfl)
        | (have e := lin_yes (es := es) ⟨c15.1, by omega⟩
           refine ret2 rfl hF rfl rfl ⟨s26, by rw [e]; rfl, ?_⟩; rw [e]; exact hS.pick [0] (by decide) rfl)
  ·
    refine op_op rfl rfl (gw0 rfl) rfl rfl rfl (fun a w_ hF hS => r_bslice intEK [] [] rfl mk24 rfl trivial rfl rfl rfl rfl) ?_; intro gl_25
    refine todo_fork [(4, [6, 8, 9, 10, 11, 12, 13]), (6, [4, 8, 9, 10, 11, 12, 13])] hl_ rfl (by kernel_rfl) (List.forall_mem_cons.2 ⟨?_, List.forall_mem_cons.2 ⟨?_, fun _ h_ => nomatch h_⟩⟩)
    ·
      refine op_op rfl rfl (gw0 rfl) rfl rfl rfl (fun a w_ hF hS => r_make0 boolEK false [] mk84 rfl (fun _ => Sat.nil _ _) (hF.ev rfl) (by omega) (by unfold maxLen; omega)) ?_; intro gm_22
      refine todo_mk hl_ rfl (by kernel_rfl) rfl rfl rfl rfl rfl (fun a w_ hF => r_call1 en57 (hF.ev rfl)) (fun w_ hS => specNewModel_c _) ?_; rintro vs24
      refine todo_mk hl_ rfl (by kernel_rfl) rfl rfl rfl rfl rfl (fun a w_ hF => r_call5 en56 (hF.ev rfl) (hF.ev rfl) (hF.ev rfl) (hF.ev rfl) (hF.ev rfl)) (fun w_ hS => l20Search_all _ _ c _ _ _ es (List.replicate es.length false) (newModel c) _ [] (hS.rd ha) (hS.own_rd (i := 1) rfl) (hS.part_k (i := 0) rfl) (hS.own_rd (i := 2) rfl) (by simp) (by omega) (by omega) (by simp only [List.length_nil]; omega) (by simp only [List.length_nil]; omega) rfl) ?_; rintro s26
      refine todo_pure hl_ (by kernel_rfl) rfl (gw0 rfl) rfl rfl rfl (fun a w_ hF => r_move (hF.ev rfl)) ?_
      refine todo_pure hl_ (by kernel_rfl) rfl (gw0 rfl) rfl rfl rfl (fun a w_ hF => r_extract (hF.ev rfl) rfl) ?_
      refine todo_pure hl_ (by kernel_rfl) rfl (gw0 rfl) rfl rfl rfl (fun a w_ hF => r_extract (hF.ev rfl) rfl) ?_
      refine todo_pure hl_ (by kernel_rfl) rfl (gw0 rfl) rfl rfl rfl (fun a w_ hF => r_assign (hF.ev rfl)) ?_
      refine todo_pure hl_ (by kernel_rfl) rfl (gw0 rfl) rfl rfl rfl (fun a w_ hF => r_assign (hF.ev rfl)) ?_
      refine todo_fin hl_ rfl (by kernel_rfl) (tl := []) rfl ?_; clear hS a; intro a w18 hF hA_
      have hS := hA_.sep; clear hA_
      clear hl_; try clear hSd
      try dsimp only [List.cons_append, List.nil_append, List.set] at hS
      try clear wd
      refine wl_nil ⟨rfl, ?_⟩
      refine hK5 _ _ ?_
      refine ws fun K10 hK10 => ?_
      refine wl_mvs (A := [_, _, _, _]) hF rfl ?_; clear hF a; intro a hF
      refine wl_nil (hK10 _ _ ?_)
      refine wp_ret ?_
      try simp only [Exit.then, Exit.inBlock, ↓reduceIte]
      first
        | (have e := lin_no c15
           refine ret2 rfl hF rfl rfl ⟨(some ⟨gl_16, 0, none⟩, 0, 0), by rw [e]; rfl, ?_⟩; rw [e]; exact hS.pick [99] (by decide) rfl)
        | (have e := lin_yes (es := es) ⟨c15.1, by omega⟩
           refine ret2 rfl hF rfl rfl ⟨s26, by rw [e]; rfl, ?_⟩; rw [e]; exact hS.pick [0] (by decide) rfl)
    ·
      refine op_mk rfl rfl (gw0 rfl) rfl rfl rfl (fun a w_ hF => r_call1 en57 (hF.ev rfl)) (fun w_ hS => specNewModel_c _) ?_; rintro vs24
      refine todo_op hl_ rfl (by kernel_rfl) rfl rfl rfl rfl rfl (fun a w_ hF hS => r_make0 boolEK false [] mk84 rfl (fun _ => Sat.nil _ _) (hF.ev rfl) (by omega) (by unfold maxLen; omega)) ?_; intro gm_22
      refine todo_mk hl_ rfl (by kernel_rfl) rfl rfl rfl rfl rfl (fun a w_ hF => r_call5 en56 (hF.ev rfl) (hF.ev rfl) (hF.ev rfl) (hF.ev rfl) (hF.ev rfl)) (fun w_ hS => l20Search_all _ _ c _ _ _ es (List.replicate es.length false) (newModel c) _ [] (hS.rd ha) (hS.own_rd (i := 0) rfl) (hS.part_k (i := 1) rfl) (hS.own_rd (i := 2) rfl) (by simp) (by omega) (by omega) (by simp only [List.length_nil]; omega) (by simp only [List.length_nil]; omega) rfl) ?_; rintro s26
      refine todo_pure hl_ (by kernel_rfl) rfl (gw0 rfl) rfl rfl rfl (fun a w_ hF => r_move (hF.ev rfl)) ?_
      refine todo_pure hl_ (by kernel_rfl) rfl (gw0 rfl) rfl rfl rfl (fun a w_ hF => r_extract (hF.ev rfl) rfl) ?_
      refine todo_pure hl_ (by kernel_rfl) rfl (gw0 rfl) rfl rfl rfl (fun a w_ hF => r_extract (hF.ev rfl) rfl) ?_
      refine todo_pure hl_ (by kernel_rfl) rfl (gw0 rfl) rfl rfl rfl (fun a w_ hF => r_assign (hF.ev rfl)) ?_
      refine todo_pure hl_ (by kernel_rfl) rfl (gw0 rfl) rfl rfl rfl (fun a w_ hF => r_assign (hF.ev rfl)) ?_
      refine todo_fin hl_ rfl (by kernel_rfl) (tl := []) rfl ?_; clear hS a; intro a w20 hF hA_
      have hS := hA_.sep; clear hA_
      clear hl_; try clear hSd
      try dsimp only [List.cons_append, List.nil_append, List.set] at hS
      try clear wd
      refine wl_nil ⟨rfl, ?_⟩
      refine hK5 _ _ ?_
      refine ws fun K11 hK11 => ?_
      refine wl_mvs (A := [_, _, _, _]) hF rfl ?_; clear hF a; intro a hF
      refine wl_nil (hK11 _ _ ?_)
      refine wp_ret ?_
      try simp only [Exit.then, Exit.inBlock, ↓reduceIte]
      first
        | (have e := lin_no c15
           refine ret2 rfl hF rfl rfl ⟨(some ⟨gl_16, 0, none⟩, 0, 0), by rw [e]; rfl, ?_⟩; rw [e]; exact hS.pick [99] (by decide) rfl)
        | (have e := lin_yes (es := es) ⟨c15.1, by omega⟩
           refine ret2 rfl hF rfl rfl ⟨s26, by rw [e]; rfl, ?_⟩; rw [e]; exact hS.pick [0] (by decide) rfl)

set_option maxHeartbeats 4000000 in
set_option maxRecDepth 20000 in
theorem specIsLin_c {W : World} {c : Config} {va : Value} {es : List Sl.Event} (ha : eventEK.Rd W va es) : Calls Try.prog 18 #[.agg c.enc.toArray, va] W (Ret fun v w' => v = .bool (linearize c es).isSome ∧ Below W.heap.size W w') := by
  refine calls_fr Try.func18 rfl Try.ntmps18 rfl ?_
  intro a hF
  have hS := Sep.refl W
  refine ws fun K1 hK1 => ?_
  refine wl_box (cs := [_, _, _, _, _, _]) hF hS rfl (hF.ev rfl) rfl ?_; clear hF a; intro g1 w1 a hS_ hB_ hF; replace hS := hS_; clear hS_ hB_
  refine wl_mvs (A := [_]) hF rfl ?_; clear hF a; intro a hF
  refine wl_nil (hK1 _ _ ?_)
  refine ws fun K2 hK2 => ?_
  refine wl hF rfl rfl rfl (r_loadn ag38 (hF.ev rfl) (hS.box_rd (i := 0) rfl) sz38) ?_; clear hF a; intro a hF
  refine wl_mvs (A := [_]) hF rfl ?_; clear hF a; intro a hF
  refine wl_mk hF hS rfl rfl rfl (r_call2 en22 (hF.ev rfl) (hF.ev rfl)) (specLinearize_c (hS.rd ha)) ?_; clear hF a; rintro s10 w2 a hS_ hF; replace hS := hS_; clear hS_; dsimp only [List.cons_append, List.nil_append] at hS
  refine wl_mvs (A := [_]) hF rfl ?_; clear hF a; intro a hF
  refine wl hF rfl rfl rfl (r_extract (hF.ev rfl) rfl) ?_; clear hF a; intro a hF
  refine wl hF rfl rfl rfl (r_extract (hF.ev rfl) rfl) ?_; clear hF a; intro a hF
  refine wl_mvs (A := [_, _]) hF rfl ?_; clear hF a; intro a hF
  refine wl_nil (hK2 _ _ ?_)
  refine ws fun K3 hK3 => ?_
  refine wl_mvs (A := [_, _]) hF rfl ?_; clear hF a; intro a hF
  refine wl_nil (hK3 _ _ ?_)
  refine wp_ret ?_
  try simp only [Exit.then, Exit.inBlock, ↓reduceIte]
  exact ret1 rfl hF rfl ⟨rfl, hS.old⟩

end Go.Proofs.Yteldnoimmjihoaa.Wk
