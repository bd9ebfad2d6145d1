/- Walks: draws of models. -/
import Derived.Test.YteldnoimmjihoaaChecked
import Derived.Test.YteldnoimmjihoaaWkDr
import Derived.Test.YteldnoimmjihoaaWkNew
import Derived.Test.YteldnoimmjihoaaFactsE
namespace Go.Proofs.Yteldnoimmjihoaa.Wk
open Go Go.RowKit Sl
set_option linter.unusedVariables false
set_option linter.unusedSimpArgs false
set_option maxRecDepth 20000

section
variable {c : Config} {m : Model} {p : Int} {o : Sl.Op} {q : Int}
theorem isModel_iff : isModel c m = true ↔ c.ok ∧ valOk c m.values = true ∧ (m.snapshots.length : Int) = c.threads ∧ ∀ l ∈ m.snapshots, (0 : Int) < l.length → valOk c l = true := by
  unfold isModel
  simp only [Bool.and_eq_true, decide_eq_true_eq, List.all_eq_true, Bool.or_eq_true, Bool.not_eq_true', decide_eq_false_iff_not]
  refine and_congr_right fun _ => and_congr_right fun _ => and_congr_right fun _ => forall_congr' fun l => forall_congr' fun _ => ?_
  exact Decidable.imp_iff_not_or.symm
theorem crow_le_mul {xs : List (List Int)} {k : Nat} (h : ∀ x ∈ xs, x.length ≤ k) : crow List.length xs ≤ xs.length * k := by
  induction xs with
  | nil => simp [crow]
  | cons x xs ih =>
    have h1 := ih (fun y hy => h y (List.mem_cons_of_mem _ hy))
    have h2 := h x List.mem_cons_self
    simp only [crow, List.length_cons, Nat.add_mul, Nat.one_mul]; omega
theorem isModel_size (h : isModel c m = true) : m.size ≤ 100 := by
  have hv := isModel_vals h
  obtain ⟨hok, _, hs, hl⟩ := isModel_iff.1 h
  unfold Config.ok at hok
  have h1 : ∀ x ∈ m.snapshots, x.length ≤ 4 := fun x hx => by
    by_cases h0 : (0 : Int) < x.length
    · have := isModel_snap h hx h0; omega
    · omega
  have h2 := crow_le_mul h1
  unfold Model.size
  omega
theorem isModel_new (h : c.ok) : isModel c (newModel c) = true := by
  have hb := h
  unfold Config.ok at hb
  unfold newModel
  rw [if_pos h, isModel_iff]
  refine ⟨h, ?_, by simp; omega, fun l hl h0 => ?_⟩
  · unfold valOk
    simp only [Bool.and_eq_true, List.all_eq_true, decide_eq_true_eq, List.length_replicate]
    exact ⟨fun x hx => by obtain ⟨_, rfl⟩ := List.mem_replicate.1 hx; omega, by omega⟩
  · obtain ⟨_, rfl⟩ := List.mem_replicate.1 hl
    simp at h0
theorem mem_set_or {α : Type} {xs : List α} {i : Nat} {y x : α} (h : x ∈ xs.set i y) : x ∈ xs ∨ x = y := List.mem_or_eq_of_mem_set h
theorem isModel_apply (h : isModel c m = true) : isModel c (applyModel c m p o).1 = true := by
  obtain ⟨hok, hv, hs, hl⟩ := isModel_iff.1 h
  unfold applyModel
  repeat' split
  all_goals first
    | exact h
    | (refine isModel_iff.2 ⟨hok, hv, by simp only [List.length_set]; exact hs, fun l hm h0 => ?_⟩
       rcases mem_set_or hm with hm | rfl
       · exact hl l hm h0
       · first | exact hv | (simp at h0; done))
    | (refine isModel_iff.2 ⟨hok, ?_, hs, hl⟩
       unfold valOk at hv ⊢
       simp only [Bool.and_eq_true, List.all_eq_true, decide_eq_true_eq, List.length_set] at hv ⊢
       refine ⟨fun x hx => ?_, hv.2⟩
       rcases mem_set_or hx with hx | rfl
       · exact hv.1 x hx
       · rename_i hc _ _ _ _ _ _
         have ho := hc.2.1
         unfold Sl.Op.ok at ho
         omega)
end

set_option maxHeartbeats 4000000 in
set_option maxRecDepth 20000 in
theorem l19Model_h {W : World} {g : Nat} {vb : Value} {bs : List Int} (hbs : byteEK.Rd W vb bs) {l : List Res} {w : World} (c : Config) (hS : Sep W (Cur g vb bs.length :: l) w) : Calls Try.prog 67 #[.pointer (some ⟨g, 0, none⟩), .agg c.enc.toArray] w (Ret fun v w' => ∃ z : Model × List Slv, (v = .agg (modelEK.cells z.1 z.2).toArray ∧ z.1.size ≤ 200) ∧ Sep W (Part modelEK z.1 z.2 :: Cur g vb bs.length :: l) w') := by
  refine calls_fr Try.func67 rfl Try.ntmps67 rfl ?_
  intro a hF

  refine ws fun K1 hK1 => ?_
  refine wl_box (cs := [_, _, _, _, _, _]) hF hS rfl (hF.ev rfl) rfl ?_; clear hF a; intro g1 w1 a hS_ hB_ hF; replace hS := hS_; clear hS_ hB_
  refine wl_alloc hF hS rfl zr35 ?_; clear hF a; intro g2 w2 a hS_ hB_ hF; replace hS := hS_; clear hS_ hB_
  refine wl_nil (hK1 _ _ ?_)
  refine ws fun K2 hK2 => ?_
  refine wl hF rfl rfl rfl (r_loadn ag38 (hF.ev rfl) (hS.box_rd (i := 1) rfl) sz38) ?_; clear hF a; intro a hF
  refine wl_mk hF hS rfl rfl rfl (r_call1 en57 (hF.ev rfl)) (specNewModel_c _) ?_; clear hF a; rintro vs10 w3 a hS_ hF; replace hS := hS_; clear hS_; dsimp only [List.cons_append, List.nil_append] at hS
  refine wl_alloc hF hS rfl zr35 ?_; clear hF a; intro g3 w4 a hS_ hB_ hF; replace hS := hS_; clear hS_ hB_
  refine wl_storew hF hS (i := 0) rfl (hF.ev rfl) (hF.ev rfl) sz35 rfl rfl ?_; intro w5 hS_; replace hS := hS_; clear hS_; dsimp only [List.set, Nat.reduceAdd] at hS
  refine wl_nil (hK2 _ _ ?_)
  refine wp_seq_k fun K3 hK3 => ?_
  refine ws fun K4 hK4 => ?_
  refine wl_mvs (A := [_]) hF rfl ?_; clear hF a; intro a hF
  refine wl_call hF rfl rfl rfl (r_call2 en68 (hF.ev rfl) ec) (l1Below_c hbs (q := 4) _ hS rfl) ?_; clear hF a; rintro v w6 a ⟨⟨x12, rfl, h12⟩, hS_⟩ hF; replace hS := hS_; clear hS_
  refine wl_mvs (A := [_]) hF rfl ?_; clear hF a; intro a hF
  refine wl_nil (hK4 _ _ ?_)
  refine wp_block ?_
  have hnc := newModel_cnt c
  replace hS := hS.pull (p := 1) rfl; dsimp only [List.eraseIdx] at hS
  replace hS := hS.pull (p := 1) rfl; dsimp only [List.eraseIdx] at hS
  have hL_ := ((((hF.nil.keep hF (t := 5) rfl).keep hF (t := 4) rfl).keep hF (t := 3) rfl).keep hF (t := 0) rfl)
  refine wp_loop_m (σ := Int × Model × List Slv) (fun z L_ => (6, vi z.1) :: L_) (fun z l_ => (Box g3 (modelEK.cells z.2.1 z.2.2)) :: (Part modelEK z.2.1 z.2.2) :: l_) (fun z => (c.ok → isModel c z.2.1 = true) ∧ (z.2.1.size ≤ 100) ∧ (z.1 ≤ 9)) (fun z => z.1.toNat) (_, newModel c, vs10) (hS) (hL_.keepE hF (t := 6) rfl rfl) ?_ ?_
  · exact ⟨fun h => isModel_new h, hnc.2, by dsimp only; omega⟩
  clear hF hS hL_ a
  rintro ⟨n, m, vs⟩ a w7 ⟨hm, hz, hn⟩ hS hF; try dsimp only at hF; try dsimp only at hS; try dsimp only at hm; try dsimp only at hz; try dsimp only at hn
  refine wp_seq_k fun K5 hK5 => ?_
  refine ws fun K6 hK6 => ?_
  refine wl_mvs (A := [_]) hF rfl ?_; clear hF a; intro a hF
  refine wl hF rfl rfl rfl (r_gtr (hF.ev rfl) ec) ?_; clear hF a; intro a hF
  refine wl_mvs (A := [_]) hF rfl ?_; clear hF a; intro a hF
  apply wl_and (A := [_, _, _]) (pk := 18) hF hS (tc := 15) rfl
  ·
    intro hg15 a hF; try simp only [zb1, zb2, zb3, zb4, zb5, zb6, zb7, zb8] at hg15
    refine wl_take hF rfl rfl rfl rfl ?_
    refine wl hF rfl rfl rfl (r_loadn ag38 (hF.ev rfl) (hS.box_rd (i := 3) rfl) sz38) ?_; clear hF a; intro a hF
    refine wl_take hF rfl rfl rfl rfl ?_
    refine wl_call hF rfl rfl rfl (r_call1 en55 (hF.ev rfl)) (specIsConfig_c _) ?_; clear hF a; rintro v w8 a ⟨rfl, hB_⟩ hF; replace hS := hS.ext hB_; clear hB_
    refine wl hF rfl rfl rfl (r_pick_t (hF.ev rfl) (hF.ev rfl)) ?_; clear hF a; intro a hF
    exact wl_nil ⟨rfl, (Fr.pre (A := [_, _, _]) hF rfl).keep hF (t := 18) rfl, hS⟩
  ·
    intro hg15 a hF; try simp only [zb1, zb2, zb3, zb4, zb5, zb6, zb7, zb8] at hg15
    refine wl_mvs (A := [_, _]) hF rfl ?_; clear hF a; intro a hF
    refine wl hF rfl rfl rfl (r_pick_f (hF.ev rfl) ec) ?_; clear hF a; intro a hF
    exact wl_nil ⟨rfl, (Fr.pre (A := [_, _, _]) hF rfl).keep hF (t := 18) rfl, hS⟩
  clear hF a hS; intro a w9 hF hS
  refine wl_nil (hK6 _ _ ?_)
  refine wc_fx (t := 18) hF rfl ?_ ?_ <;> clear hF <;> intro c18 hF <;> try simp only [zb1, zb2, zb3, zb4, zb5, zb6, zb7, zb8] at c18
  ·
    have hmo := hm c18.2
    have hb := c18.2; unfold Config.ok at hb
    refine wp_skip ?_
    refine hK5 _ _ ?_
    refine wp_seq_k fun K7 hK7 => ?_
    refine wp_block ?_
    refine wp_seq_k fun K8 hK8 => ?_
    refine wp_region_todo (is := [2, 3, 4, 6, 7, 5, 8, 9, 0, 1, 10, 11, 12, 13, 16, 17]) [(14, 7, [.slice none 0 0, .slice none 0 0]), (15, 8, [.int .i64 0, .int .i64 0])] [5, 9, 16, 17] (by kernel_rfl) hF hS ⟨⟨⟨_, _, _, rfl, zr35⟩, ⟨⟨_, _, _, rfl, zr42⟩, trivial⟩⟩, by decide, by decide, by decide⟩ (by kernel_rfl) ?_; clear hF; intro hl_ wd hSd
    refine todo_pure hl_ (by kernel_rfl) rfl (gw0 rfl) rfl rfl rfl (fun a w_ hF => r_move (hF.ev rfl)) ?_
    refine todo_pure hl_ (by kernel_rfl) rfl (gw0 rfl) rfl rfl rfl (fun a w_ hF => r_field fo38_0 (hF.ev rfl)) ?_
    refine todo_load [5, 9, 10, 11, 12, 13, 16, 17] hl_ (by kernel_rfl) rfl (gw0 rfl) rfl rfl rfl (fun a w_ hF hB_ => r_load1 sc3 (hF.ev rfl) ((hSd.ext hB_).box (i := 3) rfl rfl)) ?_
    refine todo_pure hl_ (by kernel_rfl) rfl (gw0 rfl) rfl rfl rfl (fun a w_ hF => r_move (hF.ev rfl)) ?_
    refine todo_pure hl_ (by kernel_rfl) rfl (gw0 rfl) rfl rfl rfl (fun a w_ hF => r_field fo38_1 (hF.ev rfl)) ?_
    refine todo_fork [(5, [8, 9, 0, 1, 10, 11, 12, 13, 16, 17]), (8, [5, 9, 0, 1, 10, 11, 12, 13, 16, 17]), (0, [5, 8, 9, 1, 10, 11, 12, 13, 16, 17]), (1, [5, 8, 9, 0, 10, 11, 12, 13, 16, 17])] hl_ rfl (by kernel_rfl) (List.forall_mem_cons.2 ⟨?_, List.forall_mem_cons.2 ⟨?_, List.forall_mem_cons.2 ⟨?_, List.forall_mem_cons.2 ⟨?_, fun _ h_ => nomatch h_⟩⟩⟩⟩)
    ·
      refine op_dw (m' := [9, 16, 17]) (val := fun x : Int => vi x) (R := fun x => 0 ≤ x ∧ (x < c.threads ∨ (c.threads ≤ 0 ∧ x = 0))) rfl rfl (gw0 rfl) rfl rfl rfl rfl (fun a w_ hF => r_call2 en68 (hF.ev rfl) (hF.ev rfl)) (fun M_ w_ hS => l1Below_c hbs (q := 5) _ hS rfl) ?_; intro x27 h27; try clear hSd; try clear wd; intro wd hSd
      refine todo_load [9, 10, 11, 12, 13, 16, 17] hl_ (by kernel_rfl) rfl (gw0 rfl) rfl rfl rfl (fun a w_ hF hB_ => r_load1 sc3 (hF.ev rfl) ((hSd.ext hB_).box (i := 3) rfl rfl)) ?_
      refine todo_fork [(9, [0, 1, 10, 11, 12, 13, 16, 17]), (0, [9, 1, 10, 11, 12, 13, 16, 17]), (1, [9, 0, 10, 11, 12, 13, 16, 17])] hl_ rfl (by kernel_rfl) (List.forall_mem_cons.2 ⟨?_, List.forall_mem_cons.2 ⟨?_, List.forall_mem_cons.2 ⟨?_, fun _ h_ => nomatch h_⟩⟩⟩)
      ·
        refine op_dw (m' := [16, 17]) (val := fun o : Sl.Op => .agg o.enc.toArray) (R := fun o => o.ok) rfl rfl (gw0 rfl) rfl rfl rfl rfl (fun a w_ hF => r_call2 en84 (hF.ev rfl) (hF.ev rfl)) (fun M_ w_ hS => l5Op_c hbs (q := 5) (by omega) hS rfl) ?_; intro o31 h31; try clear hSd; try clear wd; intro wd hSd
        refine todo_load [10, 11, 12, 13, 16, 17] hl_ (by kernel_rfl) rfl (gw0 rfl) rfl rfl rfl (fun a w_ hF hB_ => r_loadn ag38 (hF.ev rfl) ((hSd.ext hB_).box_rd (i := 3) rfl) sz38) ?_
        refine todo_load [10, 11, 12, 13, 16, 17] hl_ (by kernel_rfl) rfl (gw0 rfl) rfl rfl rfl (fun a w_ hF hB_ => r_loadn ag35 (hF.ev rfl) ((hSd.ext hB_).box_rd (i := 0) rfl) sz35) ?_
        refine todo_mk hl_ rfl (by kernel_rfl) rfl rfl rfl rfl rfl (fun a w_ hF => r_call4 en34 (hF.ev rfl) (hF.ev rfl) (hF.ev rfl) (hF.ev rfl)) (fun w_ hS => specApplyModel_c (hS.part_k (i := 1) rfl) (by omega)) ?_; rintro vs32
        refine todo_pure hl_ (by kernel_rfl) rfl (gw0 rfl) rfl rfl rfl (fun a w_ hF => r_move (hF.ev rfl)) ?_
        refine todo_pure hl_ (by kernel_rfl) rfl (gw0 rfl) rfl rfl rfl (fun a w_ hF => r_extract (hF.ev rfl) rfl) ?_
        refine todo_pure hl_ (by kernel_rfl) rfl (gw0 rfl) rfl rfl rfl (fun a w_ hF => r_extract (hF.ev rfl) rfl) ?_
        refine todo_fin hl_ rfl (by kernel_rfl) (tl := [_, _]) rfl ?_; clear hS a; intro a w10 hF hA_
        obtain ⟨g4, g5, hS, he_0, he_1⟩ := hA_.open2 (by decide); clear hA_
        replace hF := hF.more he_0; clear he_0
        replace hF := hF.more he_1; clear he_1
        clear hl_; try clear hSd
        try dsimp only [List.cons_append, List.nil_append, List.set] at hS
        try clear wd
        refine wl_storew hF hS (i := 0) rfl (hF.ev rfl) (hF.ev rfl) sz35 rfl rfl ?_; intro w11 hS_; replace hS := hS_; clear hS_; dsimp only [List.set, Nat.reduceAdd] at hS
        refine wl_storen (cs' := [_, _]) hF hS (i := 1) rfl (hF.ev rfl) (hF.ev rfl) sz42 ⟨rfl, rfl⟩ rfl rfl ?_; intro w12 hS_; replace hS := hS_; clear hS_; dsimp only [List.set] at hS
        refine wl_nil ⟨rfl, ?_⟩
        refine hK8 _ _ ?_
        refine wp_region_lit ?_
        refine wl hF rfl rfl rfl (r_loadn ag35 (hF.ev rfl) (hS.box_rd (i := 0) rfl) sz35) ?_; clear hF a; intro a hF
        refine wl_storew hF hS (i := 3) rfl (hF.ev rfl) (hF.ev rfl) sz35 rfl rfl ?_; intro w13 hS_; replace hS := hS_; clear hS_; dsimp only [List.set, Nat.reduceAdd] at hS
        refine wl_nil ?_
        simp only [Exit.then, Exit.inBlock, ↓reduceIte]
        refine hK7 _ _ ?_
        refine wp_region_lit ?_
        refine wl_mvs (A := [_]) hF rfl ?_; clear hF a; intro a hF
        refine wl hF rfl rfl rfl (r_sub (hF.ev rfl) ec) ?_; clear hF a; intro a hF
        refine wl_mvs (A := [_]) hF rfl ?_; clear hF a; intro a hF
        refine wl_nil ?_
        try simp only [Exit.then, Exit.inBlock, ↓reduceIte]
        refine ⟨(n - 1, (applyModel c m x27 o31).1, vs32), ⟨fun _ => isModel_apply hmo, isModel_size (isModel_apply hmo), by dsimp only; omega⟩, (Sep.headp (A := [_, _, _, _, _, _, _, _]) (B := [_, _, _, _, _]) hS [3, 2, 5, 6, 7] (by decide) rfl rfl), (((((hF.nil.keep hF (t := 5) rfl).keep hF (t := 4) rfl).keep hF (t := 3) rfl).keep hF (t := 0) rfl).keepE hF (t := 6) rfl (congrArg vi (w64_id (by omega) (by omega)))), by dsimp only; omega⟩
      ·
        refine op_ld rfl rfl (gw0 rfl) rfl rfl rfl (fun a w_ hF hS => r_loadn ag38 (hF.ev rfl) (hS.box_rd (i := 3) rfl) sz38) ?_
        refine todo_fork [(9, [1, 10, 11, 12, 13, 16, 17]), (1, [9, 10, 11, 12, 13, 16, 17])] hl_ rfl (by kernel_rfl) (List.forall_mem_cons.2 ⟨?_, List.forall_mem_cons.2 ⟨?_, fun _ h_ => nomatch h_⟩⟩)
        ·
          refine op_dw (m' := [16, 17]) (val := fun o : Sl.Op => .agg o.enc.toArray) (R := fun o => o.ok) rfl rfl (gw0 rfl) rfl rfl rfl rfl (fun a w_ hF => r_call2 en84 (hF.ev rfl) (hF.ev rfl)) (fun M_ w_ hS => l5Op_c hbs (q := 5) (by omega) hS rfl) ?_; intro o31 h31; try clear hSd; try clear wd; intro wd hSd
          refine todo_load [10, 11, 12, 13, 16, 17] hl_ (by kernel_rfl) rfl (gw0 rfl) rfl rfl rfl (fun a w_ hF hB_ => r_loadn ag35 (hF.ev rfl) ((hSd.ext hB_).box_rd (i := 0) rfl) sz35) ?_
          refine todo_mk hl_ rfl (by kernel_rfl) rfl rfl rfl rfl rfl (fun a w_ hF => r_call4 en34 (hF.ev rfl) (hF.ev rfl) (hF.ev rfl) (hF.ev rfl)) (fun w_ hS => specApplyModel_c (hS.part_k (i := 1) rfl) (by omega)) ?_; rintro vs32
          refine todo_pure hl_ (by kernel_rfl) rfl (gw0 rfl) rfl rfl rfl (fun a w_ hF => r_move (hF.ev rfl)) ?_
          refine todo_pure hl_ (by kernel_rfl) rfl (gw0 rfl) rfl rfl rfl (fun a w_ hF => r_extract (hF.ev rfl) rfl) ?_
          refine todo_pure hl_ (by kernel_rfl) rfl (gw0 rfl) rfl rfl rfl (fun a w_ hF => r_extract (hF.ev rfl) rfl) ?_
          refine todo_fin hl_ rfl (by kernel_rfl) (tl := [_, _]) rfl ?_; clear hS a; intro a w14 hF hA_
          obtain ⟨g4, g5, hS, he_0, he_1⟩ := hA_.open2 (by decide); clear hA_
          replace hF := hF.more he_0; clear he_0
          replace hF := hF.more he_1; clear he_1
          clear hl_; try clear hSd
          try dsimp only [List.cons_append, List.nil_append, List.set] at hS
          try clear wd
          refine wl_storew hF hS (i := 0) rfl (hF.ev rfl) (hF.ev rfl) sz35 rfl rfl ?_; intro w15 hS_; replace hS := hS_; clear hS_; dsimp only [List.set, Nat.reduceAdd] at hS
          refine wl_storen (cs' := [_, _]) hF hS (i := 1) rfl (hF.ev rfl) (hF.ev rfl) sz42 ⟨rfl, rfl⟩ rfl rfl ?_; intro w16 hS_; replace hS := hS_; clear hS_; dsimp only [List.set] at hS
          refine wl_nil ⟨rfl, ?_⟩
          refine hK8 _ _ ?_
          refine wp_region_lit ?_
          refine wl hF rfl rfl rfl (r_loadn ag35 (hF.ev rfl) (hS.box_rd (i := 0) rfl) sz35) ?_; clear hF a; intro a hF
          refine wl_storew hF hS (i := 3) rfl (hF.ev rfl) (hF.ev rfl) sz35 rfl rfl ?_; intro w17 hS_; replace hS := hS_; clear hS_; dsimp only [List.set, Nat.reduceAdd] at hS
          refine wl_nil ?_
          simp only [Exit.then, Exit.inBlock, ↓reduceIte]
          refine hK7 _ _ ?_
          refine wp_region_lit ?_
          refine wl_mvs (A := [_]) hF rfl ?_; clear hF a; intro a hF
          refine wl hF rfl rfl rfl (r_sub (hF.ev rfl) ec) ?_; clear hF a; intro a hF
          refine wl_mvs (A := [_]) hF rfl ?_; clear hF a; intro a hF
          refine wl_nil ?_
          try simp only [Exit.then, Exit.inBlock, ↓reduceIte]
          refine ⟨(n - 1, (applyModel c m x27 o31).1, vs32), ⟨fun _ => isModel_apply hmo, isModel_size (isModel_apply hmo), by dsimp only; omega⟩, (Sep.headp (A := [_, _, _, _, _, _, _, _]) (B := [_, _, _, _, _]) hS [3, 2, 5, 6, 7] (by decide) rfl rfl), (((((hF.nil.keep hF (t := 5) rfl).keep hF (t := 4) rfl).keep hF (t := 3) rfl).keep hF (t := 0) rfl).keepE hF (t := 6) rfl (congrArg vi (w64_id (by omega) (by omega)))), by dsimp only; omega⟩
        ·
          refine op_ld rfl rfl (gw0 rfl) rfl rfl rfl (fun a w_ hF hS => r_loadn ag35 (hF.ev rfl) (hS.box_rd (i := 0) rfl) sz35) ?_
          refine todo_fork [(9, [10, 11, 12, 13, 16, 17])] hl_ rfl (by kernel_rfl) (List.forall_mem_cons.2 ⟨?_, fun _ h_ => nomatch h_⟩)
          ·
            refine op_dw (m' := [16, 17]) (val := fun o : Sl.Op => .agg o.enc.toArray) (R := fun o => o.ok) rfl rfl (gw0 rfl) rfl rfl rfl rfl (fun a w_ hF => r_call2 en84 (hF.ev rfl) (hF.ev rfl)) (fun M_ w_ hS => l5Op_c hbs (q := 5) (by omega) hS rfl) ?_; intro o31 h31; try clear hSd; try clear wd; intro wd hSd
            refine todo_mk hl_ rfl (by kernel_rfl) rfl rfl rfl rfl rfl (fun a w_ hF => r_call4 en34 (hF.ev rfl) (hF.ev rfl) (hF.ev rfl) (hF.ev rfl)) (fun w_ hS => specApplyModel_c (hS.part_k (i := 1) rfl) (by omega)) ?_; rintro vs32
            refine todo_pure hl_ (by kernel_rfl) rfl (gw0 rfl) rfl rfl rfl (fun a w_ hF => r_move (hF.ev rfl)) ?_
            refine todo_pure hl_ (by kernel_rfl) rfl (gw0 rfl) rfl rfl rfl (fun a w_ hF => r_extract (hF.ev rfl) rfl) ?_
            refine todo_pure hl_ (by kernel_rfl) rfl (gw0 rfl) rfl rfl rfl (fun a w_ hF => r_extract (hF.ev rfl) rfl) ?_
            refine todo_fin hl_ rfl (by kernel_rfl) (tl := [_, _]) rfl ?_; clear hS a; intro a w18 hF hA_
            obtain ⟨g4, g5, hS, he_0, he_1⟩ := hA_.open2 (by decide); clear hA_
            replace hF := hF.more he_0; clear he_0
            replace hF := hF.more he_1; clear he_1
            clear hl_; try clear hSd
            try dsimp only [List.cons_append, List.nil_append, List.set] at hS
            try clear wd
            refine wl_storew hF hS (i := 0) rfl (hF.ev rfl) (hF.ev rfl) sz35 rfl rfl ?_; intro w19 hS_; replace hS := hS_; clear hS_; dsimp only [List.set, Nat.reduceAdd] at hS
            refine wl_storen (cs' := [_, _]) hF hS (i := 1) rfl (hF.ev rfl) (hF.ev rfl) sz42 ⟨rfl, rfl⟩ rfl rfl ?_; intro w20 hS_; replace hS := hS_; clear hS_; dsimp only [List.set] at hS
            refine wl_nil ⟨rfl, ?_⟩
            refine hK8 _ _ ?_
            refine wp_region_lit ?_
            refine wl hF rfl rfl rfl (r_loadn ag35 (hF.ev rfl) (hS.box_rd (i := 0) rfl) sz35) ?_; clear hF a; intro a hF
            refine wl_storew hF hS (i := 3) rfl (hF.ev rfl) (hF.ev rfl) sz35 rfl rfl ?_; intro w21 hS_; replace hS := hS_; clear hS_; dsimp only [List.set, Nat.reduceAdd] at hS
            refine wl_nil ?_
            simp only [Exit.then, Exit.inBlock, ↓reduceIte]
            refine hK7 _ _ ?_
            refine wp_region_lit ?_
            refine wl_mvs (A := [_]) hF rfl ?_; clear hF a; intro a hF
            refine wl hF rfl rfl rfl (r_sub (hF.ev rfl) ec) ?_; clear hF a; intro a hF
            refine wl_mvs (A := [_]) hF rfl ?_; clear hF a; intro a hF
            refine wl_nil ?_
            try simp only [Exit.then, Exit.inBlock, ↓reduceIte]
            refine ⟨(n - 1, (applyModel c m x27 o31).1, vs32), ⟨fun _ => isModel_apply hmo, isModel_size (isModel_apply hmo), by dsimp only; omega⟩, (Sep.headp (A := [_, _, _, _, _, _, _, _]) (B := [_, _, _, _, _]) hS [3, 2, 5, 6, 7] (by decide) rfl rfl), (((((hF.nil.keep hF (t := 5) rfl).keep hF (t := 4) rfl).keep hF (t := 3) rfl).keep hF (t := 0) rfl).keepE hF (t := 6) rfl (congrArg vi (w64_id (by omega) (by omega)))), by dsimp only; omega⟩
      ·
        refine op_ld rfl rfl (gw0 rfl) rfl rfl rfl (fun a w_ hF hS => r_loadn ag35 (hF.ev rfl) (hS.box_rd (i := 0) rfl) sz35) ?_
        refine todo_fork [(9, [0, 10, 11, 12, 13, 16, 17]), (0, [9, 10, 11, 12, 13, 16, 17])] hl_ rfl (by kernel_rfl) (List.forall_mem_cons.2 ⟨?_, List.forall_mem_cons.2 ⟨?_, fun _ h_ => nomatch h_⟩⟩)
        ·
          refine op_dw (m' := [16, 17]) (val := fun o : Sl.Op => .agg o.enc.toArray) (R := fun o => o.ok) rfl rfl (gw0 rfl) rfl rfl rfl rfl (fun a w_ hF => r_call2 en84 (hF.ev rfl) (hF.ev rfl)) (fun M_ w_ hS => l5Op_c hbs (q := 5) (by omega) hS rfl) ?_; intro o31 h31; try clear hSd; try clear wd; intro wd hSd
          refine todo_load [10, 11, 12, 13, 16, 17] hl_ (by kernel_rfl) rfl (gw0 rfl) rfl rfl rfl (fun a w_ hF hB_ => r_loadn ag38 (hF.ev rfl) ((hSd.ext hB_).box_rd (i := 3) rfl) sz38) ?_
          refine todo_mk hl_ rfl (by kernel_rfl) rfl rfl rfl rfl rfl (fun a w_ hF => r_call4 en34 (hF.ev rfl) (hF.ev rfl) (hF.ev rfl) (hF.ev rfl)) (fun w_ hS => specApplyModel_c (hS.part_k (i := 1) rfl) (by omega)) ?_; rintro vs32
          refine todo_pure hl_ (by kernel_rfl) rfl (gw0 rfl) rfl rfl rfl (fun a w_ hF => r_move (hF.ev rfl)) ?_
          refine todo_pure hl_ (by kernel_rfl) rfl (gw0 rfl) rfl rfl rfl (fun a w_ hF => r_extract (hF.ev rfl) rfl) ?_
          refine todo_pure hl_ (by kernel_rfl) rfl (gw0 rfl) rfl rfl rfl (fun a w_ hF => r_extract (hF.ev rfl) rfl) ?_
          refine todo_fin hl_ rfl (by kernel_rfl) (tl := [_, _]) rfl ?_; clear hS a; intro a w22 hF hA_
          obtain ⟨g4, g5, hS, he_0, he_1⟩ := hA_.open2 (by decide); clear hA_
          replace hF := hF.more he_0; clear he_0
          replace hF := hF.more he_1; clear he_1
          clear hl_; try clear hSd
          try dsimp only [List.cons_append, List.nil_append, List.set] at hS
          try clear wd
          refine wl_storew hF hS (i := 0) rfl (hF.ev rfl) (hF.ev rfl) sz35 rfl rfl ?_; intro w23 hS_; replace hS := hS_; clear hS_; dsimp only [List.set, Nat.reduceAdd] at hS
          refine wl_storen (cs' := [_, _]) hF hS (i := 1) rfl (hF.ev rfl) (hF.ev rfl) sz42 ⟨rfl, rfl⟩ rfl rfl ?_; intro w24 hS_; replace hS := hS_; clear hS_; dsimp only [List.set] at hS
          refine wl_nil ⟨rfl, ?_⟩
          refine hK8 _ _ ?_
          refine wp_region_lit ?_
          refine wl hF rfl rfl rfl (r_loadn ag35 (hF.ev rfl) (hS.box_rd (i := 0) rfl) sz35) ?_; clear hF a; intro a hF
          refine wl_storew hF hS (i := 3) rfl (hF.ev rfl) (hF.ev rfl) sz35 rfl rfl ?_; intro w25 hS_; replace hS := hS_; clear hS_; dsimp only [List.set, Nat.reduceAdd] at hS
          refine wl_nil ?_
          simp only [Exit.then, Exit.inBlock, ↓reduceIte]
          refine hK7 _ _ ?_
          refine wp_region_lit ?_
          refine wl_mvs (A := [_]) hF rfl ?_; clear hF a; intro a hF
          refine wl hF rfl rfl rfl (r_sub (hF.ev rfl) ec) ?_; clear hF a; intro a hF
          refine wl_mvs (A := [_]) hF rfl ?_; clear hF a; intro a hF
          refine wl_nil ?_
          try simp only [Exit.then, Exit.inBlock, ↓reduceIte]
          refine ⟨(n - 1, (applyModel c m x27 o31).1, vs32), ⟨fun _ => isModel_apply hmo, isModel_size (isModel_apply hmo), by dsimp only; omega⟩, (Sep.headp (A := [_, _, _, _, _, _, _, _]) (B := [_, _, _, _, _]) hS [3, 2, 5, 6, 7] (by decide) rfl rfl), (((((hF.nil.keep hF (t := 5) rfl).keep hF (t := 4) rfl).keep hF (t := 3) rfl).keep hF (t := 0) rfl).keepE hF (t := 6) rfl (congrArg vi (w64_id (by omega) (by omega)))), by dsimp only; omega⟩
        ·
          refine op_ld rfl rfl (gw0 rfl) rfl rfl rfl (fun a w_ hF hS => r_loadn ag38 (hF.ev rfl) (hS.box_rd (i := 3) rfl) sz38) ?_
          refine todo_fork [(9, [10, 11, 12, 13, 16, 17])] hl_ rfl (by kernel_rfl) (List.forall_mem_cons.2 ⟨?_, fun _ h_ => nomatch h_⟩)
          ·
            refine op_dw (m' := [16, 17]) (val := fun o : Sl.Op => .agg o.enc.toArray) (R := fun o => o.ok) rfl rfl (gw0 rfl) rfl rfl rfl rfl (fun a w_ hF => r_call2 en84 (hF.ev rfl) (hF.ev rfl)) (fun M_ w_ hS => l5Op_c hbs (q := 5) (by omega) hS rfl) ?_; intro o31 h31; try clear hSd; try clear wd; intro wd hSd
            refine todo_mk hl_ rfl (by kernel_rfl) rfl rfl rfl rfl rfl (fun a w_ hF => r_call4 en34 (hF.ev rfl) (hF.ev rfl) (hF.ev rfl) (hF.ev rfl)) (fun w_ hS => specApplyModel_c (hS.part_k (i := 1) rfl) (by omega)) ?_; rintro vs32
            refine todo_pure hl_ (by kernel_rfl) rfl (gw0 rfl) rfl rfl rfl (fun a w_ hF => r_move (hF.ev rfl)) ?_
            refine todo_pure hl_ (by kernel_rfl) rfl (gw0 rfl) rfl rfl rfl (fun a w_ hF => r_extract (hF.ev rfl) rfl) ?_
            refine todo_pure hl_ (by kernel_rfl) rfl (gw0 rfl) rfl rfl rfl (fun a w_ hF => r_extract (hF.ev rfl) rfl) ?_
            refine todo_fin hl_ rfl (by kernel_rfl) (tl := [_, _]) rfl ?_; clear hS a; intro a w26 hF hA_
            obtain ⟨g4, g5, hS, he_0, he_1⟩ := hA_.open2 (by decide); clear hA_
            replace hF := hF.more he_0; clear he_0
            replace hF := hF.more he_1; clear he_1
            clear hl_; try clear hSd
            try dsimp only [List.cons_append, List.nil_append, List.set] at hS
            try clear wd
            refine wl_storew hF hS (i := 0) rfl (hF.ev rfl) (hF.ev rfl) sz35 rfl rfl ?_; intro w27 hS_; replace hS := hS_; clear hS_; dsimp only [List.set, Nat.reduceAdd] at hS
            refine wl_storen (cs' := [_, _]) hF hS (i := 1) rfl (hF.ev rfl) (hF.ev rfl) sz42 ⟨rfl, rfl⟩ rfl rfl ?_; intro w28 hS_; replace hS := hS_; clear hS_; dsimp only [List.set] at hS
            refine wl_nil ⟨rfl, ?_⟩
            refine hK8 _ _ ?_
            refine wp_region_lit ?_
            refine wl hF rfl rfl rfl (r_loadn ag35 (hF.ev rfl) (hS.box_rd (i := 0) rfl) sz35) ?_; clear hF a; intro a hF
            refine wl_storew hF hS (i := 3) rfl (hF.ev rfl) (hF.ev rfl) sz35 rfl rfl ?_; intro w29 hS_; replace hS := hS_; clear hS_; dsimp only [List.set, Nat.reduceAdd] at hS
            refine wl_nil ?_
            simp only [Exit.then, Exit.inBlock, ↓reduceIte]
            refine hK7 _ _ ?_
            refine wp_region_lit ?_
            refine wl_mvs (A := [_]) hF rfl ?_; clear hF a; intro a hF
            refine wl hF rfl rfl rfl (r_sub (hF.ev rfl) ec) ?_; clear hF a; intro a hF
            refine wl_mvs (A := [_]) hF rfl ?_; clear hF a; intro a hF
            refine wl_nil ?_
            try simp only [Exit.then, Exit.inBlock, ↓reduceIte]
            refine ⟨(n - 1, (applyModel c m x27 o31).1, vs32), ⟨fun _ => isModel_apply hmo, isModel_size (isModel_apply hmo), by dsimp only; omega⟩, (Sep.headp (A := [_, _, _, _, _, _, _, _]) (B := [_, _, _, _, _]) hS [3, 2, 5, 6, 7] (by decide) rfl rfl), (((((hF.nil.keep hF (t := 5) rfl).keep hF (t := 4) rfl).keep hF (t := 3) rfl).keep hF (t := 0) rfl).keepE hF (t := 6) rfl (congrArg vi (w64_id (by omega) (by omega)))), by dsimp only; omega⟩
    ·
      refine op_ld rfl rfl (gw0 rfl) rfl rfl rfl (fun a w_ hF hS => r_load1 sc3 (hF.ev rfl) (hS.box (i := 3) rfl rfl)) ?_
      refine todo_fork [(5, [9, 0, 1, 10, 11, 12, 13, 16, 17]), (0, [5, 9, 1, 10, 11, 12, 13, 16, 17]), (1, [5, 9, 0, 10, 11, 12, 13, 16, 17])] hl_ rfl (by kernel_rfl) (List.forall_mem_cons.2 ⟨?_, List.forall_mem_cons.2 ⟨?_, List.forall_mem_cons.2 ⟨?_, fun _ h_ => nomatch h_⟩⟩⟩)
      ·
        refine op_dw (m' := [9, 16, 17]) (val := fun x : Int => vi x) (R := fun x => 0 ≤ x ∧ (x < c.threads ∨ (c.threads ≤ 0 ∧ x = 0))) rfl rfl (gw0 rfl) rfl rfl rfl rfl (fun a w_ hF => r_call2 en68 (hF.ev rfl) (hF.ev rfl)) (fun M_ w_ hS => l1Below_c hbs (q := 5) _ hS rfl) ?_; intro x27 h27; try clear hSd; try clear wd; intro wd hSd
        refine todo_fork [(9, [0, 1, 10, 11, 12, 13, 16, 17]), (0, [9, 1, 10, 11, 12, 13, 16, 17]), (1, [9, 0, 10, 11, 12, 13, 16, 17])] hl_ rfl (by kernel_rfl) (List.forall_mem_cons.2 ⟨?_, List.forall_mem_cons.2 ⟨?_, List.forall_mem_cons.2 ⟨?_, fun _ h_ => nomatch h_⟩⟩⟩)
        ·
          refine op_dw (m' := [16, 17]) (val := fun o : Sl.Op => .agg o.enc.toArray) (R := fun o => o.ok) rfl rfl (gw0 rfl) rfl rfl rfl rfl (fun a w_ hF => r_call2 en84 (hF.ev rfl) (hF.ev rfl)) (fun M_ w_ hS => l5Op_c hbs (q := 5) (by omega) hS rfl) ?_; intro o31 h31; try clear hSd; try clear wd; intro wd hSd
          refine todo_load [10, 11, 12, 13, 16, 17] hl_ (by kernel_rfl) rfl (gw0 rfl) rfl rfl rfl (fun a w_ hF hB_ => r_loadn ag38 (hF.ev rfl) ((hSd.ext hB_).box_rd (i := 3) rfl) sz38) ?_
          refine todo_load [10, 11, 12, 13, 16, 17] hl_ (by kernel_rfl) rfl (gw0 rfl) rfl rfl rfl (fun a w_ hF hB_ => r_loadn ag35 (hF.ev rfl) ((hSd.ext hB_).box_rd (i := 0) rfl) sz35) ?_
          refine todo_mk hl_ rfl (by kernel_rfl) rfl rfl rfl rfl rfl (fun a w_ hF => r_call4 en34 (hF.ev rfl) (hF.ev rfl) (hF.ev rfl) (hF.ev rfl)) (fun w_ hS => specApplyModel_c (hS.part_k (i := 1) rfl) (by omega)) ?_; rintro vs32
          refine todo_pure hl_ (by kernel_rfl) rfl (gw0 rfl) rfl rfl rfl (fun a w_ hF => r_move (hF.ev rfl)) ?_
          refine todo_pure hl_ (by kernel_rfl) rfl (gw0 rfl) rfl rfl rfl (fun a w_ hF => r_extract (hF.ev rfl) rfl) ?_
          refine todo_pure hl_ (by kernel_rfl) rfl (gw0 rfl) rfl rfl rfl (fun a w_ hF => r_extract (hF.ev rfl) rfl) ?_
          refine todo_fin hl_ rfl (by kernel_rfl) (tl := [_, _]) rfl ?_; clear hS a; intro a w30 hF hA_
          obtain ⟨g4, g5, hS, he_0, he_1⟩ := hA_.open2 (by decide); clear hA_
          replace hF := hF.more he_0; clear he_0
          replace hF := hF.more he_1; clear he_1
          clear hl_; try clear hSd
          try dsimp only [List.cons_append, List.nil_append, List.set] at hS
          try clear wd
          refine wl_storew hF hS (i := 0) rfl (hF.ev rfl) (hF.ev rfl) sz35 rfl rfl ?_; intro w31 hS_; replace hS := hS_; clear hS_; dsimp only [List.set, Nat.reduceAdd] at hS
          refine wl_storen (cs' := [_, _]) hF hS (i := 1) rfl (hF.ev rfl) (hF.ev rfl) sz42 ⟨rfl, rfl⟩ rfl rfl ?_; intro w32 hS_; replace hS := hS_; clear hS_; dsimp only [List.set] at hS
          refine wl_nil ⟨rfl, ?_⟩
          refine hK8 _ _ ?_
          refine wp_region_lit ?_
          refine wl hF rfl rfl rfl (r_loadn ag35 (hF.ev rfl) (hS.box_rd (i := 0) rfl) sz35) ?_; clear hF a; intro a hF
          refine wl_storew hF hS (i := 3) rfl (hF.ev rfl) (hF.ev rfl) sz35 rfl rfl ?_; intro w33 hS_; replace hS := hS_; clear hS_; dsimp only [List.set, Nat.reduceAdd] at hS
          refine wl_nil ?_
          simp only [Exit.then, Exit.inBlock, ↓reduceIte]
          refine hK7 _ _ ?_
          refine wp_region_lit ?_
          refine wl_mvs (A := [_]) hF rfl ?_; clear hF a; intro a hF
          refine wl hF rfl rfl rfl (r_sub (hF.ev rfl) ec) ?_; clear hF a; intro a hF
          refine wl_mvs (A := [_]) hF rfl ?_; clear hF a; intro a hF
          refine wl_nil ?_
          try simp only [Exit.then, Exit.inBlock, ↓reduceIte]
          refine ⟨(n - 1, (applyModel c m x27 o31).1, vs32), ⟨fun _ => isModel_apply hmo, isModel_size (isModel_apply hmo), by dsimp only; omega⟩, (Sep.headp (A := [_, _, _, _, _, _, _, _]) (B := [_, _, _, _, _]) hS [3, 2, 5, 6, 7] (by decide) rfl rfl), (((((hF.nil.keep hF (t := 5) rfl).keep hF (t := 4) rfl).keep hF (t := 3) rfl).keep hF (t := 0) rfl).keepE hF (t := 6) rfl (congrArg vi (w64_id (by omega) (by omega)))), by dsimp only; omega⟩
        ·
          refine op_ld rfl rfl (gw0 rfl) rfl rfl rfl (fun a w_ hF hS => r_loadn ag38 (hF.ev rfl) (hS.box_rd (i := 3) rfl) sz38) ?_
          refine todo_fork [(9, [1, 10, 11, 12, 13, 16, 17]), (1, [9, 10, 11, 12, 13, 16, 17])] hl_ rfl (by kernel_rfl) (List.forall_mem_cons.2 ⟨?_, List.forall_mem_cons.2 ⟨?_, fun _ h_ => nomatch h_⟩⟩)
          ·
            refine op_dw (m' := [16, 17]) (val := fun o : Sl.Op => .agg o.enc.toArray) (R := fun o => o.ok) rfl rfl (gw0 rfl) rfl rfl rfl rfl (fun a w_ hF => r_call2 en84 (hF.ev rfl) (hF.ev rfl)) (fun M_ w_ hS => l5Op_c hbs (q := 5) (by omega) hS rfl) ?_; intro o31 h31; try clear hSd; try clear wd; intro wd hSd
            refine todo_load [10, 11, 12, 13, 16, 17] hl_ (by kernel_rfl) rfl (gw0 rfl) rfl rfl rfl (fun a w_ hF hB_ => r_loadn ag35 (hF.ev rfl) ((hSd.ext hB_).box_rd (i := 0) rfl) sz35) ?_
            refine todo_mk hl_ rfl (by kernel_rfl) rfl rfl rfl rfl rfl (fun a w_ hF => r_call4 en34 (hF.ev rfl) (hF.ev rfl) (hF.ev rfl) (hF.ev rfl)) (fun w_ hS => specApplyModel_c (hS.part_k (i := 1) rfl) (by omega)) ?_; rintro vs32
            refine todo_pure hl_ (by kernel_rfl) rfl (gw0 rfl) rfl rfl rfl (fun a w_ hF => r_move (hF.ev rfl)) ?_
            refine todo_pure hl_ (by kernel_rfl) rfl (gw0 rfl) rfl rfl rfl (fun a w_ hF => r_extract (hF.ev rfl) rfl) ?_
            refine todo_pure hl_ (by kernel_rfl) rfl (gw0 rfl) rfl rfl rfl (fun a w_ hF => r_extract (hF.ev rfl) rfl) ?_
            refine todo_fin hl_ rfl (by kernel_rfl) (tl := [_, _]) rfl ?_; clear hS a; intro a w34 hF hA_
            obtain ⟨g4, g5, hS, he_0, he_1⟩ := hA_.open2 (by decide); clear hA_
            replace hF := hF.more he_0; clear he_0
            replace hF := hF.more he_1; clear he_1
            clear hl_; try clear hSd
            try dsimp only [List.cons_append, List.nil_append, List.set] at hS
            try clear wd
            refine wl_storew hF hS (i := 0) rfl (hF.ev rfl) (hF.ev rfl) sz35 rfl rfl ?_; intro w35 hS_; replace hS := hS_; clear hS_; dsimp only [List.set, Nat.reduceAdd] at hS
            refine wl_storen (cs' := [_, _]) hF hS (i := 1) rfl (hF.ev rfl) (hF.ev rfl) sz42 ⟨rfl, rfl⟩ rfl rfl ?_; intro w36 hS_; replace hS := hS_; clear hS_; dsimp only [List.set] at hS
            refine wl_nil ⟨rfl, ?_⟩
            refine hK8 _ _ ?_
            refine wp_region_lit ?_
            refine wl hF rfl rfl rfl (r_loadn ag35 (hF.ev rfl) (hS.box_rd (i := 0) rfl) sz35) ?_; clear hF a; intro a hF
            refine wl_storew hF hS (i := 3) rfl (hF.ev rfl) (hF.ev rfl) sz35 rfl rfl ?_; intro w37 hS_; replace hS := hS_; clear hS_; dsimp only [List.set, Nat.reduceAdd] at hS
            refine wl_nil ?_
            simp only [Exit.then, Exit.inBlock, ↓reduceIte]
            refine hK7 _ _ ?_
            refine wp_region_lit ?_
            refine wl_mvs (A := [_]) hF rfl ?_; clear hF a; intro a hF
            refine wl hF rfl rfl rfl (r_sub (hF.ev rfl) ec) ?_; clear hF a; intro a hF
            refine wl_mvs (A := [_]) hF rfl ?_; clear hF a; intro a hF
            refine wl_nil ?_
            try simp only [Exit.then, Exit.inBlock, ↓reduceIte]
            refine ⟨(n - 1, (applyModel c m x27 o31).1, vs32), ⟨fun _ => isModel_apply hmo, isModel_size (isModel_apply hmo), by dsimp only; omega⟩, (Sep.headp (A := [_, _, _, _, _, _, _, _]) (B := [_, _, _, _, _]) hS [3, 2, 5, 6, 7] (by decide) rfl rfl), (((((hF.nil.keep hF (t := 5) rfl).keep hF (t := 4) rfl).keep hF (t := 3) rfl).keep hF (t := 0) rfl).keepE hF (t := 6) rfl (congrArg vi (w64_id (by omega) (by omega)))), by dsimp only; omega⟩
          ·
            refine op_ld rfl rfl (gw0 rfl) rfl rfl rfl (fun a w_ hF hS => r_loadn ag35 (hF.ev rfl) (hS.box_rd (i := 0) rfl) sz35) ?_
            refine todo_fork [(9, [10, 11, 12, 13, 16, 17])] hl_ rfl (by kernel_rfl) (List.forall_mem_cons.2 ⟨?_, fun _ h_ => nomatch h_⟩)
            ·
              refine op_dw (m' := [16, 17]) (val := fun o : Sl.Op => .agg o.enc.toArray) (R := fun o => o.ok) rfl rfl (gw0 rfl) rfl rfl rfl rfl (fun a w_ hF => r_call2 en84 (hF.ev rfl) (hF.ev rfl)) (fun M_ w_ hS => l5Op_c hbs (q := 5) (by omega) hS rfl) ?_; intro o31 h31; try clear hSd; try clear wd; intro wd hSd
              refine todo_mk hl_ rfl (by kernel_rfl) rfl rfl rfl rfl rfl (fun a w_ hF => r_call4 en34 (hF.ev rfl) (hF.ev rfl) (hF.ev rfl) (hF.ev rfl)) (fun w_ hS => specApplyModel_c (hS.part_k (i := 1) rfl) (by omega)) ?_; rintro vs32
              refine todo_pure hl_ (by kernel_rfl) rfl (gw0 rfl) rfl rfl rfl (fun a w_ hF => r_move (hF.ev rfl)) ?_
              refine todo_pure hl_ (by kernel_rfl) rfl (gw0 rfl) rfl rfl rfl (fun a w_ hF => r_extract (hF.ev rfl) rfl) ?_
              refine todo_pure hl_ (by kernel_rfl) rfl (gw0 rfl) rfl rfl rfl (fun a w_ hF => r_extract (hF.ev rfl) rfl) ?_
              refine todo_fin hl_ rfl (by kernel_rfl) (tl := [_, _]) rfl ?_; clear hS a; intro a w38 hF hA_
              obtain ⟨g4, g5, hS, he_0, he_1⟩ := hA_.open2 (by decide); clear hA_
              replace hF := hF.more he_0; clear he_0
              replace hF := hF.more he_1; clear he_1
              clear hl_; try clear hSd
              try dsimp only [List.cons_append, List.nil_append, List.set] at hS
              try clear wd
              refine wl_storew hF hS (i := 0) rfl (hF.ev rfl) (hF.ev rfl) sz35 rfl rfl ?_; intro w39 hS_; replace hS := hS_; clear hS_; dsimp only [List.set, Nat.reduceAdd] at hS
              refine wl_storen (cs' := [_, _]) hF hS (i := 1) rfl (hF.ev rfl) (hF.ev rfl) sz42 ⟨rfl, rfl⟩ rfl rfl ?_; intro w40 hS_; replace hS := hS_; clear hS_; dsimp only [List.set] at hS
              refine wl_nil ⟨rfl, ?_⟩
              refine hK8 _ _ ?_
              refine wp_region_lit ?_
              refine wl hF rfl rfl rfl (r_loadn ag35 (hF.ev rfl) (hS.box_rd (i := 0) rfl) sz35) ?_; clear hF a; intro a hF
              refine wl_storew hF hS (i := 3) rfl (hF.ev rfl) (hF.ev rfl) sz35 rfl rfl ?_; intro w41 hS_; replace hS := hS_; clear hS_; dsimp only [List.set, Nat.reduceAdd] at hS
              refine wl_nil ?_
              simp only [Exit.then, Exit.inBlock, ↓reduceIte]
              refine hK7 _ _ ?_
              refine wp_region_lit ?_
              refine wl_mvs (A := [_]) hF rfl ?_; clear hF a; intro a hF
              refine wl hF rfl rfl rfl (r_sub (hF.ev rfl) ec) ?_; clear hF a; intro a hF
              refine wl_mvs (A := [_]) hF rfl ?_; clear hF a; intro a hF
              refine wl_nil ?_
              try simp only [Exit.then, Exit.inBlock, ↓reduceIte]
              refine ⟨(n - 1, (applyModel c m x27 o31).1, vs32), ⟨fun _ => isModel_apply hmo, isModel_size (isModel_apply hmo), by dsimp only; omega⟩, (Sep.headp (A := [_, _, _, _, _, _, _, _]) (B := [_, _, _, _, _]) hS [3, 2, 5, 6, 7] (by decide) rfl rfl), (((((hF.nil.keep hF (t := 5) rfl).keep hF (t := 4) rfl).keep hF (t := 3) rfl).keep hF (t := 0) rfl).keepE hF (t := 6) rfl (congrArg vi (w64_id (by omega) (by omega)))), by dsimp only; omega⟩
        ·
          refine op_ld rfl rfl (gw0 rfl) rfl rfl rfl (fun a w_ hF hS => r_loadn ag35 (hF.ev rfl) (hS.box_rd (i := 0) rfl) sz35) ?_
          refine todo_fork [(9, [0, 10, 11, 12, 13, 16, 17]), (0, [9, 10, 11, 12, 13, 16, 17])] hl_ rfl (by kernel_rfl) (List.forall_mem_cons.2 ⟨?_, List.forall_mem_cons.2 ⟨?_, fun _ h_ => nomatch h_⟩⟩)
          ·
            refine op_dw (m' := [16, 17]) (val := fun o : Sl.Op => .agg o.enc.toArray) (R := fun o => o.ok) rfl rfl (gw0 rfl) rfl rfl rfl rfl (fun a w_ hF => r_call2 en84 (hF.ev rfl) (hF.ev rfl)) (fun M_ w_ hS => l5Op_c hbs (q := 5) (by omega) hS rfl) ?_; intro o31 h31; try clear hSd; try clear wd; intro wd hSd
            refine todo_load [10, 11, 12, 13, 16, 17] hl_ (by kernel_rfl) rfl (gw0 rfl) rfl rfl rfl (fun a w_ hF hB_ => r_loadn ag38 (hF.ev rfl) ((hSd.ext hB_).box_rd (i := 3) rfl) sz38) ?_
            refine todo_mk hl_ rfl (by kernel_rfl) rfl rfl rfl rfl rfl (fun a w_ hF => r_call4 en34 (hF.ev rfl) (hF.ev rfl) (hF.ev rfl) (hF.ev rfl)) (fun w_ hS => specApplyModel_c (hS.part_k (i := 1) rfl) (by omega)) ?_; rintro vs32
            refine todo_pure hl_ (by kernel_rfl) rfl (gw0 rfl) rfl rfl rfl (fun a w_ hF => r_move (hF.ev rfl)) ?_
            refine todo_pure hl_ (by kernel_rfl) rfl (gw0 rfl) rfl rfl rfl (fun a w_ hF => r_extract (hF.ev rfl) rfl) ?_
            refine todo_pure hl_ (by kernel_rfl) rfl (gw0 rfl) rfl rfl rfl (fun a w_ hF => r_extract (hF.ev rfl) rfl) ?_
            refine todo_fin hl_ rfl (by kernel_rfl) (tl := [_, _]) rfl ?_; clear hS a; intro a w42 hF hA_
            obtain ⟨g4, g5, hS, he_0, he_1⟩ := hA_.open2 (by decide); clear hA_
            replace hF := hF.more he_0; clear he_0
            replace hF := hF.more he_1; clear he_1
            clear hl_; try clear hSd
            try dsimp only [List.cons_append, List.nil_append, List.set] at hS
            try clear wd
            refine wl_storew hF hS (i := 0) rfl (hF.ev rfl) (hF.ev rfl) sz35 rfl rfl ?_; intro w43 hS_; replace hS := hS_; clear hS_; dsimp only [List.set, Nat.reduceAdd] at hS
            refine wl_storen (cs' := [_, _]) hF hS (i := 1) rfl (hF.ev rfl) (hF.ev rfl) sz42 ⟨rfl, rfl⟩ rfl rfl ?_; intro w44 hS_; replace hS := hS_; clear hS_; dsimp only [List.set] at hS
            refine wl_nil ⟨rfl, ?_⟩
            refine hK8 _ _ ?_
            refine wp_region_lit ?_
            refine wl hF rfl rfl rfl (r_loadn ag35 (hF.ev rfl) (hS.box_rd (i := 0) rfl) sz35) ?_; clear hF a; intro a hF
            refine wl_storew hF hS (i := 3) rfl (hF.ev rfl) (hF.ev rfl) sz35 rfl rfl ?_; intro w45 hS_; replace hS := hS_; clear hS_; dsimp only [List.set, Nat.reduceAdd] at hS
            refine wl_nil ?_
            simp only [Exit.then, Exit.inBlock, ↓reduceIte]
            refine hK7 _ _ ?_
            refine wp_region_lit ?_
            refine wl_mvs (A := [_]) hF rfl ?_; clear hF a; intro a hF
            refine wl hF rfl rfl rfl (r_sub (hF.ev rfl) ec) ?_; clear hF a; intro a hF
            refine wl_mvs (A := [_]) hF rfl ?_; clear hF a; intro a hF
            refine wl_nil ?_
            try simp only [Exit.then, Exit.inBlock, ↓reduceIte]
            refine ⟨(n - 1, (applyModel c m x27 o31).1, vs32), ⟨fun _ => isModel_apply hmo, isModel_size (isModel_apply hmo), by dsimp only; omega⟩, (Sep.headp (A := [_, _, _, _, _, _, _, _]) (B := [_, _, _, _, _]) hS [3, 2, 5, 6, 7] (by decide) rfl rfl), (((((hF.nil.keep hF (t := 5) rfl).keep hF (t := 4) rfl).keep hF (t := 3) rfl).keep hF (t := 0) rfl).keepE hF (t := 6) rfl (congrArg vi (w64_id (by omega) (by omega)))), by dsimp only; omega⟩
          ·
            refine op_ld rfl rfl (gw0 rfl) rfl rfl rfl (fun a w_ hF hS => r_loadn ag38 (hF.ev rfl) (hS.box_rd (i := 3) rfl) sz38) ?_
            refine todo_fork [(9, [10, 11, 12, 13, 16, 17])] hl_ rfl (by kernel_rfl) (List.forall_mem_cons.2 ⟨?_, fun _ h_ => nomatch h_⟩)
            ·
              refine op_dw (m' := [16, 17]) (val := fun o : Sl.Op => .agg o.enc.toArray) (R := fun o => o.ok) rfl rfl (gw0 rfl) rfl rfl rfl rfl (fun a w_ hF => r_call2 en84 (hF.ev rfl) (hF.ev rfl)) (fun M_ w_ hS => l5Op_c hbs (q := 5) (by omega) hS rfl) ?_; intro o31 h31; try clear hSd; try clear wd; intro wd hSd
              refine todo_mk hl_ rfl (by kernel_rfl) rfl rfl rfl rfl rfl (fun a w_ hF => r_call4 en34 (hF.ev rfl) (hF.ev rfl) (hF.ev rfl) (hF.ev rfl)) (fun w_ hS => specApplyModel_c (hS.part_k (i := 1) rfl) (by omega)) ?_; rintro vs32
              refine todo_pure hl_ (by kernel_rfl) rfl (gw0 rfl) rfl rfl rfl (fun a w_ hF => r_move (hF.ev rfl)) ?_
              refine todo_pure hl_ (by kernel_rfl) rfl (gw0 rfl) rfl rfl rfl (fun a w_ hF => r_extract (hF.ev rfl) rfl) ?_
              refine todo_pure hl_ (by kernel_rfl) rfl (gw0 rfl) rfl rfl rfl (fun a w_ hF => r_extract (hF.ev rfl) rfl) ?_
              refine todo_fin hl_ rfl (by kernel_rfl) (tl := [_, _]) rfl ?_; clear hS a; intro a w46 hF hA_
              obtain ⟨g4, g5, hS, he_0, he_1⟩ := hA_.open2 (by decide); clear hA_
              replace hF := hF.more he_0; clear he_0
              replace hF := hF.more he_1; clear he_1
              clear hl_; try clear hSd
              try dsimp only [List.cons_append, List.nil_append, List.set] at hS
              try clear wd
              refine wl_storew hF hS (i := 0) rfl (hF.ev rfl) (hF.ev rfl) sz35 rfl rfl ?_; intro w47 hS_; replace hS := hS_; clear hS_; dsimp only [List.set, Nat.reduceAdd] at hS
              refine wl_storen (cs' := [_, _]) hF hS (i := 1) rfl (hF.ev rfl) (hF.ev rfl) sz42 ⟨rfl, rfl⟩ rfl rfl ?_; intro w48 hS_; replace hS := hS_; clear hS_; dsimp only [List.set] at hS
              refine wl_nil ⟨rfl, ?_⟩
              refine hK8 _ _ ?_
              refine wp_region_lit ?_
              refine wl hF rfl rfl rfl (r_loadn ag35 (hF.ev rfl) (hS.box_rd (i := 0) rfl) sz35) ?_; clear hF a; intro a hF
              refine wl_storew hF hS (i := 3) rfl (hF.ev rfl) (hF.ev rfl) sz35 rfl rfl ?_; intro w49 hS_; replace hS := hS_; clear hS_; dsimp only [List.set, Nat.reduceAdd] at hS
              refine wl_nil ?_
              simp only [Exit.then, Exit.inBlock, ↓reduceIte]
              refine hK7 _ _ ?_
              refine wp_region_lit ?_
              refine wl_mvs (A := [_]) hF rfl ?_; clear hF a; intro a hF
              refine wl hF rfl rfl rfl (r_sub (hF.ev rfl) ec) ?_; clear hF a; intro a hF
              refine wl_mvs (A := [_]) hF rfl ?_; clear hF a; intro a hF
              refine wl_nil ?_
              try simp only [Exit.then, Exit.inBlock, ↓reduceIte]
              refine ⟨(n - 1, (applyModel c m x27 o31).1, vs32), ⟨fun _ => isModel_apply hmo, isModel_size (isModel_apply hmo), by dsimp only; omega⟩, (Sep.headp (A := [_, _, _, _, _, _, _, _]) (B := [_, _, _, _, _]) hS [3, 2, 5, 6, 7] (by decide) rfl rfl), (((((hF.nil.keep hF (t := 5) rfl).keep hF (t := 4) rfl).keep hF (t := 3) rfl).keep hF (t := 0) rfl).keepE hF (t := 6) rfl (congrArg vi (w64_id (by omega) (by omega)))), by dsimp only; omega⟩
      ·
        refine op_ld rfl rfl (gw0 rfl) rfl rfl rfl (fun a w_ hF hS => r_loadn ag38 (hF.ev rfl) (hS.box_rd (i := 3) rfl) sz38) ?_
        refine todo_fork [(5, [9, 1, 10, 11, 12, 13, 16, 17]), (1, [5, 9, 10, 11, 12, 13, 16, 17])] hl_ rfl (by kernel_rfl) (List.forall_mem_cons.2 ⟨?_, List.forall_mem_cons.2 ⟨?_, fun _ h_ => nomatch h_⟩⟩)
        ·
          refine op_dw (m' := [9, 16, 17]) (val := fun x : Int => vi x) (R := fun x => 0 ≤ x ∧ (x < c.threads ∨ (c.threads ≤ 0 ∧ x = 0))) rfl rfl (gw0 rfl) rfl rfl rfl rfl (fun a w_ hF => r_call2 en68 (hF.ev rfl) (hF.ev rfl)) (fun M_ w_ hS => l1Below_c hbs (q := 5) _ hS rfl) ?_; intro x27 h27; try clear hSd; try clear wd; intro wd hSd
          refine todo_fork [(9, [1, 10, 11, 12, 13, 16, 17]), (1, [9, 10, 11, 12, 13, 16, 17])] hl_ rfl (by kernel_rfl) (List.forall_mem_cons.2 ⟨?_, List.forall_mem_cons.2 ⟨?_, fun _ h_ => nomatch h_⟩⟩)
          ·
            refine op_dw (m' := [16, 17]) (val := fun o : Sl.Op => .agg o.enc.toArray) (R := fun o => o.ok) rfl rfl (gw0 rfl) rfl rfl rfl rfl (fun a w_ hF => r_call2 en84 (hF.ev rfl) (hF.ev rfl)) (fun M_ w_ hS => l5Op_c hbs (q := 5) (by omega) hS rfl) ?_; intro o31 h31; try clear hSd; try clear wd; intro wd hSd
            refine todo_load [10, 11, 12, 13, 16, 17] hl_ (by kernel_rfl) rfl (gw0 rfl) rfl rfl rfl (fun a w_ hF hB_ => r_loadn ag35 (hF.ev rfl) ((hSd.ext hB_).box_rd (i := 0) rfl) sz35) ?_
            refine todo_mk hl_ rfl (by kernel_rfl) rfl rfl rfl rfl rfl (fun a w_ hF => r_call4 en34 (hF.ev rfl) (hF.ev rfl) (hF.ev rfl) (hF.ev rfl)) (fun w_ hS => specApplyModel_c (hS.part_k (i := 1) rfl) (by omega)) ?_; rintro vs32
            refine todo_pure hl_ (by kernel_rfl) rfl (gw0 rfl) rfl rfl rfl (fun a w_ hF => r_move (hF.ev rfl)) ?_
            refine todo_pure hl_ (by kernel_rfl) rfl (gw0 rfl) rfl rfl rfl (fun a w_ hF => r_extract (hF.ev rfl) rfl) ?_
            refine todo_pure hl_ (by kernel_rfl) rfl (gw0 rfl) rfl rfl rfl (fun a w_ hF => r_extract (hF.ev rfl) rfl) ?_
            refine todo_fin hl_ rfl (by kernel_rfl) (tl := [_, _]) rfl ?_; clear hS a; intro a w50 hF hA_
            obtain ⟨g4, g5, hS, he_0, he_1⟩ := hA_.open2 (by decide); clear hA_
            replace hF := hF.more he_0; clear he_0
            replace hF := hF.more he_1; clear he_1
            clear hl_; try clear hSd
            try dsimp only [List.cons_append, List.nil_append, List.set] at hS
            try clear wd
            refine wl_storew hF hS (i := 0) rfl (hF.ev rfl) (hF.ev rfl) sz35 rfl rfl ?_; intro w51 hS_; replace hS := hS_; clear hS_; dsimp only [List.set, Nat.reduceAdd] at hS
            refine wl_storen (cs' := [_, _]) hF hS (i := 1) rfl (hF.ev rfl) (hF.ev rfl) sz42 ⟨rfl, rfl⟩ rfl rfl ?_; intro w52 hS_; replace hS := hS_; clear hS_; dsimp only [List.set] at hS
            refine wl_nil ⟨rfl, ?_⟩
            refine hK8 _ _ ?_
            refine wp_region_lit ?_
            refine wl hF rfl rfl rfl (r_loadn ag35 (hF.ev rfl) (hS.box_rd (i := 0) rfl) sz35) ?_; clear hF a; intro a hF
            refine wl_storew hF hS (i := 3) rfl (hF.ev rfl) (hF.ev rfl) sz35 rfl rfl ?_; intro w53 hS_; replace hS := hS_; clear hS_; dsimp only [List.set, Nat.reduceAdd] at hS
            refine wl_nil ?_
            simp only [Exit.then, Exit.inBlock, ↓reduceIte]
            refine hK7 _ _ ?_
            refine wp_region_lit ?_
            refine wl_mvs (A := [_]) hF rfl ?_; clear hF a; intro a hF
            refine wl hF rfl rfl rfl (r_sub (hF.ev rfl) ec) ?_; clear hF a; intro a hF
            refine wl_mvs (A := [_]) hF rfl ?_; clear hF a; intro a hF
            refine wl_nil ?_
            try simp only [Exit.then, Exit.inBlock, ↓reduceIte]
            refine ⟨(n - 1, (applyModel c m x27 o31).1, vs32), ⟨fun _ => isModel_apply hmo, isModel_size (isModel_apply hmo), by dsimp only; omega⟩, (Sep.headp (A := [_, _, _, _, _, _, _, _]) (B := [_, _, _, _, _]) hS [3, 2, 5, 6, 7] (by decide) rfl rfl), (((((hF.nil.keep hF (t := 5) rfl).keep hF (t := 4) rfl).keep hF (t := 3) rfl).keep hF (t := 0) rfl).keepE hF (t := 6) rfl (congrArg vi (w64_id (by omega) (by omega)))), by dsimp only; omega⟩
          ·
            refine op_ld rfl rfl (gw0 rfl) rfl rfl rfl (fun a w_ hF hS => r_loadn ag35 (hF.ev rfl) (hS.box_rd (i := 0) rfl) sz35) ?_
            refine todo_fork [(9, [10, 11, 12, 13, 16, 17])] hl_ rfl (by kernel_rfl) (List.forall_mem_cons.2 ⟨?_, fun _ h_ => nomatch h_⟩)
            ·
              refine op_dw (m' := [16, 17]) (val := fun o : Sl.Op => .agg o.enc.toArray) (R := fun o => o.ok) rfl rfl (gw0 rfl) rfl rfl rfl rfl (fun a w_ hF => r_call2 en84 (hF.ev rfl) (hF.ev rfl)) (fun M_ w_ hS => l5Op_c hbs (q := 5) (by omega) hS rfl) ?_; intro o31 h31; try clear hSd; try clear wd; intro wd hSd
              refine todo_mk hl_ rfl (by kernel_rfl) rfl rfl rfl rfl rfl (fun a w_ hF => r_call4 en34 (hF.ev rfl) (hF.ev rfl) (hF.ev rfl) (hF.ev rfl)) (fun w_ hS => specApplyModel_c (hS.part_k (i := 1) rfl) (by omega)) ?_; rintro vs32
              refine todo_pure hl_ (by kernel_rfl) rfl (gw0 rfl) rfl rfl rfl (fun a w_ hF => r_move (hF.ev rfl)) ?_
              refine todo_pure hl_ (by kernel_rfl) rfl (gw0 rfl) rfl rfl rfl (fun a w_ hF => r_extract (hF.ev rfl) rfl) ?_
              refine todo_pure hl_ (by kernel_rfl) rfl (gw0 rfl) rfl rfl rfl (fun a w_ hF => r_extract (hF.ev rfl) rfl) ?_
              refine todo_fin hl_ rfl (by kernel_rfl) (tl := [_, _]) rfl ?_; clear hS a; intro a w54 hF hA_
              obtain ⟨g4, g5, hS, he_0, he_1⟩ := hA_.open2 (by decide); clear hA_
              replace hF := hF.more he_0; clear he_0
              replace hF := hF.more he_1; clear he_1
              clear hl_; try clear hSd
              try dsimp only [List.cons_append, List.nil_append, List.set] at hS
              try clear wd
              refine wl_storew hF hS (i := 0) rfl (hF.ev rfl) (hF.ev rfl) sz35 rfl rfl ?_; intro w55 hS_; replace hS := hS_; clear hS_; dsimp only [List.set, Nat.reduceAdd] at hS
              refine wl_storen (cs' := [_, _]) hF hS (i := 1) rfl (hF.ev rfl) (hF.ev rfl) sz42 ⟨rfl, rfl⟩ rfl rfl ?_; intro w56 hS_; replace hS := hS_; clear hS_; dsimp only [List.set] at hS
              refine wl_nil ⟨rfl, ?_⟩
              refine hK8 _ _ ?_
              refine wp_region_lit ?_
              refine wl hF rfl rfl rfl (r_loadn ag35 (hF.ev rfl) (hS.box_rd (i := 0) rfl) sz35) ?_; clear hF a; intro a hF
              refine wl_storew hF hS (i := 3) rfl (hF.ev rfl) (hF.ev rfl) sz35 rfl rfl ?_; intro w57 hS_; replace hS := hS_; clear hS_; dsimp only [List.set, Nat.reduceAdd] at hS
              refine wl_nil ?_
              simp only [Exit.then, Exit.inBlock, ↓reduceIte]
              refine hK7 _ _ ?_
              refine wp_region_lit ?_
              refine wl_mvs (A := [_]) hF rfl ?_; clear hF a; intro a hF
              refine wl hF rfl rfl rfl (r_sub (hF.ev rfl) ec) ?_; clear hF a; intro a hF
              refine wl_mvs (A := [_]) hF rfl ?_; clear hF a; intro a hF
              refine wl_nil ?_
              try simp only [Exit.then, Exit.inBlock, ↓reduceIte]
              refine ⟨(n - 1, (applyModel c m x27 o31).1, vs32), ⟨fun _ => isModel_apply hmo, isModel_size (isModel_apply hmo), by dsimp only; omega⟩, (Sep.headp (A := [_, _, _, _, _, _, _, _]) (B := [_, _, _, _, _]) hS [3, 2, 5, 6, 7] (by decide) rfl rfl), (((((hF.nil.keep hF (t := 5) rfl).keep hF (t := 4) rfl).keep hF (t := 3) rfl).keep hF (t := 0) rfl).keepE hF (t := 6) rfl (congrArg vi (w64_id (by omega) (by omega)))), by dsimp only; omega⟩
        ·
          refine op_ld rfl rfl (gw0 rfl) rfl rfl rfl (fun a w_ hF hS => r_loadn ag35 (hF.ev rfl) (hS.box_rd (i := 0) rfl) sz35) ?_
          refine todo_fork [(5, [9, 10, 11, 12, 13, 16, 17])] hl_ rfl (by kernel_rfl) (List.forall_mem_cons.2 ⟨?_, fun _ h_ => nomatch h_⟩)
          ·
            refine op_dw (m' := [9, 16, 17]) (val := fun x : Int => vi x) (R := fun x => 0 ≤ x ∧ (x < c.threads ∨ (c.threads ≤ 0 ∧ x = 0))) rfl rfl (gw0 rfl) rfl rfl rfl rfl (fun a w_ hF => r_call2 en68 (hF.ev rfl) (hF.ev rfl)) (fun M_ w_ hS => l1Below_c hbs (q := 5) _ hS rfl) ?_; intro x27 h27; try clear hSd; try clear wd; intro wd hSd
            refine todo_fork [(9, [10, 11, 12, 13, 16, 17])] hl_ rfl (by kernel_rfl) (List.forall_mem_cons.2 ⟨?_, fun _ h_ => nomatch h_⟩)
            ·
              refine op_dw (m' := [16, 17]) (val := fun o : Sl.Op => .agg o.enc.toArray) (R := fun o => o.ok) rfl rfl (gw0 rfl) rfl rfl rfl rfl (fun a w_ hF => r_call2 en84 (hF.ev rfl) (hF.ev rfl)) (fun M_ w_ hS => l5Op_c hbs (q := 5) (by omega) hS rfl) ?_; intro o31 h31; try clear hSd; try clear wd; intro wd hSd
              refine todo_mk hl_ rfl (by kernel_rfl) rfl rfl rfl rfl rfl (fun a w_ hF => r_call4 en34 (hF.ev rfl) (hF.ev rfl) (hF.ev rfl) (hF.ev rfl)) (fun w_ hS => specApplyModel_c (hS.part_k (i := 1) rfl) (by omega)) ?_; rintro vs32
              refine todo_pure hl_ (by kernel_rfl) rfl (gw0 rfl) rfl rfl rfl (fun a w_ hF => r_move (hF.ev rfl)) ?_
              refine todo_pure hl_ (by kernel_rfl) rfl (gw0 rfl) rfl rfl rfl (fun a w_ hF => r_extract (hF.ev rfl) rfl) ?_
              refine todo_pure hl_ (by kernel_rfl) rfl (gw0 rfl) rfl rfl rfl (fun a w_ hF => r_extract (hF.ev rfl) rfl) ?_
              refine todo_fin hl_ rfl (by kernel_rfl) (tl := [_, _]) rfl ?_; clear hS a; intro a w58 hF hA_
              obtain ⟨g4, g5, hS, he_0, he_1⟩ := hA_.open2 (by decide); clear hA_
              replace hF := hF.more he_0; clear he_0
              replace hF := hF.more he_1; clear he_1
              clear hl_; try clear hSd
              try dsimp only [List.cons_append, List.nil_append, List.set] at hS
              try clear wd
              refine wl_storew hF hS (i := 0) rfl (hF.ev rfl) (hF.ev rfl) sz35 rfl rfl ?_; intro w59 hS_; replace hS := hS_; clear hS_; dsimp only [List.set, Nat.reduceAdd] at hS
              refine wl_storen (cs' := [_, _]) hF hS (i := 1) rfl (hF.ev rfl) (hF.ev rfl) sz42 ⟨rfl, rfl⟩ rfl rfl ?_; intro w60 hS_; replace hS := hS_; clear hS_; dsimp only [List.set] at hS
              refine wl_nil ⟨rfl, ?_⟩
              refine hK8 _ _ ?_
              refine wp_region_lit ?_
              refine wl hF rfl rfl rfl (r_loadn ag35 (hF.ev rfl) (hS.box_rd (i := 0) rfl) sz35) ?_; clear hF a; intro a hF
              refine wl_storew hF hS (i := 3) rfl (hF.ev rfl) (hF.ev rfl) sz35 rfl rfl ?_; intro w61 hS_; replace hS := hS_; clear hS_; dsimp only [List.set, Nat.reduceAdd] at hS
              refine wl_nil ?_
              simp only [Exit.then, Exit.inBlock, ↓reduceIte]
              refine hK7 _ _ ?_
              refine wp_region_lit ?_
              refine wl_mvs (A := [_]) hF rfl ?_; clear hF a; intro a hF
              refine wl hF rfl rfl rfl (r_sub (hF.ev rfl) ec) ?_; clear hF a; intro a hF
              refine wl_mvs (A := [_]) hF rfl ?_; clear hF a; intro a hF
              refine wl_nil ?_
              try simp only [Exit.then, Exit.inBlock, ↓reduceIte]
              refine ⟨(n - 1, (applyModel c m x27 o31).1, vs32), ⟨fun _ => isModel_apply hmo, isModel_size (isModel_apply hmo), by dsimp only; omega⟩, (Sep.headp (A := [_, _, _, _, _, _, _, _]) (B := [_, _, _, _, _]) hS [3, 2, 5, 6, 7] (by decide) rfl rfl), (((((hF.nil.keep hF (t := 5) rfl).keep hF (t := 4) rfl).keep hF (t := 3) rfl).keep hF (t := 0) rfl).keepE hF (t := 6) rfl (congrArg vi (w64_id (by omega) (by omega)))), by dsimp only; omega⟩
      ·
        refine op_ld rfl rfl (gw0 rfl) rfl rfl rfl (fun a w_ hF hS => r_loadn ag35 (hF.ev rfl) (hS.box_rd (i := 0) rfl) sz35) ?_
        refine todo_fork [(5, [9, 0, 10, 11, 12, 13, 16, 17]), (0, [5, 9, 10, 11, 12, 13, 16, 17])] hl_ rfl (by kernel_rfl) (List.forall_mem_cons.2 ⟨?_, List.forall_mem_cons.2 ⟨?_, fun _ h_ => nomatch h_⟩⟩)
        ·
          refine op_dw (m' := [9, 16, 17]) (val := fun x : Int => vi x) (R := fun x => 0 ≤ x ∧ (x < c.threads ∨ (c.threads ≤ 0 ∧ x = 0))) rfl rfl (gw0 rfl) rfl rfl rfl rfl (fun a w_ hF => r_call2 en68 (hF.ev rfl) (hF.ev rfl)) (fun M_ w_ hS => l1Below_c hbs (q := 5) _ hS rfl) ?_; intro x27 h27; try clear hSd; try clear wd; intro wd hSd
          refine todo_fork [(9, [0, 10, 11, 12, 13, 16, 17]), (0, [9, 10, 11, 12, 13, 16, 17])] hl_ rfl (by kernel_rfl) (List.forall_mem_cons.2 ⟨?_, List.forall_mem_cons.2 ⟨?_, fun _ h_ => nomatch h_⟩⟩)
          ·
            refine op_dw (m' := [16, 17]) (val := fun o : Sl.Op => .agg o.enc.toArray) (R := fun o => o.ok) rfl rfl (gw0 rfl) rfl rfl rfl rfl (fun a w_ hF => r_call2 en84 (hF.ev rfl) (hF.ev rfl)) (fun M_ w_ hS => l5Op_c hbs (q := 5) (by omega) hS rfl) ?_; intro o31 h31; try clear hSd; try clear wd; intro wd hSd
            refine todo_load [10, 11, 12, 13, 16, 17] hl_ (by kernel_rfl) rfl (gw0 rfl) rfl rfl rfl (fun a w_ hF hB_ => r_loadn ag38 (hF.ev rfl) ((hSd.ext hB_).box_rd (i := 3) rfl) sz38) ?_
            refine todo_mk hl_ rfl (by kernel_rfl) rfl rfl rfl rfl rfl (fun a w_ hF => r_call4 en34 (hF.ev rfl) (hF.ev rfl) (hF.ev rfl) (hF.ev rfl)) (fun w_ hS => specApplyModel_c (hS.part_k (i := 1) rfl) (by omega)) ?_; rintro vs32
            refine todo_pure hl_ (by kernel_rfl) rfl (gw0 rfl) rfl rfl rfl (fun a w_ hF => r_move (hF.ev rfl)) ?_
            refine todo_pure hl_ (by kernel_rfl) rfl (gw0 rfl) rfl rfl rfl (fun a w_ hF => r_extract (hF.ev rfl) rfl) ?_
            refine todo_pure hl_ (by kernel_rfl) rfl (gw0 rfl) rfl rfl rfl (fun a w_ hF => r_extract (hF.ev rfl) rfl) ?_
            refine todo_fin hl_ rfl (by kernel_rfl) (tl := [_, _]) rfl ?_; clear hS a; intro a w62 hF hA_
            obtain ⟨g4, g5, hS, he_0, he_1⟩ := hA_.open2 (by decide); clear hA_
            replace hF := hF.more he_0; clear he_0
            replace hF := hF.more he_1; clear he_1
            clear hl_; try clear hSd
            try dsimp only [List.cons_append, List.nil_append, List.set] at hS
            try clear wd
            refine wl_storew hF hS (i := 0) rfl (hF.ev rfl) (hF.ev rfl) sz35 rfl rfl ?_; intro w63 hS_; replace hS := hS_; clear hS_; dsimp only [List.set, Nat.reduceAdd] at hS
            refine wl_storen (cs' := [_, _]) hF hS (i := 1) rfl (hF.ev rfl) (hF.ev rfl) sz42 ⟨rfl, rfl⟩ rfl rfl ?_; intro w64 hS_; replace hS := hS_; clear hS_; dsimp only [List.set] at hS
            refine wl_nil ⟨rfl, ?_⟩
            refine hK8 _ _ ?_
            refine wp_region_lit ?_
            refine wl hF rfl rfl rfl (r_loadn ag35 (hF.ev rfl) (hS.box_rd (i := 0) rfl) sz35) ?_; clear hF a; intro a hF
            refine wl_storew hF hS (i := 3) rfl (hF.ev rfl) (hF.ev rfl) sz35 rfl rfl ?_; intro w65 hS_; replace hS := hS_; clear hS_; dsimp only [List.set, Nat.reduceAdd] at hS
            refine wl_nil ?_
            simp only [Exit.then, Exit.inBlock, ↓reduceIte]
            refine hK7 _ _ ?_
            refine wp_region_lit ?_
            refine wl_mvs (A := [_]) hF rfl ?_; clear hF a; intro a hF
            refine wl hF rfl rfl rfl (r_sub (hF.ev rfl) ec) ?_; clear hF a; intro a hF
            refine wl_mvs (A := [_]) hF rfl ?_; clear hF a; intro a hF
            refine wl_nil ?_
            try simp only [Exit.then, Exit.inBlock, ↓reduceIte]
            refine ⟨(n - 1, (applyModel c m x27 o31).1, vs32), ⟨fun _ => isModel_apply hmo, isModel_size (isModel_apply hmo), by dsimp only; omega⟩, (Sep.headp (A := [_, _, _, _, _, _, _, _]) (B := [_, _, _, _, _]) hS [3, 2, 5, 6, 7] (by decide) rfl rfl), (((((hF.nil.keep hF (t := 5) rfl).keep hF (t := 4) rfl).keep hF (t := 3) rfl).keep hF (t := 0) rfl).keepE hF (t := 6) rfl (congrArg vi (w64_id (by omega) (by omega)))), by dsimp only; omega⟩
          ·
            refine op_ld rfl rfl (gw0 rfl) rfl rfl rfl (fun a w_ hF hS => r_loadn ag38 (hF.ev rfl) (hS.box_rd (i := 3) rfl) sz38) ?_
            refine todo_fork [(9, [10, 11, 12, 13, 16, 17])] hl_ rfl (by kernel_rfl) (List.forall_mem_cons.2 ⟨?_, fun _ h_ => nomatch h_⟩)
            ·
              refine op_dw (m' := [16, 17]) (val := fun o : Sl.Op => .agg o.enc.toArray) (R := fun o => o.ok) rfl rfl (gw0 rfl) rfl rfl rfl rfl (fun a w_ hF => r_call2 en84 (hF.ev rfl) (hF.ev rfl)) (fun M_ w_ hS => l5Op_c hbs (q := 5) (by omega) hS rfl) ?_; intro o31 h31; try clear hSd; try clear wd; intro wd hSd
              refine todo_mk hl_ rfl (by kernel_rfl) rfl rfl rfl rfl rfl (fun a w_ hF => r_call4 en34 (hF.ev rfl) (hF.ev rfl) (hF.ev rfl) (hF.ev rfl)) (fun w_ hS => specApplyModel_c (hS.part_k (i := 1) rfl) (by omega)) ?_; rintro vs32
              refine todo_pure hl_ (by kernel_rfl) rfl (gw0 rfl) rfl rfl rfl (fun a w_ hF => r_move (hF.ev rfl)) ?_
              refine todo_pure hl_ (by kernel_rfl) rfl (gw0 rfl) rfl rfl rfl (fun a w_ hF => r_extract (hF.ev rfl) rfl) ?_
              refine todo_pure hl_ (by kernel_rfl) rfl (gw0 rfl) rfl rfl rfl (fun a w_ hF => r_extract (hF.ev rfl) rfl) ?_
              refine todo_fin hl_ rfl (by kernel_rfl) (tl := [_, _]) rfl ?_; clear hS a; intro a w66 hF hA_
              obtain ⟨g4, g5, hS, he_0, he_1⟩ := hA_.open2 (by decide); clear hA_
              replace hF := hF.more he_0; clear he_0
              replace hF := hF.more he_1; clear he_1
              clear hl_; try clear hSd
              try dsimp only [List.cons_append, List.nil_append, List.set] at hS
              try clear wd
              refine wl_storew hF hS (i := 0) rfl (hF.ev rfl) (hF.ev rfl) sz35 rfl rfl ?_; intro w67 hS_; replace hS := hS_; clear hS_; dsimp only [List.set, Nat.reduceAdd] at hS
              refine wl_storen (cs' := [_, _]) hF hS (i := 1) rfl (hF.ev rfl) (hF.ev rfl) sz42 ⟨rfl, rfl⟩ rfl rfl ?_; intro w68 hS_; replace hS := hS_; clear hS_; dsimp only [List.set] at hS
              refine wl_nil ⟨rfl, ?_⟩
              refine hK8 _ _ ?_
              refine wp_region_lit ?_
              refine wl hF rfl rfl rfl (r_loadn ag35 (hF.ev rfl) (hS.box_rd (i := 0) rfl) sz35) ?_; clear hF a; intro a hF
              refine wl_storew hF hS (i := 3) rfl (hF.ev rfl) (hF.ev rfl) sz35 rfl rfl ?_; intro w69 hS_; replace hS := hS_; clear hS_; dsimp only [List.set, Nat.reduceAdd] at hS
              refine wl_nil ?_
              simp only [Exit.then, Exit.inBlock, ↓reduceIte]
              refine hK7 _ _ ?_
              refine wp_region_lit ?_
              refine wl_mvs (A := [_]) hF rfl ?_; clear hF a; intro a hF
              refine wl hF rfl rfl rfl (r_sub (hF.ev rfl) ec) ?_; clear hF a; intro a hF
              refine wl_mvs (A := [_]) hF rfl ?_; clear hF a; intro a hF
              refine wl_nil ?_
              try simp only [Exit.then, Exit.inBlock, ↓reduceIte]
              refine ⟨(n - 1, (applyModel c m x27 o31).1, vs32), ⟨fun _ => isModel_apply hmo, isModel_size (isModel_apply hmo), by dsimp only; omega⟩, (Sep.headp (A := [_, _, _, _, _, _, _, _]) (B := [_, _, _, _, _]) hS [3, 2, 5, 6, 7] (by decide) rfl rfl), (((((hF.nil.keep hF (t := 5) rfl).keep hF (t := 4) rfl).keep hF (t := 3) rfl).keep hF (t := 0) rfl).keepE hF (t := 6) rfl (congrArg vi (w64_id (by omega) (by omega)))), by dsimp only; omega⟩
        ·
          refine op_ld rfl rfl (gw0 rfl) rfl rfl rfl (fun a w_ hF hS => r_loadn ag38 (hF.ev rfl) (hS.box_rd (i := 3) rfl) sz38) ?_
          refine todo_fork [(5, [9, 10, 11, 12, 13, 16, 17])] hl_ rfl (by kernel_rfl) (List.forall_mem_cons.2 ⟨?_, fun _ h_ => nomatch h_⟩)
          ·
            refine op_dw (m' := [9, 16, 17]) (val := fun x : Int => vi x) (R := fun x => 0 ≤ x ∧ (x < c.threads ∨ (c.threads ≤ 0 ∧ x = 0))) rfl rfl (gw0 rfl) rfl rfl rfl rfl (fun a w_ hF => r_call2 en68 (hF.ev rfl) (hF.ev rfl)) (fun M_ w_ hS => l1Below_c hbs (q := 5) _ hS rfl) ?_; intro x27 h27; try clear hSd; try clear wd; intro wd hSd
            refine todo_fork [(9, [10, 11, 12, 13, 16, 17])] hl_ rfl (by kernel_rfl) (List.forall_mem_cons.2 ⟨?_, fun _ h_ => nomatch h_⟩)
            ·
              refine op_dw (m' := [16, 17]) (val := fun o : Sl.Op => .agg o.enc.toArray) (R := fun o => o.ok) rfl rfl (gw0 rfl) rfl rfl rfl rfl (fun a w_ hF => r_call2 en84 (hF.ev rfl) (hF.ev rfl)) (fun M_ w_ hS => l5Op_c hbs (q := 5) (by omega) hS rfl) ?_; intro o31 h31; try clear hSd; try clear wd; intro wd hSd
              refine todo_mk hl_ rfl (by kernel_rfl) rfl rfl rfl rfl rfl (fun a w_ hF => r_call4 en34 (hF.ev rfl) (hF.ev rfl) (hF.ev rfl) (hF.ev rfl)) (fun w_ hS => specApplyModel_c (hS.part_k (i := 1) rfl) (by omega)) ?_; rintro vs32
              refine todo_pure hl_ (by kernel_rfl) rfl (gw0 rfl) rfl rfl rfl (fun a w_ hF => r_move (hF.ev rfl)) ?_
              refine todo_pure hl_ (by kernel_rfl) rfl (gw0 rfl) rfl rfl rfl (fun a w_ hF => r_extract (hF.ev rfl) rfl) ?_
              refine todo_pure hl_ (by kernel_rfl) rfl (gw0 rfl) rfl rfl rfl (fun a w_ hF => r_extract (hF.ev rfl) rfl) ?_
              refine todo_fin hl_ rfl (by kernel_rfl) (tl := [_, _]) rfl ?_; clear hS a; intro a w70 hF hA_
              obtain ⟨g4, g5, hS, he_0, he_1⟩ := hA_.open2 (by decide); clear hA_
              replace hF := hF.more he_0; clear he_0
              replace hF := hF.more he_1; clear he_1
              clear hl_; try clear hSd
              try dsimp only [List.cons_append, List.nil_append, List.set] at hS
              try clear wd
              refine wl_storew hF hS (i := 0) rfl (hF.ev rfl) (hF.ev rfl) sz35 rfl rfl ?_; intro w71 hS_; replace hS := hS_; clear hS_; dsimp only [List.set, Nat.reduceAdd] at hS
              refine wl_storen (cs' := [_, _]) hF hS (i := 1) rfl (hF.ev rfl) (hF.ev rfl) sz42 ⟨rfl, rfl⟩ rfl rfl ?_; intro w72 hS_; replace hS := hS_; clear hS_; dsimp only [List.set] at hS
              refine wl_nil ⟨rfl, ?_⟩
              refine hK8 _ _ ?_
              refine wp_region_lit ?_
              refine wl hF rfl rfl rfl (r_loadn ag35 (hF.ev rfl) (hS.box_rd (i := 0) rfl) sz35) ?_; clear hF a; intro a hF
              refine wl_storew hF hS (i := 3) rfl (hF.ev rfl) (hF.ev rfl) sz35 rfl rfl ?_; intro w73 hS_; replace hS := hS_; clear hS_; dsimp only [List.set, Nat.reduceAdd] at hS
              refine wl_nil ?_
              simp only [Exit.then, Exit.inBlock, ↓reduceIte]
              refine hK7 _ _ ?_
              refine wp_region_lit ?_
              refine wl_mvs (A := [_]) hF rfl ?_; clear hF a; intro a hF
              refine wl hF rfl rfl rfl (r_sub (hF.ev rfl) ec) ?_; clear hF a; intro a hF
              refine wl_mvs (A := [_]) hF rfl ?_; clear hF a; intro a hF
              refine wl_nil ?_
              try simp only [Exit.then, Exit.inBlock, ↓reduceIte]
              refine ⟨(n - 1, (applyModel c m x27 o31).1, vs32), ⟨fun _ => isModel_apply hmo, isModel_size (isModel_apply hmo), by dsimp only; omega⟩, (Sep.headp (A := [_, _, _, _, _, _, _, _]) (B := [_, _, _, _, _]) hS [3, 2, 5, 6, 7] (by decide) rfl rfl), (((((hF.nil.keep hF (t := 5) rfl).keep hF (t := 4) rfl).keep hF (t := 3) rfl).keep hF (t := 0) rfl).keepE hF (t := 6) rfl (congrArg vi (w64_id (by omega) (by omega)))), by dsimp only; omega⟩
    ·
      refine op_ld rfl rfl (gw0 rfl) rfl rfl rfl (fun a w_ hF hS => r_loadn ag38 (hF.ev rfl) (hS.box_rd (i := 3) rfl) sz38) ?_
      refine todo_fork [(5, [8, 9, 1, 10, 11, 12, 13, 16, 17]), (8, [5, 9, 1, 10, 11, 12, 13, 16, 17]), (1, [5, 8, 9, 10, 11, 12, 13, 16, 17])] hl_ rfl (by kernel_rfl) (List.forall_mem_cons.2 ⟨?_, List.forall_mem_cons.2 ⟨?_, List.forall_mem_cons.2 ⟨?_, fun _ h_ => nomatch h_⟩⟩⟩)
      ·
        refine op_dw (m' := [9, 16, 17]) (val := fun x : Int => vi x) (R := fun x => 0 ≤ x ∧ (x < c.threads ∨ (c.threads ≤ 0 ∧ x = 0))) rfl rfl (gw0 rfl) rfl rfl rfl rfl (fun a w_ hF => r_call2 en68 (hF.ev rfl) (hF.ev rfl)) (fun M_ w_ hS => l1Below_c hbs (q := 5) _ hS rfl) ?_; intro x27 h27; try clear hSd; try clear wd; intro wd hSd
        refine todo_load [9, 10, 11, 12, 13, 16, 17] hl_ (by kernel_rfl) rfl (gw0 rfl) rfl rfl rfl (fun a w_ hF hB_ => r_load1 sc3 (hF.ev rfl) ((hSd.ext hB_).box (i := 3) rfl rfl)) ?_
        refine todo_fork [(9, [1, 10, 11, 12, 13, 16, 17]), (1, [9, 10, 11, 12, 13, 16, 17])] hl_ rfl (by kernel_rfl) (List.forall_mem_cons.2 ⟨?_, List.forall_mem_cons.2 ⟨?_, fun _ h_ => nomatch h_⟩⟩)
        ·
          refine op_dw (m' := [16, 17]) (val := fun o : Sl.Op => .agg o.enc.toArray) (R := fun o => o.ok) rfl rfl (gw0 rfl) rfl rfl rfl rfl (fun a w_ hF => r_call2 en84 (hF.ev rfl) (hF.ev rfl)) (fun M_ w_ hS => l5Op_c hbs (q := 5) (by omega) hS rfl) ?_; intro o31 h31; try clear hSd; try clear wd; intro wd hSd
          refine todo_load [10, 11, 12, 13, 16, 17] hl_ (by kernel_rfl) rfl (gw0 rfl) rfl rfl rfl (fun a w_ hF hB_ => r_loadn ag35 (hF.ev rfl) ((hSd.ext hB_).box_rd (i := 0) rfl) sz35) ?_
          refine todo_mk hl_ rfl (by kernel_rfl) rfl rfl rfl rfl rfl (fun a w_ hF => r_call4 en34 (hF.ev rfl) (hF.ev rfl) (hF.ev rfl) (hF.ev rfl)) (fun w_ hS => specApplyModel_c (hS.part_k (i := 1) rfl) (by omega)) ?_; rintro vs32
          refine todo_pure hl_ (by kernel_rfl) rfl (gw0 rfl) rfl rfl rfl (fun a w_ hF => r_move (hF.ev rfl)) ?_
          refine todo_pure hl_ (by kernel_rfl) rfl (gw0 rfl) rfl rfl rfl (fun a w_ hF => r_extract (hF.ev rfl) rfl) ?_
          refine todo_pure hl_ (by kernel_rfl) rfl (gw0 rfl) rfl rfl rfl (fun a w_ hF => r_extract (hF.ev rfl) rfl) ?_
          refine todo_fin hl_ rfl (by kernel_rfl) (tl := [_, _]) rfl ?_; clear hS a; intro a w74 hF hA_
          obtain ⟨g4, g5, hS, he_0, he_1⟩ := hA_.open2 (by decide); clear hA_
          replace hF := hF.more he_0; clear he_0
          replace hF := hF.more he_1; clear he_1
          clear hl_; try clear hSd
          try dsimp only [List.cons_append, List.nil_append, List.set] at hS
          try clear wd
          refine wl_storew hF hS (i := 0) rfl (hF.ev rfl) (hF.ev rfl) sz35 rfl rfl ?_; intro w75 hS_; replace hS := hS_; clear hS_; dsimp only [List.set, Nat.reduceAdd] at hS
          refine wl_storen (cs' := [_, _]) hF hS (i := 1) rfl (hF.ev rfl) (hF.ev rfl) sz42 ⟨rfl, rfl⟩ rfl rfl ?_; intro w76 hS_; replace hS := hS_; clear hS_; dsimp only [List.set] at hS
          refine wl_nil ⟨rfl, ?_⟩
          refine hK8 _ _ ?_
          refine wp_region_lit ?_
          refine wl hF rfl rfl rfl (r_loadn ag35 (hF.ev rfl) (hS.box_rd (i := 0) rfl) sz35) ?_; clear hF a; intro a hF
          refine wl_storew hF hS (i := 3) rfl (hF.ev rfl) (hF.ev rfl) sz35 rfl rfl ?_; intro w77 hS_; replace hS := hS_; clear hS_; dsimp only [List.set, Nat.reduceAdd] at hS
          refine wl_nil ?_
          simp only [Exit.then, Exit.inBlock, ↓reduceIte]
          refine hK7 _ _ ?_
          refine wp_region_lit ?_
          refine wl_mvs (A := [_]) hF rfl ?_; clear hF a; intro a hF
          refine wl hF rfl rfl rfl (r_sub (hF.ev rfl) ec) ?_; clear hF a; intro a hF
          refine wl_mvs (A := [_]) hF rfl ?_; clear hF a; intro a hF
          refine wl_nil ?_
          try simp only [Exit.then, Exit.inBlock, ↓reduceIte]
          refine ⟨(n - 1, (applyModel c m x27 o31).1, vs32), ⟨fun _ => isModel_apply hmo, isModel_size (isModel_apply hmo), by dsimp only; omega⟩, (Sep.headp (A := [_, _, _, _, _, _, _, _]) (B := [_, _, _, _, _]) hS [3, 2, 5, 6, 7] (by decide) rfl rfl), (((((hF.nil.keep hF (t := 5) rfl).keep hF (t := 4) rfl).keep hF (t := 3) rfl).keep hF (t := 0) rfl).keepE hF (t := 6) rfl (congrArg vi (w64_id (by omega) (by omega)))), by dsimp only; omega⟩
        ·
          refine op_ld rfl rfl (gw0 rfl) rfl rfl rfl (fun a w_ hF hS => r_loadn ag35 (hF.ev rfl) (hS.box_rd (i := 0) rfl) sz35) ?_
          refine todo_fork [(9, [10, 11, 12, 13, 16, 17])] hl_ rfl (by kernel_rfl) (List.forall_mem_cons.2 ⟨?_, fun _ h_ => nomatch h_⟩)
          ·
            refine op_dw (m' := [16, 17]) (val := fun o : Sl.Op => .agg o.enc.toArray) (R := fun o => o.ok) rfl rfl (gw0 rfl) rfl rfl rfl rfl (fun a w_ hF => r_call2 en84 (hF.ev rfl) (hF.ev rfl)) (fun M_ w_ hS => l5Op_c hbs (q := 5) (by omega) hS rfl) ?_; intro o31 h31; try clear hSd; try clear wd; intro wd hSd
            refine todo_mk hl_ rfl (by kernel_rfl) rfl rfl rfl rfl rfl (fun a w_ hF => r_call4 en34 (hF.ev rfl) (hF.ev rfl) (hF.ev rfl) (hF.ev rfl)) (fun w_ hS => specApplyModel_c (hS.part_k (i := 1) rfl) (by omega)) ?_; rintro vs32
            refine todo_pure hl_ (by kernel_rfl) rfl (gw0 rfl) rfl rfl rfl (fun a w_ hF => r_move (hF.ev rfl)) ?_
            refine todo_pure hl_ (by kernel_rfl) rfl (gw0 rfl) rfl rfl rfl (fun a w_ hF => r_extract (hF.ev rfl) rfl) ?_
            refine todo_pure hl_ (by kernel_rfl) rfl (gw0 rfl) rfl rfl rfl (fun a w_ hF => r_extract (hF.ev rfl) rfl) ?_
            refine todo_fin hl_ rfl (by kernel_rfl) (tl := [_, _]) rfl ?_; clear hS a; intro a w78 hF hA_
            obtain ⟨g4, g5, hS, he_0, he_1⟩ := hA_.open2 (by decide); clear hA_
            replace hF := hF.more he_0; clear he_0
            replace hF := hF.more he_1; clear he_1
            clear hl_; try clear hSd
            try dsimp only [List.cons_append, List.nil_append, List.set] at hS
            try clear wd
            refine wl_storew hF hS (i := 0) rfl (hF.ev rfl) (hF.ev rfl) sz35 rfl rfl ?_; intro w79 hS_; replace hS := hS_; clear hS_; dsimp only [List.set, Nat.reduceAdd] at hS
            refine wl_storen (cs' := [_, _]) hF hS (i := 1) rfl (hF.ev rfl) (hF.ev rfl) sz42 ⟨rfl, rfl⟩ rfl rfl ?_; intro w80 hS_; replace hS := hS_; clear hS_; dsimp only [List.set] at hS
            refine wl_nil ⟨rfl, ?_⟩
            refine hK8 _ _ ?_
            refine wp_region_lit ?_
            refine wl hF rfl rfl rfl (r_loadn ag35 (hF.ev rfl) (hS.box_rd (i := 0) rfl) sz35) ?_; clear hF a; intro a hF
            refine wl_storew hF hS (i := 3) rfl (hF.ev rfl) (hF.ev rfl) sz35 rfl rfl ?_; intro w81 hS_; replace hS := hS_; clear hS_; dsimp only [List.set, Nat.reduceAdd] at hS
            refine wl_nil ?_
            simp only [Exit.then, Exit.inBlock, ↓reduceIte]
            refine hK7 _ _ ?_
            refine wp_region_lit ?_
            refine wl_mvs (A := [_]) hF rfl ?_; clear hF a; intro a hF
            refine wl hF rfl rfl rfl (r_sub (hF.ev rfl) ec) ?_; clear hF a; intro a hF
            refine wl_mvs (A := [_]) hF rfl ?_; clear hF a; intro a hF
            refine wl_nil ?_
            try simp only [Exit.then, Exit.inBlock, ↓reduceIte]
            refine ⟨(n - 1, (applyModel c m x27 o31).1, vs32), ⟨fun _ => isModel_apply hmo, isModel_size (isModel_apply hmo), by dsimp only; omega⟩, (Sep.headp (A := [_, _, _, _, _, _, _, _]) (B := [_, _, _, _, _]) hS [3, 2, 5, 6, 7] (by decide) rfl rfl), (((((hF.nil.keep hF (t := 5) rfl).keep hF (t := 4) rfl).keep hF (t := 3) rfl).keep hF (t := 0) rfl).keepE hF (t := 6) rfl (congrArg vi (w64_id (by omega) (by omega)))), by dsimp only; omega⟩
      ·
        refine op_ld rfl rfl (gw0 rfl) rfl rfl rfl (fun a w_ hF hS => r_load1 sc3 (hF.ev rfl) (hS.box (i := 3) rfl rfl)) ?_
        refine todo_fork [(5, [9, 1, 10, 11, 12, 13, 16, 17]), (1, [5, 9, 10, 11, 12, 13, 16, 17])] hl_ rfl (by kernel_rfl) (List.forall_mem_cons.2 ⟨?_, List.forall_mem_cons.2 ⟨?_, fun _ h_ => nomatch h_⟩⟩)
        ·
          refine op_dw (m' := [9, 16, 17]) (val := fun x : Int => vi x) (R := fun x => 0 ≤ x ∧ (x < c.threads ∨ (c.threads ≤ 0 ∧ x = 0))) rfl rfl (gw0 rfl) rfl rfl rfl rfl (fun a w_ hF => r_call2 en68 (hF.ev rfl) (hF.ev rfl)) (fun M_ w_ hS => l1Below_c hbs (q := 5) _ hS rfl) ?_; intro x27 h27; try clear hSd; try clear wd; intro wd hSd
          refine todo_fork [(9, [1, 10, 11, 12, 13, 16, 17]), (1, [9, 10, 11, 12, 13, 16, 17])] hl_ rfl (by kernel_rfl) (List.forall_mem_cons.2 ⟨?_, List.forall_mem_cons.2 ⟨?_, fun _ h_ => nomatch h_⟩⟩)
          ·
            refine op_dw (m' := [16, 17]) (val := fun o : Sl.Op => .agg o.enc.toArray) (R := fun o => o.ok) rfl rfl (gw0 rfl) rfl rfl rfl rfl (fun a w_ hF => r_call2 en84 (hF.ev rfl) (hF.ev rfl)) (fun M_ w_ hS => l5Op_c hbs (q := 5) (by omega) hS rfl) ?_; intro o31 h31; try clear hSd; try clear wd; intro wd hSd
            refine todo_load [10, 11, 12, 13, 16, 17] hl_ (by kernel_rfl) rfl (gw0 rfl) rfl rfl rfl (fun a w_ hF hB_ => r_loadn ag35 (hF.ev rfl) ((hSd.ext hB_).box_rd (i := 0) rfl) sz35) ?_
            refine todo_mk hl_ rfl (by kernel_rfl) rfl rfl rfl rfl rfl (fun a w_ hF => r_call4 en34 (hF.ev rfl) (hF.ev rfl) (hF.ev rfl) (hF.ev rfl)) (fun w_ hS => specApplyModel_c (hS.part_k (i := 1) rfl) (by omega)) ?_; rintro vs32
            refine todo_pure hl_ (by kernel_rfl) rfl (gw0 rfl) rfl rfl rfl (fun a w_ hF => r_move (hF.ev rfl)) ?_
            refine todo_pure hl_ (by kernel_rfl) rfl (gw0 rfl) rfl rfl rfl (fun a w_ hF => r_extract (hF.ev rfl) rfl) ?_
            refine todo_pure hl_ (by kernel_rfl) rfl (gw0 rfl) rfl rfl rfl (fun a w_ hF => r_extract (hF.ev rfl) rfl) ?_
            refine todo_fin hl_ rfl (by kernel_rfl) (tl := [_, _]) rfl ?_; clear hS a; intro a w82 hF hA_
            obtain ⟨g4, g5, hS, he_0, he_1⟩ := hA_.open2 (by decide); clear hA_
            replace hF := hF.more he_0; clear he_0
            replace hF := hF.more he_1; clear he_1
            clear hl_; try clear hSd
            try dsimp only [List.cons_append, List.nil_append, List.set] at hS
            try clear wd
            refine wl_storew hF hS (i := 0) rfl (hF.ev rfl) (hF.ev rfl) sz35 rfl rfl ?_; intro w83 hS_; replace hS := hS_; clear hS_; dsimp only [List.set, Nat.reduceAdd] at hS
            refine wl_storen (cs' := [_, _]) hF hS (i := 1) rfl (hF.ev rfl) (hF.ev rfl) sz42 ⟨rfl, rfl⟩ rfl rfl ?_; intro w84 hS_; replace hS := hS_; clear hS_; dsimp only [List.set] at hS
            refine wl_nil ⟨rfl, ?_⟩
            refine hK8 _ _ ?_
            refine wp_region_lit ?_
            refine wl hF rfl rfl rfl (r_loadn ag35 (hF.ev rfl) (hS.box_rd (i := 0) rfl) sz35) ?_; clear hF a; intro a hF
            refine wl_storew hF hS (i := 3) rfl (hF.ev rfl) (hF.ev rfl) sz35 rfl rfl ?_; intro w85 hS_; replace hS := hS_; clear hS_; dsimp only [List.set, Nat.reduceAdd] at hS
            refine wl_nil ?_
            simp only [Exit.then, Exit.inBlock, ↓reduceIte]
            refine hK7 _ _ ?_
            refine wp_region_lit ?_
            refine wl_mvs (A := [_]) hF rfl ?_; clear hF a; intro a hF
            refine wl hF rfl rfl rfl (r_sub (hF.ev rfl) ec) ?_; clear hF a; intro a hF
            refine wl_mvs (A := [_]) hF rfl ?_; clear hF a; intro a hF
            refine wl_nil ?_
            try simp only [Exit.then, Exit.inBlock, ↓reduceIte]
            refine ⟨(n - 1, (applyModel c m x27 o31).1, vs32), ⟨fun _ => isModel_apply hmo, isModel_size (isModel_apply hmo), by dsimp only; omega⟩, (Sep.headp (A := [_, _, _, _, _, _, _, _]) (B := [_, _, _, _, _]) hS [3, 2, 5, 6, 7] (by decide) rfl rfl), (((((hF.nil.keep hF (t := 5) rfl).keep hF (t := 4) rfl).keep hF (t := 3) rfl).keep hF (t := 0) rfl).keepE hF (t := 6) rfl (congrArg vi (w64_id (by omega) (by omega)))), by dsimp only; omega⟩
          ·
            refine op_ld rfl rfl (gw0 rfl) rfl rfl rfl (fun a w_ hF hS => r_loadn ag35 (hF.ev rfl) (hS.box_rd (i := 0) rfl) sz35) ?_
            refine todo_fork [(9, [10, 11, 12, 13, 16, 17])] hl_ rfl (by kernel_rfl) (List.forall_mem_cons.2 ⟨?_, fun _ h_ => nomatch h_⟩)
            ·
              refine op_dw (m' := [16, 17]) (val := fun o : Sl.Op => .agg o.enc.toArray) (R := fun o => o.ok) rfl rfl (gw0 rfl) rfl rfl rfl rfl (fun a w_ hF => r_call2 en84 (hF.ev rfl) (hF.ev rfl)) (fun M_ w_ hS => l5Op_c hbs (q := 5) (by omega) hS rfl) ?_; intro o31 h31; try clear hSd; try clear wd; intro wd hSd
              refine todo_mk hl_ rfl (by kernel_rfl) rfl rfl rfl rfl rfl (fun a w_ hF => r_call4 en34 (hF.ev rfl) (hF.ev rfl) (hF.ev rfl) (hF.ev rfl)) (fun w_ hS => specApplyModel_c (hS.part_k (i := 1) rfl) (by omega)) ?_; rintro vs32
              refine todo_pure hl_ (by kernel_rfl) rfl (gw0 rfl) rfl rfl rfl (fun a w_ hF => r_move (hF.ev rfl)) ?_
              refine todo_pure hl_ (by kernel_rfl) rfl (gw0 rfl) rfl rfl rfl (fun a w_ hF => r_extract (hF.ev rfl) rfl) ?_
              refine todo_pure hl_ (by kernel_rfl) rfl (gw0 rfl) rfl rfl rfl (fun a w_ hF => r_extract (hF.ev rfl) rfl) ?_
              refine todo_fin hl_ rfl (by kernel_rfl) (tl := [_, _]) rfl ?_; clear hS a; intro a w86 hF hA_
              obtain ⟨g4, g5, hS, he_0, he_1⟩ := hA_.open2 (by decide); clear hA_
              replace hF := hF.more he_0; clear he_0
              replace hF := hF.more he_1; clear he_1
              clear hl_; try clear hSd
              try dsimp only [List.cons_append, List.nil_append, List.set] at hS
              try clear wd
              refine wl_storew hF hS (i := 0) rfl (hF.ev rfl) (hF.ev rfl) sz35 rfl rfl ?_; intro w87 hS_; replace hS := hS_; clear hS_; dsimp only [List.set, Nat.reduceAdd] at hS
              refine wl_storen (cs' := [_, _]) hF hS (i := 1) rfl (hF.ev rfl) (hF.ev rfl) sz42 ⟨rfl, rfl⟩ rfl rfl ?_; intro w88 hS_; replace hS := hS_; clear hS_; dsimp only [List.set] at hS
              refine wl_nil ⟨rfl, ?_⟩
              refine hK8 _ _ ?_
              refine wp_region_lit ?_
              refine wl hF rfl rfl rfl (r_loadn ag35 (hF.ev rfl) (hS.box_rd (i := 0) rfl) sz35) ?_; clear hF a; intro a hF
              refine wl_storew hF hS (i := 3) rfl (hF.ev rfl) (hF.ev rfl) sz35 rfl rfl ?_; intro w89 hS_; replace hS := hS_; clear hS_; dsimp only [List.set, Nat.reduceAdd] at hS
              refine wl_nil ?_
              simp only [Exit.then, Exit.inBlock, ↓reduceIte]
              refine hK7 _ _ ?_
              refine wp_region_lit ?_
              refine wl_mvs (A := [_]) hF rfl ?_; clear hF a; intro a hF
              refine wl hF rfl rfl rfl (r_sub (hF.ev rfl) ec) ?_; clear hF a; intro a hF
              refine wl_mvs (A := [_]) hF rfl ?_; clear hF a; intro a hF
              refine wl_nil ?_
              try simp only [Exit.then, Exit.inBlock, ↓reduceIte]
              refine ⟨(n - 1, (applyModel c m x27 o31).1, vs32), ⟨fun _ => isModel_apply hmo, isModel_size (isModel_apply hmo), by dsimp only; omega⟩, (Sep.headp (A := [_, _, _, _, _, _, _, _]) (B := [_, _, _, _, _]) hS [3, 2, 5, 6, 7] (by decide) rfl rfl), (((((hF.nil.keep hF (t := 5) rfl).keep hF (t := 4) rfl).keep hF (t := 3) rfl).keep hF (t := 0) rfl).keepE hF (t := 6) rfl (congrArg vi (w64_id (by omega) (by omega)))), by dsimp only; omega⟩
        ·
          refine op_ld rfl rfl (gw0 rfl) rfl rfl rfl (fun a w_ hF hS => r_loadn ag35 (hF.ev rfl) (hS.box_rd (i := 0) rfl) sz35) ?_
          refine todo_fork [(5, [9, 10, 11, 12, 13, 16, 17])] hl_ rfl (by kernel_rfl) (List.forall_mem_cons.2 ⟨?_, fun _ h_ => nomatch h_⟩)
          ·
            refine op_dw (m' := [9, 16, 17]) (val := fun x : Int => vi x) (R := fun x => 0 ≤ x ∧ (x < c.threads ∨ (c.threads ≤ 0 ∧ x = 0))) rfl rfl (gw0 rfl) rfl rfl rfl rfl (fun a w_ hF => r_call2 en68 (hF.ev rfl) (hF.ev rfl)) (fun M_ w_ hS => l1Below_c hbs (q := 5) _ hS rfl) ?_; intro x27 h27; try clear hSd; try clear wd; intro wd hSd
            refine todo_fork [(9, [10, 11, 12, 13, 16, 17])] hl_ rfl (by kernel_rfl) (List.forall_mem_cons.2 ⟨?_, fun _ h_ => nomatch h_⟩)
            ·
              refine op_dw (m' := [16, 17]) (val := fun o : Sl.Op => .agg o.enc.toArray) (R := fun o => o.ok) rfl rfl (gw0 rfl) rfl rfl rfl rfl (fun a w_ hF => r_call2 en84 (hF.ev rfl) (hF.ev rfl)) (fun M_ w_ hS => l5Op_c hbs (q := 5) (by omega) hS rfl) ?_; intro o31 h31; try clear hSd; try clear wd; intro wd hSd
              refine todo_mk hl_ rfl (by kernel_rfl) rfl rfl rfl rfl rfl (fun a w_ hF => r_call4 en34 (hF.ev rfl) (hF.ev rfl) (hF.ev rfl) (hF.ev rfl)) (fun w_ hS => specApplyModel_c (hS.part_k (i := 1) rfl) (by omega)) ?_; rintro vs32
              refine todo_pure hl_ (by kernel_rfl) rfl (gw0 rfl) rfl rfl rfl (fun a w_ hF => r_move (hF.ev rfl)) ?_
              refine todo_pure hl_ (by kernel_rfl) rfl (gw0 rfl) rfl rfl rfl (fun a w_ hF => r_extract (hF.ev rfl) rfl) ?_
              refine todo_pure hl_ (by kernel_rfl) rfl (gw0 rfl) rfl rfl rfl (fun a w_ hF => r_extract (hF.ev rfl) rfl) ?_
              refine todo_fin hl_ rfl (by kernel_rfl) (tl := [_, _]) rfl ?_; clear hS a; intro a w90 hF hA_
              obtain ⟨g4, g5, hS, he_0, he_1⟩ := hA_.open2 (by decide); clear hA_
              replace hF := hF.more he_0; clear he_0
              replace hF := hF.more he_1; clear he_1
              clear hl_; try clear hSd
              try dsimp only [List.cons_append, List.nil_append, List.set] at hS
              try clear wd
              refine wl_storew hF hS (i := 0) rfl (hF.ev rfl) (hF.ev rfl) sz35 rfl rfl ?_; intro w91 hS_; replace hS := hS_; clear hS_; dsimp only [List.set, Nat.reduceAdd] at hS
              refine wl_storen (cs' := [_, _]) hF hS (i := 1) rfl (hF.ev rfl) (hF.ev rfl) sz42 ⟨rfl, rfl⟩ rfl rfl ?_; intro w92 hS_; replace hS := hS_; clear hS_; dsimp only [List.set] at hS
              refine wl_nil ⟨rfl, ?_⟩
              refine hK8 _ _ ?_
              refine wp_region_lit ?_
              refine wl hF rfl rfl rfl (r_loadn ag35 (hF.ev rfl) (hS.box_rd (i := 0) rfl) sz35) ?_; clear hF a; intro a hF
              refine wl_storew hF hS (i := 3) rfl (hF.ev rfl) (hF.ev rfl) sz35 rfl rfl ?_; intro w93 hS_; replace hS := hS_; clear hS_; dsimp only [List.set, Nat.reduceAdd] at hS
              refine wl_nil ?_
              simp only [Exit.then, Exit.inBlock, ↓reduceIte]
              refine hK7 _ _ ?_
              refine wp_region_lit ?_
              refine wl_mvs (A := [_]) hF rfl ?_; clear hF a; intro a hF
              refine wl hF rfl rfl rfl (r_sub (hF.ev rfl) ec) ?_; clear hF a; intro a hF
              refine wl_mvs (A := [_]) hF rfl ?_; clear hF a; intro a hF
              refine wl_nil ?_
              try simp only [Exit.then, Exit.inBlock, ↓reduceIte]
              refine ⟨(n - 1, (applyModel c m x27 o31).1, vs32), ⟨fun _ => isModel_apply hmo, isModel_size (isModel_apply hmo), by dsimp only; omega⟩, (Sep.headp (A := [_, _, _, _, _, _, _, _]) (B := [_, _, _, _, _]) hS [3, 2, 5, 6, 7] (by decide) rfl rfl), (((((hF.nil.keep hF (t := 5) rfl).keep hF (t := 4) rfl).keep hF (t := 3) rfl).keep hF (t := 0) rfl).keepE hF (t := 6) rfl (congrArg vi (w64_id (by omega) (by omega)))), by dsimp only; omega⟩
      ·
        refine op_ld rfl rfl (gw0 rfl) rfl rfl rfl (fun a w_ hF hS => r_loadn ag35 (hF.ev rfl) (hS.box_rd (i := 0) rfl) sz35) ?_
        refine todo_fork [(5, [8, 9, 10, 11, 12, 13, 16, 17]), (8, [5, 9, 10, 11, 12, 13, 16, 17])] hl_ rfl (by kernel_rfl) (List.forall_mem_cons.2 ⟨?_, List.forall_mem_cons.2 ⟨?_, fun _ h_ => nomatch h_⟩⟩)
        ·
          refine op_dw (m' := [9, 16, 17]) (val := fun x : Int => vi x) (R := fun x => 0 ≤ x ∧ (x < c.threads ∨ (c.threads ≤ 0 ∧ x = 0))) rfl rfl (gw0 rfl) rfl rfl rfl rfl (fun a w_ hF => r_call2 en68 (hF.ev rfl) (hF.ev rfl)) (fun M_ w_ hS => l1Below_c hbs (q := 5) _ hS rfl) ?_; intro x27 h27; try clear hSd; try clear wd; intro wd hSd
          refine todo_load [9, 10, 11, 12, 13, 16, 17] hl_ (by kernel_rfl) rfl (gw0 rfl) rfl rfl rfl (fun a w_ hF hB_ => r_load1 sc3 (hF.ev rfl) ((hSd.ext hB_).box (i := 3) rfl rfl)) ?_
          refine todo_fork [(9, [10, 11, 12, 13, 16, 17])] hl_ rfl (by kernel_rfl) (List.forall_mem_cons.2 ⟨?_, fun _ h_ => nomatch h_⟩)
          ·
            refine op_dw (m' := [16, 17]) (val := fun o : Sl.Op => .agg o.enc.toArray) (R := fun o => o.ok) rfl rfl (gw0 rfl) rfl rfl rfl rfl (fun a w_ hF => r_call2 en84 (hF.ev rfl) (hF.ev rfl)) (fun M_ w_ hS => l5Op_c hbs (q := 5) (by omega) hS rfl) ?_; intro o31 h31; try clear hSd; try clear wd; intro wd hSd
            refine todo_mk hl_ rfl (by kernel_rfl) rfl rfl rfl rfl rfl (fun a w_ hF => r_call4 en34 (hF.ev rfl) (hF.ev rfl) (hF.ev rfl) (hF.ev rfl)) (fun w_ hS => specApplyModel_c (hS.part_k (i := 1) rfl) (by omega)) ?_; rintro vs32
            refine todo_pure hl_ (by kernel_rfl) rfl (gw0 rfl) rfl rfl rfl (fun a w_ hF => r_move (hF.ev rfl)) ?_
            refine todo_pure hl_ (by kernel_rfl) rfl (gw0 rfl) rfl rfl rfl (fun a w_ hF => r_extract (hF.ev rfl) rfl) ?_
            refine todo_pure hl_ (by kernel_rfl) rfl (gw0 rfl) rfl rfl rfl (fun a w_ hF => r_extract (hF.ev rfl) rfl) ?_
            refine todo_fin hl_ rfl (by kernel_rfl) (tl := [_, _]) rfl ?_; clear hS a; intro a w94 hF hA_
            obtain ⟨g4, g5, hS, he_0, he_1⟩ := hA_.open2 (by decide); clear hA_
            replace hF := hF.more he_0; clear he_0
            replace hF := hF.more he_1; clear he_1
            clear hl_; try clear hSd
            try dsimp only [List.cons_append, List.nil_append, List.set] at hS
            try clear wd
            refine wl_storew hF hS (i := 0) rfl (hF.ev rfl) (hF.ev rfl) sz35 rfl rfl ?_; intro w95 hS_; replace hS := hS_; clear hS_; dsimp only [List.set, Nat.reduceAdd] at hS
            refine wl_storen (cs' := [_, _]) hF hS (i := 1) rfl (hF.ev rfl) (hF.ev rfl) sz42 ⟨rfl, rfl⟩ rfl rfl ?_; intro w96 hS_; replace hS := hS_; clear hS_; dsimp only [List.set] at hS
            refine wl_nil ⟨rfl, ?_⟩
            refine hK8 _ _ ?_
            refine wp_region_lit ?_
            refine wl hF rfl rfl rfl (r_loadn ag35 (hF.ev rfl) (hS.box_rd (i := 0) rfl) sz35) ?_; clear hF a; intro a hF
            refine wl_storew hF hS (i := 3) rfl (hF.ev rfl) (hF.ev rfl) sz35 rfl rfl ?_; intro w97 hS_; replace hS := hS_; clear hS_; dsimp only [List.set, Nat.reduceAdd] at hS
            refine wl_nil ?_
            simp only [Exit.then, Exit.inBlock, ↓reduceIte]
            refine hK7 _ _ ?_
            refine wp_region_lit ?_
            refine wl_mvs (A := [_]) hF rfl ?_; clear hF a; intro a hF
            refine wl hF rfl rfl rfl (r_sub (hF.ev rfl) ec) ?_; clear hF a; intro a hF
            refine wl_mvs (A := [_]) hF rfl ?_; clear hF a; intro a hF
            refine wl_nil ?_
            try simp only [Exit.then, Exit.inBlock, ↓reduceIte]
            refine ⟨(n - 1, (applyModel c m x27 o31).1, vs32), ⟨fun _ => isModel_apply hmo, isModel_size (isModel_apply hmo), by dsimp only; omega⟩, (Sep.headp (A := [_, _, _, _, _, _, _, _]) (B := [_, _, _, _, _]) hS [3, 2, 5, 6, 7] (by decide) rfl rfl), (((((hF.nil.keep hF (t := 5) rfl).keep hF (t := 4) rfl).keep hF (t := 3) rfl).keep hF (t := 0) rfl).keepE hF (t := 6) rfl (congrArg vi (w64_id (by omega) (by omega)))), by dsimp only; omega⟩
        ·
          refine op_ld rfl rfl (gw0 rfl) rfl rfl rfl (fun a w_ hF hS => r_load1 sc3 (hF.ev rfl) (hS.box (i := 3) rfl rfl)) ?_
          refine todo_fork [(5, [9, 10, 11, 12, 13, 16, 17])] hl_ rfl (by kernel_rfl) (List.forall_mem_cons.2 ⟨?_, fun _ h_ => nomatch h_⟩)
          ·
            refine op_dw (m' := [9, 16, 17]) (val := fun x : Int => vi x) (R := fun x => 0 ≤ x ∧ (x < c.threads ∨ (c.threads ≤ 0 ∧ x = 0))) rfl rfl (gw0 rfl) rfl rfl rfl rfl (fun a w_ hF => r_call2 en68 (hF.ev rfl) (hF.ev rfl)) (fun M_ w_ hS => l1Below_c hbs (q := 5) _ hS rfl) ?_; intro x27 h27; try clear hSd; try clear wd; intro wd hSd
            refine todo_fork [(9, [10, 11, 12, 13, 16, 17])] hl_ rfl (by kernel_rfl) (List.forall_mem_cons.2 ⟨?_, fun _ h_ => nomatch h_⟩)
            ·
              refine op_dw (m' := [16, 17]) (val := fun o : Sl.Op => .agg o.enc.toArray) (R := fun o => o.ok) rfl rfl (gw0 rfl) rfl rfl rfl rfl (fun a w_ hF => r_call2 en84 (hF.ev rfl) (hF.ev rfl)) (fun M_ w_ hS => l5Op_c hbs (q := 5) (by omega) hS rfl) ?_; intro o31 h31; try clear hSd; try clear wd; intro wd hSd
              refine todo_mk hl_ rfl (by kernel_rfl) rfl rfl rfl rfl rfl (fun a w_ hF => r_call4 en34 (hF.ev rfl) (hF.ev rfl) (hF.ev rfl) (hF.ev rfl)) (fun w_ hS => specApplyModel_c (hS.part_k (i := 1) rfl) (by omega)) ?_; rintro vs32
              refine todo_pure hl_ (by kernel_rfl) rfl (gw0 rfl) rfl rfl rfl (fun a w_ hF => r_move (hF.ev rfl)) ?_
              refine todo_pure hl_ (by kernel_rfl) rfl (gw0 rfl) rfl rfl rfl (fun a w_ hF => r_extract (hF.ev rfl) rfl) ?_
              refine todo_pure hl_ (by kernel_rfl) rfl (gw0 rfl) rfl rfl rfl (fun a w_ hF => r_extract (hF.ev rfl) rfl) ?_
              refine todo_fin hl_ rfl (by kernel_rfl) (tl := [_, _]) rfl ?_; clear hS a; intro a w98 hF hA_
              obtain ⟨g4, g5, hS, he_0, he_1⟩ := hA_.open2 (by decide); clear hA_
              replace hF := hF.more he_0; clear he_0
              replace hF := hF.more he_1; clear he_1
              clear hl_; try clear hSd
              try dsimp only [List.cons_append, List.nil_append, List.set] at hS
              try clear wd
              refine wl_storew hF hS (i := 0) rfl (hF.ev rfl) (hF.ev rfl) sz35 rfl rfl ?_; intro w99 hS_; replace hS := hS_; clear hS_; dsimp only [List.set, Nat.reduceAdd] at hS
              refine wl_storen (cs' := [_, _]) hF hS (i := 1) rfl (hF.ev rfl) (hF.ev rfl) sz42 ⟨rfl, rfl⟩ rfl rfl ?_; intro w100 hS_; replace hS := hS_; clear hS_; dsimp only [List.set] at hS
              refine wl_nil ⟨rfl, ?_⟩
              refine hK8 _ _ ?_
              refine wp_region_lit ?_
              refine wl hF rfl rfl rfl (r_loadn ag35 (hF.ev rfl) (hS.box_rd (i := 0) rfl) sz35) ?_; clear hF a; intro a hF
              refine wl_storew hF hS (i := 3) rfl (hF.ev rfl) (hF.ev rfl) sz35 rfl rfl ?_; intro w101 hS_; replace hS := hS_; clear hS_; dsimp only [List.set, Nat.reduceAdd] at hS
              refine wl_nil ?_
              simp only [Exit.then, Exit.inBlock, ↓reduceIte]
              refine hK7 _ _ ?_
              refine wp_region_lit ?_
              refine wl_mvs (A := [_]) hF rfl ?_; clear hF a; intro a hF
              refine wl hF rfl rfl rfl (r_sub (hF.ev rfl) ec) ?_; clear hF a; intro a hF
              refine wl_mvs (A := [_]) hF rfl ?_; clear hF a; intro a hF
              refine wl_nil ?_
              try simp only [Exit.then, Exit.inBlock, ↓reduceIte]
              refine ⟨(n - 1, (applyModel c m x27 o31).1, vs32), ⟨fun _ => isModel_apply hmo, isModel_size (isModel_apply hmo), by dsimp only; omega⟩, (Sep.headp (A := [_, _, _, _, _, _, _, _]) (B := [_, _, _, _, _]) hS [3, 2, 5, 6, 7] (by decide) rfl rfl), (((((hF.nil.keep hF (t := 5) rfl).keep hF (t := 4) rfl).keep hF (t := 3) rfl).keep hF (t := 0) rfl).keepE hF (t := 6) rfl (congrArg vi (w64_id (by omega) (by omega)))), by dsimp only; omega⟩
    ·
      refine op_ld rfl rfl (gw0 rfl) rfl rfl rfl (fun a w_ hF hS => r_loadn ag35 (hF.ev rfl) (hS.box_rd (i := 0) rfl) sz35) ?_
      refine todo_fork [(5, [8, 9, 0, 10, 11, 12, 13, 16, 17]), (8, [5, 9, 0, 10, 11, 12, 13, 16, 17]), (0, [5, 8, 9, 10, 11, 12, 13, 16, 17])] hl_ rfl (by kernel_rfl) (List.forall_mem_cons.2 ⟨?_, List.forall_mem_cons.2 ⟨?_, List.forall_mem_cons.2 ⟨?_, fun _ h_ => nomatch h_⟩⟩⟩)
      ·
        refine op_dw (m' := [9, 16, 17]) (val := fun x : Int => vi x) (R := fun x => 0 ≤ x ∧ (x < c.threads ∨ (c.threads ≤ 0 ∧ x = 0))) rfl rfl (gw0 rfl) rfl rfl rfl rfl (fun a w_ hF => r_call2 en68 (hF.ev rfl) (hF.ev rfl)) (fun M_ w_ hS => l1Below_c hbs (q := 5) _ hS rfl) ?_; intro x27 h27; try clear hSd; try clear wd; intro wd hSd
        refine todo_load [9, 10, 11, 12, 13, 16, 17] hl_ (by kernel_rfl) rfl (gw0 rfl) rfl rfl rfl (fun a w_ hF hB_ => r_load1 sc3 (hF.ev rfl) ((hSd.ext hB_).box (i := 3) rfl rfl)) ?_
        refine todo_fork [(9, [0, 10, 11, 12, 13, 16, 17]), (0, [9, 10, 11, 12, 13, 16, 17])] hl_ rfl (by kernel_rfl) (List.forall_mem_cons.2 ⟨?_, List.forall_mem_cons.2 ⟨?_, fun _ h_ => nomatch h_⟩⟩)
        ·
          refine op_dw (m' := [16, 17]) (val := fun o : Sl.Op => .agg o.enc.toArray) (R := fun o => o.ok) rfl rfl (gw0 rfl) rfl rfl rfl rfl (fun a w_ hF => r_call2 en84 (hF.ev rfl) (hF.ev rfl)) (fun M_ w_ hS => l5Op_c hbs (q := 5) (by omega) hS rfl) ?_; intro o31 h31; try clear hSd; try clear wd; intro wd hSd
          refine todo_load [10, 11, 12, 13, 16, 17] hl_ (by kernel_rfl) rfl (gw0 rfl) rfl rfl rfl (fun a w_ hF hB_ => r_loadn ag38 (hF.ev rfl) ((hSd.ext hB_).box_rd (i := 3) rfl) sz38) ?_
          refine todo_mk hl_ rfl (by kernel_rfl) rfl rfl rfl rfl rfl (fun a w_ hF => r_call4 en34 (hF.ev rfl) (hF.ev rfl) (hF.ev rfl) (hF.ev rfl)) (fun w_ hS => specApplyModel_c (hS.part_k (i := 1) rfl) (by omega)) ?_; rintro vs32
          refine todo_pure hl_ (by kernel_rfl) rfl (gw0 rfl) rfl rfl rfl (fun a w_ hF => r_move (hF.ev rfl)) ?_
          refine todo_pure hl_ (by kernel_rfl) rfl (gw0 rfl) rfl rfl rfl (fun a w_ hF => r_extract (hF.ev rfl) rfl) ?_
          refine todo_pure hl_ (by kernel_rfl) rfl (gw0 rfl) rfl rfl rfl (fun a w_ hF => r_extract (hF.ev rfl) rfl) ?_
          refine todo_fin hl_ rfl (by kernel_rfl) (tl := [_, _]) rfl ?_; clear hS a; intro a w102 hF hA_
          obtain ⟨g4, g5, hS, he_0, he_1⟩ := hA_.open2 (by decide); clear hA_
          replace hF := hF.more he_0; clear he_0
          replace hF := hF.more he_1; clear he_1
          clear hl_; try clear hSd
          try dsimp only [List.cons_append, List.nil_append, List.set] at hS
          try clear wd
          refine wl_storew hF hS (i := 0) rfl (hF.ev rfl) (hF.ev rfl) sz35 rfl rfl ?_; intro w103 hS_; replace hS := hS_; clear hS_; dsimp only [List.set, Nat.reduceAdd] at hS
          refine wl_storen (cs' := [_, _]) hF hS (i := 1) rfl (hF.ev rfl) (hF.ev rfl) sz42 ⟨rfl, rfl⟩ rfl rfl ?_; intro w104 hS_; replace hS := hS_; clear hS_; dsimp only [List.set] at hS
          refine wl_nil ⟨rfl, ?_⟩
          refine hK8 _ _ ?_
          refine wp_region_lit ?_
          refine wl hF rfl rfl rfl (r_loadn ag35 (hF.ev rfl) (hS.box_rd (i := 0) rfl) sz35) ?_; clear hF a; intro a hF
          refine wl_storew hF hS (i := 3) rfl (hF.ev rfl) (hF.ev rfl) sz35 rfl rfl ?_; intro w105 hS_; replace hS := hS_; clear hS_; dsimp only [List.set, Nat.reduceAdd] at hS
          refine wl_nil ?_
          simp only [Exit.then, Exit.inBlock, ↓reduceIte]
          refine hK7 _ _ ?_
          refine wp_region_lit ?_
          refine wl_mvs (A := [_]) hF rfl ?_; clear hF a; intro a hF
          refine wl hF rfl rfl rfl (r_sub (hF.ev rfl) ec) ?_; clear hF a; intro a hF
          refine wl_mvs (A := [_]) hF rfl ?_; clear hF a; intro a hF
          refine wl_nil ?_
          try simp only [Exit.then, Exit.inBlock, ↓reduceIte]
          refine ⟨(n - 1, (applyModel c m x27 o31).1, vs32), ⟨fun _ => isModel_apply hmo, isModel_size (isModel_apply hmo), by dsimp only; omega⟩, (Sep.headp (A := [_, _, _, _, _, _, _, _]) (B := [_, _, _, _, _]) hS [3, 2, 5, 6, 7] (by decide) rfl rfl), (((((hF.nil.keep hF (t := 5) rfl).keep hF (t := 4) rfl).keep hF (t := 3) rfl).keep hF (t := 0) rfl).keepE hF (t := 6) rfl (congrArg vi (w64_id (by omega) (by omega)))), by dsimp only; omega⟩
        ·
          refine op_ld rfl rfl (gw0 rfl) rfl rfl rfl (fun a w_ hF hS => r_loadn ag38 (hF.ev rfl) (hS.box_rd (i := 3) rfl) sz38) ?_
          refine todo_fork [(9, [10, 11, 12, 13, 16, 17])] hl_ rfl (by kernel_rfl) (List.forall_mem_cons.2 ⟨?_, fun _ h_ => nomatch h_⟩)
          ·
            refine op_dw (m' := [16, 17]) (val := fun o : Sl.Op => .agg o.enc.toArray) (R := fun o => o.ok) rfl rfl (gw0 rfl) rfl rfl rfl rfl (fun a w_ hF => r_call2 en84 (hF.ev rfl) (hF.ev rfl)) (fun M_ w_ hS => l5Op_c hbs (q := 5) (by omega) hS rfl) ?_; intro o31 h31; try clear hSd; try clear wd; intro wd hSd
            refine todo_mk hl_ rfl (by kernel_rfl) rfl rfl rfl rfl rfl (fun a w_ hF => r_call4 en34 (hF.ev rfl) (hF.ev rfl) (hF.ev rfl) (hF.ev rfl)) (fun w_ hS => specApplyModel_c (hS.part_k (i := 1) rfl) (by omega)) ?_; rintro vs32
            refine todo_pure hl_ (by kernel_rfl) rfl (gw0 rfl) rfl rfl rfl (fun a w_ hF => r_move (hF.ev rfl)) ?_
            refine todo_pure hl_ (by kernel_rfl) rfl (gw0 rfl) rfl rfl rfl (fun a w_ hF => r_extract (hF.ev rfl) rfl) ?_
            refine todo_pure hl_ (by kernel_rfl) rfl (gw0 rfl) rfl rfl rfl (fun a w_ hF => r_extract (hF.ev rfl) rfl) ?_
            refine todo_fin hl_ rfl (by kernel_rfl) (tl := [_, _]) rfl ?_; clear hS a; intro a w106 hF hA_
            obtain ⟨g4, g5, hS, he_0, he_1⟩ := hA_.open2 (by decide); clear hA_
            replace hF := hF.more he_0; clear he_0
            replace hF := hF.more he_1; clear he_1
            clear hl_; try clear hSd
            try dsimp only [List.cons_append, List.nil_append, List.set] at hS
            try clear wd
            refine wl_storew hF hS (i := 0) rfl (hF.ev rfl) (hF.ev rfl) sz35 rfl rfl ?_; intro w107 hS_; replace hS := hS_; clear hS_; dsimp only [List.set, Nat.reduceAdd] at hS
            refine wl_storen (cs' := [_, _]) hF hS (i := 1) rfl (hF.ev rfl) (hF.ev rfl) sz42 ⟨rfl, rfl⟩ rfl rfl ?_; intro w108 hS_; replace hS := hS_; clear hS_; dsimp only [List.set] at hS
            refine wl_nil ⟨rfl, ?_⟩
            refine hK8 _ _ ?_
            refine wp_region_lit ?_
            refine wl hF rfl rfl rfl (r_loadn ag35 (hF.ev rfl) (hS.box_rd (i := 0) rfl) sz35) ?_; clear hF a; intro a hF
            refine wl_storew hF hS (i := 3) rfl (hF.ev rfl) (hF.ev rfl) sz35 rfl rfl ?_; intro w109 hS_; replace hS := hS_; clear hS_; dsimp only [List.set, Nat.reduceAdd] at hS
            refine wl_nil ?_
            simp only [Exit.then, Exit.inBlock, ↓reduceIte]
            refine hK7 _ _ ?_
            refine wp_region_lit ?_
            refine wl_mvs (A := [_]) hF rfl ?_; clear hF a; intro a hF
            refine wl hF rfl rfl rfl (r_sub (hF.ev rfl) ec) ?_; clear hF a; intro a hF
            refine wl_mvs (A := [_]) hF rfl ?_; clear hF a; intro a hF
            refine wl_nil ?_
            try simp only [Exit.then, Exit.inBlock, ↓reduceIte]
            refine ⟨(n - 1, (applyModel c m x27 o31).1, vs32), ⟨fun _ => isModel_apply hmo, isModel_size (isModel_apply hmo), by dsimp only; omega⟩, (Sep.headp (A := [_, _, _, _, _, _, _, _]) (B := [_, _, _, _, _]) hS [3, 2, 5, 6, 7] (by decide) rfl rfl), (((((hF.nil.keep hF (t := 5) rfl).keep hF (t := 4) rfl).keep hF (t := 3) rfl).keep hF (t := 0) rfl).keepE hF (t := 6) rfl (congrArg vi (w64_id (by omega) (by omega)))), by dsimp only; omega⟩
      ·
        refine op_ld rfl rfl (gw0 rfl) rfl rfl rfl (fun a w_ hF hS => r_load1 sc3 (hF.ev rfl) (hS.box (i := 3) rfl rfl)) ?_
        refine todo_fork [(5, [9, 0, 10, 11, 12, 13, 16, 17]), (0, [5, 9, 10, 11, 12, 13, 16, 17])] hl_ rfl (by kernel_rfl) (List.forall_mem_cons.2 ⟨?_, List.forall_mem_cons.2 ⟨?_, fun _ h_ => nomatch h_⟩⟩)
        ·
          refine op_dw (m' := [9, 16, 17]) (val := fun x : Int => vi x) (R := fun x => 0 ≤ x ∧ (x < c.threads ∨ (c.threads ≤ 0 ∧ x = 0))) rfl rfl (gw0 rfl) rfl rfl rfl rfl (fun a w_ hF => r_call2 en68 (hF.ev rfl) (hF.ev rfl)) (fun M_ w_ hS => l1Below_c hbs (q := 5) _ hS rfl) ?_; intro x27 h27; try clear hSd; try clear wd; intro wd hSd
          refine todo_fork [(9, [0, 10, 11, 12, 13, 16, 17]), (0, [9, 10, 11, 12, 13, 16, 17])] hl_ rfl (by kernel_rfl) (List.forall_mem_cons.2 ⟨?_, List.forall_mem_cons.2 ⟨?_, fun _ h_ => nomatch h_⟩⟩)
          ·
            refine op_dw (m' := [16, 17]) (val := fun o : Sl.Op => .agg o.enc.toArray) (R := fun o => o.ok) rfl rfl (gw0 rfl) rfl rfl rfl rfl (fun a w_ hF => r_call2 en84 (hF.ev rfl) (hF.ev rfl)) (fun M_ w_ hS => l5Op_c hbs (q := 5) (by omega) hS rfl) ?_; intro o31 h31; try clear hSd; try clear wd; intro wd hSd
            refine todo_load [10, 11, 12, 13, 16, 17] hl_ (by kernel_rfl) rfl (gw0 rfl) rfl rfl rfl (fun a w_ hF hB_ => r_loadn ag38 (hF.ev rfl) ((hSd.ext hB_).box_rd (i := 3) rfl) sz38) ?_
            refine todo_mk hl_ rfl (by kernel_rfl) rfl rfl rfl rfl rfl (fun a w_ hF => r_call4 en34 (hF.ev rfl) (hF.ev rfl) (hF.ev rfl) (hF.ev rfl)) (fun w_ hS => specApplyModel_c (hS.part_k (i := 1) rfl) (by omega)) ?_; rintro vs32
            refine todo_pure hl_ (by kernel_rfl) rfl (gw0 rfl) rfl rfl rfl (fun a w_ hF => r_move (hF.ev rfl)) ?_
            refine todo_pure hl_ (by kernel_rfl) rfl (gw0 rfl) rfl rfl rfl (fun a w_ hF => r_extract (hF.ev rfl) rfl) ?_
            refine todo_pure hl_ (by kernel_rfl) rfl (gw0 rfl) rfl rfl rfl (fun a w_ hF => r_extract (hF.ev rfl) rfl) ?_
            refine todo_fin hl_ rfl (by kernel_rfl) (tl := [_, _]) rfl ?_; clear hS a; intro a w110 hF hA_
            obtain ⟨g4, g5, hS, he_0, he_1⟩ := hA_.open2 (by decide); clear hA_
            replace hF := hF.more he_0; clear he_0
            replace hF := hF.more he_1; clear he_1
            clear hl_; try clear hSd
            try dsimp only [List.cons_append, List.nil_append, List.set] at hS
            try clear wd
            refine wl_storew hF hS (i := 0) rfl (hF.ev rfl) (hF.ev rfl) sz35 rfl rfl ?_; intro w111 hS_; replace hS := hS_; clear hS_; dsimp only [List.set, Nat.reduceAdd] at hS
            refine wl_storen (cs' := [_, _]) hF hS (i := 1) rfl (hF.ev rfl) (hF.ev rfl) sz42 ⟨rfl, rfl⟩ rfl rfl ?_; intro w112 hS_; replace hS := hS_; clear hS_; dsimp only [List.set] at hS
            refine wl_nil ⟨rfl, ?_⟩
            refine hK8 _ _ ?_
            refine wp_region_lit ?_
            refine wl hF rfl rfl rfl (r_loadn ag35 (hF.ev rfl) (hS.box_rd (i := 0) rfl) sz35) ?_; clear hF a; intro a hF
            refine wl_storew hF hS (i := 3) rfl (hF.ev rfl) (hF.ev rfl) sz35 rfl rfl ?_; intro w113 hS_; replace hS := hS_; clear hS_; dsimp only [List.set, Nat.reduceAdd] at hS
            refine wl_nil ?_
            simp only [Exit.then, Exit.inBlock, ↓reduceIte]
            refine hK7 _ _ ?_
            refine wp_region_lit ?_
            refine wl_mvs (A := [_]) hF rfl ?_; clear hF a; intro a hF
            refine wl hF rfl rfl rfl (r_sub (hF.ev rfl) ec) ?_; clear hF a; intro a hF
            refine wl_mvs (A := [_]) hF rfl ?_; clear hF a; intro a hF
            refine wl_nil ?_
            try simp only [Exit.then, Exit.inBlock, ↓reduceIte]
            refine ⟨(n - 1, (applyModel c m x27 o31).1, vs32), ⟨fun _ => isModel_apply hmo, isModel_size (isModel_apply hmo), by dsimp only; omega⟩, (Sep.headp (A := [_, _, _, _, _, _, _, _]) (B := [_, _, _, _, _]) hS [3, 2, 5, 6, 7] (by decide) rfl rfl), (((((hF.nil.keep hF (t := 5) rfl).keep hF (t := 4) rfl).keep hF (t := 3) rfl).keep hF (t := 0) rfl).keepE hF (t := 6) rfl (congrArg vi (w64_id (by omega) (by omega)))), by dsimp only; omega⟩
          ·
            refine op_ld rfl rfl (gw0 rfl) rfl rfl rfl (fun a w_ hF hS => r_loadn ag38 (hF.ev rfl) (hS.box_rd (i := 3) rfl) sz38) ?_
            refine todo_fork [(9, [10, 11, 12, 13, 16, 17])] hl_ rfl (by kernel_rfl) (List.forall_mem_cons.2 ⟨?_, fun _ h_ => nomatch h_⟩)
            ·
              refine op_dw (m' := [16, 17]) (val := fun o : Sl.Op => .agg o.enc.toArray) (R := fun o => o.ok) rfl rfl (gw0 rfl) rfl rfl rfl rfl (fun a w_ hF => r_call2 en84 (hF.ev rfl) (hF.ev rfl)) (fun M_ w_ hS => l5Op_c hbs (q := 5) (by omega) hS rfl) ?_; intro o31 h31; try clear hSd; try clear wd; intro wd hSd
              refine todo_mk hl_ rfl (by kernel_rfl) rfl rfl rfl rfl rfl (fun a w_ hF => r_call4 en34 (hF.ev rfl) (hF.ev rfl) (hF.ev rfl) (hF.ev rfl)) (fun w_ hS => specApplyModel_c (hS.part_k (i := 1) rfl) (by omega)) ?_; rintro vs32
              refine todo_pure hl_ (by kernel_rfl) rfl (gw0 rfl) rfl rfl rfl (fun a w_ hF => r_move (hF.ev rfl)) ?_
              refine todo_pure hl_ (by kernel_rfl) rfl (gw0 rfl) rfl rfl rfl (fun a w_ hF => r_extract (hF.ev rfl) rfl) ?_
              refine todo_pure hl_ (by kernel_rfl) rfl (gw0 rfl) rfl rfl rfl (fun a w_ hF => r_extract (hF.ev rfl) rfl) ?_
              refine todo_fin hl_ rfl (by kernel_rfl) (tl := [_, _]) rfl ?_; clear hS a; intro a w114 hF hA_
              obtain ⟨g4, g5, hS, he_0, he_1⟩ := hA_.open2 (by decide); clear hA_
              replace hF := hF.more he_0; clear he_0
              replace hF := hF.more he_1; clear he_1
              clear hl_; try clear hSd
              try dsimp only [List.cons_append, List.nil_append, List.set] at hS
              try clear wd
              refine wl_storew hF hS (i := 0) rfl (hF.ev rfl) (hF.ev rfl) sz35 rfl rfl ?_; intro w115 hS_; replace hS := hS_; clear hS_; dsimp only [List.set, Nat.reduceAdd] at hS
              refine wl_storen (cs' := [_, _]) hF hS (i := 1) rfl (hF.ev rfl) (hF.ev rfl) sz42 ⟨rfl, rfl⟩ rfl rfl ?_; intro w116 hS_; replace hS := hS_; clear hS_; dsimp only [List.set] at hS
              refine wl_nil ⟨rfl, ?_⟩
              refine hK8 _ _ ?_
              refine wp_region_lit ?_
              refine wl hF rfl rfl rfl (r_loadn ag35 (hF.ev rfl) (hS.box_rd (i := 0) rfl) sz35) ?_; clear hF a; intro a hF
              refine wl_storew hF hS (i := 3) rfl (hF.ev rfl) (hF.ev rfl) sz35 rfl rfl ?_; intro w117 hS_; replace hS := hS_; clear hS_; dsimp only [List.set, Nat.reduceAdd] at hS
              refine wl_nil ?_
              simp only [Exit.then, Exit.inBlock, ↓reduceIte]
              refine hK7 _ _ ?_
              refine wp_region_lit ?_
              refine wl_mvs (A := [_]) hF rfl ?_; clear hF a; intro a hF
              refine wl hF rfl rfl rfl (r_sub (hF.ev rfl) ec) ?_; clear hF a; intro a hF
              refine wl_mvs (A := [_]) hF rfl ?_; clear hF a; intro a hF
              refine wl_nil ?_
              try simp only [Exit.then, Exit.inBlock, ↓reduceIte]
              refine ⟨(n - 1, (applyModel c m x27 o31).1, vs32), ⟨fun _ => isModel_apply hmo, isModel_size (isModel_apply hmo), by dsimp only; omega⟩, (Sep.headp (A := [_, _, _, _, _, _, _, _]) (B := [_, _, _, _, _]) hS [3, 2, 5, 6, 7] (by decide) rfl rfl), (((((hF.nil.keep hF (t := 5) rfl).keep hF (t := 4) rfl).keep hF (t := 3) rfl).keep hF (t := 0) rfl).keepE hF (t := 6) rfl (congrArg vi (w64_id (by omega) (by omega)))), by dsimp only; omega⟩
        ·
          refine op_ld rfl rfl (gw0 rfl) rfl rfl rfl (fun a w_ hF hS => r_loadn ag38 (hF.ev rfl) (hS.box_rd (i := 3) rfl) sz38) ?_
          refine todo_fork [(5, [9, 10, 11, 12, 13, 16, 17])] hl_ rfl (by kernel_rfl) (List.forall_mem_cons.2 ⟨?_, fun _ h_ => nomatch h_⟩)
          ·
            refine op_dw (m' := [9, 16, 17]) (val := fun x : Int => vi x) (R := fun x => 0 ≤ x ∧ (x < c.threads ∨ (c.threads ≤ 0 ∧ x = 0))) rfl rfl (gw0 rfl) rfl rfl rfl rfl (fun a w_ hF => r_call2 en68 (hF.ev rfl) (hF.ev rfl)) (fun M_ w_ hS => l1Below_c hbs (q := 5) _ hS rfl) ?_; intro x27 h27; try clear hSd; try clear wd; intro wd hSd
            refine todo_fork [(9, [10, 11, 12, 13, 16, 17])] hl_ rfl (by kernel_rfl) (List.forall_mem_cons.2 ⟨?_, fun _ h_ => nomatch h_⟩)
            ·
              refine op_dw (m' := [16, 17]) (val := fun o : Sl.Op => .agg o.enc.toArray) (R := fun o => o.ok) rfl rfl (gw0 rfl) rfl rfl rfl rfl (fun a w_ hF => r_call2 en84 (hF.ev rfl) (hF.ev rfl)) (fun M_ w_ hS => l5Op_c hbs (q := 5) (by omega) hS rfl) ?_; intro o31 h31; try clear hSd; try clear wd; intro wd hSd
              refine todo_mk hl_ rfl (by kernel_rfl) rfl rfl rfl rfl rfl (fun a w_ hF => r_call4 en34 (hF.ev rfl) (hF.ev rfl) (hF.ev rfl) (hF.ev rfl)) (fun w_ hS => specApplyModel_c (hS.part_k (i := 1) rfl) (by omega)) ?_; rintro vs32
              refine todo_pure hl_ (by kernel_rfl) rfl (gw0 rfl) rfl rfl rfl (fun a w_ hF => r_move (hF.ev rfl)) ?_
              refine todo_pure hl_ (by kernel_rfl) rfl (gw0 rfl) rfl rfl rfl (fun a w_ hF => r_extract (hF.ev rfl) rfl) ?_
              refine todo_pure hl_ (by kernel_rfl) rfl (gw0 rfl) rfl rfl rfl (fun a w_ hF => r_extract (hF.ev rfl) rfl) ?_
              refine todo_fin hl_ rfl (by kernel_rfl) (tl := [_, _]) rfl ?_; clear hS a; intro a w118 hF hA_
              obtain ⟨g4, g5, hS, he_0, he_1⟩ := hA_.open2 (by decide); clear hA_
              replace hF := hF.more he_0; clear he_0
              replace hF := hF.more he_1; clear he_1
              clear hl_; try clear hSd
              try dsimp only [List.cons_append, List.nil_append, List.set] at hS
              try clear wd
              refine wl_storew hF hS (i := 0) rfl (hF.ev rfl) (hF.ev rfl) sz35 rfl rfl ?_; intro w119 hS_; replace hS := hS_; clear hS_; dsimp only [List.set, Nat.reduceAdd] at hS
              refine wl_storen (cs' := [_, _]) hF hS (i := 1) rfl (hF.ev rfl) (hF.ev rfl) sz42 ⟨rfl, rfl⟩ rfl rfl ?_; intro w120 hS_; replace hS := hS_; clear hS_; dsimp only [List.set] at hS
              refine wl_nil ⟨rfl, ?_⟩
              refine hK8 _ _ ?_
              refine wp_region_lit ?_
              refine wl hF rfl rfl rfl (r_loadn ag35 (hF.ev rfl) (hS.box_rd (i := 0) rfl) sz35) ?_; clear hF a; intro a hF
              refine wl_storew hF hS (i := 3) rfl (hF.ev rfl) (hF.ev rfl) sz35 rfl rfl ?_; intro w121 hS_; replace hS := hS_; clear hS_; dsimp only [List.set, Nat.reduceAdd] at hS
              refine wl_nil ?_
              simp only [Exit.then, Exit.inBlock, ↓reduceIte]
              refine hK7 _ _ ?_
              refine wp_region_lit ?_
              refine wl_mvs (A := [_]) hF rfl ?_; clear hF a; intro a hF
              refine wl hF rfl rfl rfl (r_sub (hF.ev rfl) ec) ?_; clear hF a; intro a hF
              refine wl_mvs (A := [_]) hF rfl ?_; clear hF a; intro a hF
              refine wl_nil ?_
              try simp only [Exit.then, Exit.inBlock, ↓reduceIte]
              refine ⟨(n - 1, (applyModel c m x27 o31).1, vs32), ⟨fun _ => isModel_apply hmo, isModel_size (isModel_apply hmo), by dsimp only; omega⟩, (Sep.headp (A := [_, _, _, _, _, _, _, _]) (B := [_, _, _, _, _]) hS [3, 2, 5, 6, 7] (by decide) rfl rfl), (((((hF.nil.keep hF (t := 5) rfl).keep hF (t := 4) rfl).keep hF (t := 3) rfl).keep hF (t := 0) rfl).keepE hF (t := 6) rfl (congrArg vi (w64_id (by omega) (by omega)))), by dsimp only; omega⟩
      ·
        refine op_ld rfl rfl (gw0 rfl) rfl rfl rfl (fun a w_ hF hS => r_loadn ag38 (hF.ev rfl) (hS.box_rd (i := 3) rfl) sz38) ?_
        refine todo_fork [(5, [8, 9, 10, 11, 12, 13, 16, 17]), (8, [5, 9, 10, 11, 12, 13, 16, 17])] hl_ rfl (by kernel_rfl) (List.forall_mem_cons.2 ⟨?_, List.forall_mem_cons.2 ⟨?_, fun _ h_ => nomatch h_⟩⟩)
        ·
          refine op_dw (m' := [9, 16, 17]) (val := fun x : Int => vi x) (R := fun x => 0 ≤ x ∧ (x < c.threads ∨ (c.threads ≤ 0 ∧ x = 0))) rfl rfl (gw0 rfl) rfl rfl rfl rfl (fun a w_ hF => r_call2 en68 (hF.ev rfl) (hF.ev rfl)) (fun M_ w_ hS => l1Below_c hbs (q := 5) _ hS rfl) ?_; intro x27 h27; try clear hSd; try clear wd; intro wd hSd
          refine todo_load [9, 10, 11, 12, 13, 16, 17] hl_ (by kernel_rfl) rfl (gw0 rfl) rfl rfl rfl (fun a w_ hF hB_ => r_load1 sc3 (hF.ev rfl) ((hSd.ext hB_).box (i := 3) rfl rfl)) ?_
          refine todo_fork [(9, [10, 11, 12, 13, 16, 17])] hl_ rfl (by kernel_rfl) (List.forall_mem_cons.2 ⟨?_, fun _ h_ => nomatch h_⟩)
          ·
            refine op_dw (m' := [16, 17]) (val := fun o : Sl.Op => .agg o.enc.toArray) (R := fun o => o.ok) rfl rfl (gw0 rfl) rfl rfl rfl rfl (fun a w_ hF => r_call2 en84 (hF.ev rfl) (hF.ev rfl)) (fun M_ w_ hS => l5Op_c hbs (q := 5) (by omega) hS rfl) ?_; intro o31 h31; try clear hSd; try clear wd; intro wd hSd
            refine todo_mk hl_ rfl (by kernel_rfl) rfl rfl rfl rfl rfl (fun a w_ hF => r_call4 en34 (hF.ev rfl) (hF.ev rfl) (hF.ev rfl) (hF.ev rfl)) (fun w_ hS => specApplyModel_c (hS.part_k (i := 1) rfl) (by omega)) ?_; rintro vs32
            refine todo_pure hl_ (by kernel_rfl) rfl (gw0 rfl) rfl rfl rfl (fun a w_ hF => r_move (hF.ev rfl)) ?_
            refine todo_pure hl_ (by kernel_rfl) rfl (gw0 rfl) rfl rfl rfl (fun a w_ hF => r_extract (hF.ev rfl) rfl) ?_
            refine todo_pure hl_ (by kernel_rfl) rfl (gw0 rfl) rfl rfl rfl (fun a w_ hF => r_extract (hF.ev rfl) rfl) ?_
            refine todo_fin hl_ rfl (by kernel_rfl) (tl := [_, _]) rfl ?_; clear hS a; intro a w122 hF hA_
            obtain ⟨g4, g5, hS, he_0, he_1⟩ := hA_.open2 (by decide); clear hA_
            replace hF := hF.more he_0; clear he_0
            replace hF := hF.more he_1; clear he_1
            clear hl_; try clear hSd
            try dsimp only [List.cons_append, List.nil_append, List.set] at hS
            try clear wd
            refine wl_storew hF hS (i := 0) rfl (hF.ev rfl) (hF.ev rfl) sz35 rfl rfl ?_; intro w123 hS_; replace hS := hS_; clear hS_; dsimp only [List.set, Nat.reduceAdd] at hS
            refine wl_storen (cs' := [_, _]) hF hS (i := 1) rfl (hF.ev rfl) (hF.ev rfl) sz42 ⟨rfl, rfl⟩ rfl rfl ?_; intro w124 hS_; replace hS := hS_; clear hS_; dsimp only [List.set] at hS
            refine wl_nil ⟨rfl, ?_⟩
            refine hK8 _ _ ?_
            refine wp_region_lit ?_
            refine wl hF rfl rfl rfl (r_loadn ag35 (hF.ev rfl) (hS.box_rd (i := 0) rfl) sz35) ?_; clear hF a; intro a hF
            refine wl_storew hF hS (i := 3) rfl (hF.ev rfl) (hF.ev rfl) sz35 rfl rfl ?_; intro w125 hS_; replace hS := hS_; clear hS_; dsimp only [List.set, Nat.reduceAdd] at hS
            refine wl_nil ?_
            simp only [Exit.then, Exit.inBlock, ↓reduceIte]
            refine hK7 _ _ ?_
            refine wp_region_lit ?_
            refine wl_mvs (A := [_]) hF rfl ?_; clear hF a; intro a hF
            refine wl hF rfl rfl rfl (r_sub (hF.ev rfl) ec) ?_; clear hF a; intro a hF
            refine wl_mvs (A := [_]) hF rfl ?_; clear hF a; intro a hF
            refine wl_nil ?_
            try simp only [Exit.then, Exit.inBlock, ↓reduceIte]
            refine ⟨(n - 1, (applyModel c m x27 o31).1, vs32), ⟨fun _ => isModel_apply hmo, isModel_size (isModel_apply hmo), by dsimp only; omega⟩, (Sep.headp (A := [_, _, _, _, _, _, _, _]) (B := [_, _, _, _, _]) hS [3, 2, 5, 6, 7] (by decide) rfl rfl), (((((hF.nil.keep hF (t := 5) rfl).keep hF (t := 4) rfl).keep hF (t := 3) rfl).keep hF (t := 0) rfl).keepE hF (t := 6) rfl (congrArg vi (w64_id (by omega) (by omega)))), by dsimp only; omega⟩
        ·
          refine op_ld rfl rfl (gw0 rfl) rfl rfl rfl (fun a w_ hF hS => r_load1 sc3 (hF.ev rfl) (hS.box (i := 3) rfl rfl)) ?_
          refine todo_fork [(5, [9, 10, 11, 12, 13, 16, 17])] hl_ rfl (by kernel_rfl) (List.forall_mem_cons.2 ⟨?_, fun _ h_ => nomatch h_⟩)
          ·
            refine op_dw (m' := [9, 16, 17]) (val := fun x : Int => vi x) (R := fun x => 0 ≤ x ∧ (x < c.threads ∨ (c.threads ≤ 0 ∧ x = 0))) rfl rfl (gw0 rfl) rfl rfl rfl rfl (fun a w_ hF => r_call2 en68 (hF.ev rfl) (hF.ev rfl)) (fun M_ w_ hS => l1Below_c hbs (q := 5) _ hS rfl) ?_; intro x27 h27; try clear hSd; try clear wd; intro wd hSd
            refine todo_fork [(9, [10, 11, 12, 13, 16, 17])] hl_ rfl (by kernel_rfl) (List.forall_mem_cons.2 ⟨?_, fun _ h_ => nomatch h_⟩)
            ·
              refine op_dw (m' := [16, 17]) (val := fun o : Sl.Op => .agg o.enc.toArray) (R := fun o => o.ok) rfl rfl (gw0 rfl) rfl rfl rfl rfl (fun a w_ hF => r_call2 en84 (hF.ev rfl) (hF.ev rfl)) (fun M_ w_ hS => l5Op_c hbs (q := 5) (by omega) hS rfl) ?_; intro o31 h31; try clear hSd; try clear wd; intro wd hSd
              refine todo_mk hl_ rfl (by kernel_rfl) rfl rfl rfl rfl rfl (fun a w_ hF => r_call4 en34 (hF.ev rfl) (hF.ev rfl) (hF.ev rfl) (hF.ev rfl)) (fun w_ hS => specApplyModel_c (hS.part_k (i := 1) rfl) (by omega)) ?_; rintro vs32
              refine todo_pure hl_ (by kernel_rfl) rfl (gw0 rfl) rfl rfl rfl (fun a w_ hF => r_move (hF.ev rfl)) ?_
              refine todo_pure hl_ (by kernel_rfl) rfl (gw0 rfl) rfl rfl rfl (fun a w_ hF => r_extract (hF.ev rfl) rfl) ?_
              refine todo_pure hl_ (by kernel_rfl) rfl (gw0 rfl) rfl rfl rfl (fun a w_ hF => r_extract (hF.ev rfl) rfl) ?_
              refine todo_fin hl_ rfl (by kernel_rfl) (tl := [_, _]) rfl ?_; clear hS a; intro a w126 hF hA_
              obtain ⟨g4, g5, hS, he_0, he_1⟩ := hA_.open2 (by decide); clear hA_
              replace hF := hF.more he_0; clear he_0
              replace hF := hF.more he_1; clear he_1
              clear hl_; try clear hSd
              try dsimp only [List.cons_append, List.nil_append, List.set] at hS
              try clear wd
              refine wl_storew hF hS (i := 0) rfl (hF.ev rfl) (hF.ev rfl) sz35 rfl rfl ?_; intro w127 hS_; replace hS := hS_; clear hS_; dsimp only [List.set, Nat.reduceAdd] at hS
              refine wl_storen (cs' := [_, _]) hF hS (i := 1) rfl (hF.ev rfl) (hF.ev rfl) sz42 ⟨rfl, rfl⟩ rfl rfl ?_; intro w128 hS_; replace hS := hS_; clear hS_; dsimp only [List.set] at hS
              refine wl_nil ⟨rfl, ?_⟩
              refine hK8 _ _ ?_
              refine wp_region_lit ?_
              refine wl hF rfl rfl rfl (r_loadn ag35 (hF.ev rfl) (hS.box_rd (i := 0) rfl) sz35) ?_; clear hF a; intro a hF
              refine wl_storew hF hS (i := 3) rfl (hF.ev rfl) (hF.ev rfl) sz35 rfl rfl ?_; intro w129 hS_; replace hS := hS_; clear hS_; dsimp only [List.set, Nat.reduceAdd] at hS
              refine wl_nil ?_
              simp only [Exit.then, Exit.inBlock, ↓reduceIte]
              refine hK7 _ _ ?_
              refine wp_region_lit ?_
              refine wl_mvs (A := [_]) hF rfl ?_; clear hF a; intro a hF
              refine wl hF rfl rfl rfl (r_sub (hF.ev rfl) ec) ?_; clear hF a; intro a hF
              refine wl_mvs (A := [_]) hF rfl ?_; clear hF a; intro a hF
              refine wl_nil ?_
              try simp only [Exit.then, Exit.inBlock, ↓reduceIte]
              refine ⟨(n - 1, (applyModel c m x27 o31).1, vs32), ⟨fun _ => isModel_apply hmo, isModel_size (isModel_apply hmo), by dsimp only; omega⟩, (Sep.headp (A := [_, _, _, _, _, _, _, _]) (B := [_, _, _, _, _]) hS [3, 2, 5, 6, 7] (by decide) rfl rfl), (((((hF.nil.keep hF (t := 5) rfl).keep hF (t := 4) rfl).keep hF (t := 3) rfl).keep hF (t := 0) rfl).keepE hF (t := 6) rfl (congrArg vi (w64_id (by omega) (by omega)))), by dsimp only; omega⟩
  refine wp_exit ?_
  simp only [Exit.then, Exit.inBlock, ↓reduceIte]
  refine hK3 _ _ ?_
  refine wp_seq_k fun K9 hK9 => ?_
  refine ws fun K10 hK10 => ?_
  refine wl_mvs (A := [_]) hF rfl ?_; clear hF a; intro a hF
  refine wl_call hF rfl rfl rfl (r_call2 en78 (hF.ev rfl) ec) (l1Once_c hbs (q := 4) _ hS rfl) ?_; clear hF a; rintro v w130 a ⟨⟨b37, rfl⟩, hS_⟩ hF; replace hS := hS_; clear hS_
  refine wl_nil (hK10 _ _ ?_)
  refine wc_fx (t := 37) hF rfl ?_ ?_ <;> clear hF <;> intro c37 hF <;> try simp only [zb1, zb2, zb3, zb4, zb5, zb6, zb7, zb8] at c37
  ·
    replace hS := hS.pull (p := 1) rfl; dsimp only [List.eraseIdx] at hS
    replace hS : Sep W (Own intEK (sv (vs.getD 0 (none, 0, 0))) m.values :: Own (sliceEK intEK) (sv (vs.getD 1 (none, 0, 0))) m.snapshots :: _) _ := hS.part_open
    have hln := hS.own_len (q := 0) rfl
    have hlv : m.values.length ≤ m.size := by unfold Model.size; omega
    refine wp_region_lit ?_
    refine wl hF rfl rfl rfl (r_field fo35_0 (hF.ev rfl)) ?_; clear hF a; intro a hF
    refine wl hF rfl rfl rfl (r_load1 sc24 (hF.ev rfl) (hS.box (i := 2) rfl rfl)) ?_; clear hF a; intro a hF
    refine wl_bslice intEK [vi 1] [1] rfl hF hS rfl mk24 rfl ⟨rfl, ec, trivial⟩ rfl rfl rfl rfl ?_; clear hF a; intro gl_40 w131 a hS_ hF; replace hS := hS_; clear hS_
    refine wl_append (q := 1) hF hS rfl rfl (hS.own_rd (i := 0) rfl) mk24 rfl (hF.ev rfl) (hF.ev rfl) (by simp; omega) (by first | (simp; omega) | (unfold maxLen; simp; omega)) ?_; clear hF a; intro A_41 c_41 w132 a hS_ hF; replace hS := hS_; clear hS_; dsimp only [List.set, List.length_cons, List.length_nil] at hS hF
    refine wl hF rfl rfl rfl (r_field fo35_0 (hF.ev rfl)) ?_; clear hF a; intro a hF
    refine wl_store hF hS (i := 3) rfl sz24 (hF.ev rfl) (hF.ev rfl) rfl rfl ?_; intro w133 hS_; replace hS := hS_; clear hS_; dsimp only [List.set, Nat.reduceAdd] at hS
    refine wl_nil (hK9 _ _ ?_)
    refine ws fun K11 hK11 => ?_
    refine wl hF rfl rfl rfl (r_loadn ag35 (hF.ev rfl) (hS.box_rd (i := 3) rfl) sz35) ?_; clear hF a; intro a hF
    refine wl_storew hF hS (i := 4) rfl (hF.ev rfl) (hF.ev rfl) sz35 rfl rfl ?_; intro w134 hS_; replace hS := hS_; clear hS_; dsimp only [List.set, Nat.reduceAdd] at hS
    refine wl_nil (hK11 _ _ ?_)
    refine wp_ret ?_
    try simp only [Exit.then, Exit.inBlock, ↓reduceIte]
    refine ret1c rfl ag35 hF hS (i := 4) rfl sz35 rfl ⟨(⟨m.values ++ [1], m.snapshots⟩, [(_, _, _), vs.getD 1 (none, 0, 0)]), ⟨rfl, by unfold Model.size at hz ⊢; simp only [List.length_append, List.length_cons, List.length_nil]; omega⟩, ?_⟩
    replace hS := Sep.headp (A := [_, _, _, _, _, _, _]) (B := [_, _, _]) hS [1, 2, 6] (by decide) rfl rfl
    exact Sep.part_mk (ek := modelEK) (x := ⟨m.values ++ [1], m.snapshots⟩) (vs := [(_, _, _), vs.getD 1 (none, 0, 0)]) hS rfl
  refine wp_skip ?_
  refine hK9 _ _ ?_
  refine ws fun K12 hK12 => ?_
  refine wl hF rfl rfl rfl (r_loadn ag35 (hF.ev rfl) (hS.box_rd (i := 0) rfl) sz35) ?_; clear hF a; intro a hF
  refine wl_storew hF hS (i := 2) rfl (hF.ev rfl) (hF.ev rfl) sz35 rfl rfl ?_; intro w135 hS_; replace hS := hS_; clear hS_; dsimp only [List.set, Nat.reduceAdd] at hS
  refine wl_nil (hK12 _ _ ?_)
  refine wp_ret ?_
  try simp only [Exit.then, Exit.inBlock, ↓reduceIte]
  exact ret1c rfl ag35 hF hS (i := 2) rfl sz35 rfl ⟨(m, vs), ⟨rfl, by dsimp only; omega⟩, Sep.headp (A := [_, _, _, _, _]) (B := [_, _]) hS [1, 4] (by decide) rfl rfl⟩

end Go.Proofs.Yteldnoimmjihoaa.Wk
