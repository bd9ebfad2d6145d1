/- FnLimbo, for all byte strings: of the lists drawn, the program's SplitLimbo frees exactly the nodes that nobody guards, as the reference's does; at the state drawn, its StepReclaim does what the reference's does, takes no node from the free ones and adds none to the limbo. Condition: the law's own guard on size. -/
import Derived.Test.YtgofolgogfmhgaaGreatClD
import Derived.Test.YtgofolgogfmhgaaGreatRows
set_option maxHeartbeats 4000000
set_option maxRecDepth 20000
namespace Go.Proofs.YtgofolgogfmhgaaGreat.Wk
open Go Go.RowKit Sl
set_option linter.unusedVariables false
set_option linter.unusedSimpArgs false
set_option maxRecDepth 20000
theorem stateK_of {w : World} {s : Sl.State} {v0 v1 v2 : Value} (h0 : intEK.Rd w v0 s.cells) (h1 : intEK.Rd w v1 s.generations) (h2 : threadEK.Rd w v2 s.threads) : stateEK.K w s (s.encv v0 v1 v2) := ⟨_, _, _, rfl, h0, h1, h2⟩
theorem l18Run_h {W : World} {g : Nat} {vb : Value} {bs : List Int} (hbs : byteEK.Rd W vb bs) {l : List Res} {w : World} {most : Int} (hm : most ≤ 1000) (hS : Sep W (Cur g vb bs.length :: l) w) : Calls Tryz.prog 100 #[.pointer (some ⟨g, 0, none⟩), vi most] w (Ret fun v w' => ∃ z : Sl.State × List Slv, (v = .agg (stateEK.cells z.1 z.2).toArray ∧ Good z.1) ∧ Sep W (Part stateEK z.1 z.2 :: Cur g vb bs.length :: l) w') := by
 refine calls_fr Tryz.func100 rfl Tryz.ntmps100 rfl ?_
 intro a hF
 refine ws fun K1 hK1 => ?_
 refine wl_alloc hF hS rfl zr29 fun g1 w1 a hS _ hF => ?_
 refine wl_nil (hK1 _ _ ?_)
 refine ws fun K2 hK2 => ?_
 refine ga 1 hF rfl fun a hF => ?_
 refine ck hF rfl (l3Config_c hbs (q := 1) hS rfl) ?_; rintro v w2 a ⟨⟨c13, rfl, h13⟩, hS⟩ hF
 refine wl_mk hF hS rfl rfl rfl (r_call1 en158 (hF.ev rfl)) (specNewState_c _) ?_; rintro vs14 w3 a hS_ hF; replace hS := hS_; clear hS_; dsimp only [List.cons_append, List.nil_append] at hS
 refine wl_alloc hF hS rfl zr29 fun g2 w4 a hS _ hF => ?_
 refine ww 0 hF hS rfl rfl rfl rfl rfl rfl fun w5 hS => ?_
 refine wl_nil (hK2 _ _ ?_)
 refine wp_seq_k fun K3 hK3 => ?_
 refine ws fun K4 hK4 => ?_
 refine ga 2 hF rfl fun a hF => ?_
 refine ck hF rfl (l1Below_c hbs (q := 3) _ hS rfl) ?_; rintro v w6 a ⟨⟨x17, rfl, h17⟩, hS⟩ hF
 refine ge hK4 hF rfl fun a hF => ?_
 refine wp_block ?_
 replace hS := hS.pull (p := 1) rfl; dsimp only [List.eraseIdx] at hS
 replace hS := hS.pull (p := 1) rfl; dsimp only [List.eraseIdx] at hS
 have hL_ := (((hF.nil.keep hF (t := 5) rfl).keep hF (t := 4) rfl).keep hF (t := 0) rfl)
 refine wp_loop_m (σ := Int × Sl.State × List Slv) (fun z L_ => (6, vi z.1) :: L_) (fun z l_ => (Box g2 (stateEK.cells z.2.1 z.2.2)) :: (Part stateEK z.2.1 z.2.2) :: l_) (fun z => (Good z.2.1) ∧ (0 ≤ z.1 ∧ z.1 ≤ 1000)) (fun z => z.1.toNat) (x17, newState c13, vs14) (hS) (hL_.keepE hF (t := 6) rfl rfl) ?_ ?_
 · exact ⟨good_new h13, by dsimp only; omega⟩
 rintro ⟨n, x, vs⟩ a w7 ⟨hgx, hn⟩ hS hF; try dsimp only at hF; try dsimp only at hS; try dsimp only at hgx; try dsimp only at hn
 refine wp_seq_k fun K5 hK5 => ?_
 refine rg hF rfl fun a hF => ?_
 refine cx 19 hF rfl (fun c19 hF => ?_) fun c19 hF => ?_
 ·
  obtain ⟨ho_, hc_, hgl_, ht_⟩ := hgx.sh
  have hb_ := ho_; unfold Config.ok at hb_
  have hz_ := hgx.sz
  replace hS := hS.pull (p := 1) rfl; dsimp only [List.eraseIdx] at hS
  replace hS : Sep W (Own intEK (sv (vs.getD 0 (none, 0, 0))) (x).cells :: Own intEK (sv (vs.getD 1 (none, 0, 0))) (x).generations :: Own threadEK (sv (vs.getD 2 (none, 0, 0))) (x).threads :: _) _ := hS.part_open
  dsimp only [stateEK] at hS
  generalize vs.getD 0 (none, 0, 0) = z0 at hS
  generalize vs.getD 1 (none, 0, 0) = z1 at hS
  generalize vs.getD 2 (none, 0, 0) = z2 at hS
  have hl0_ := hS.own_len (q := 0) rfl
  have hl1_ := hS.own_len (q := 1) rfl
  have hl2_ := hS.own_len (q := 2) rfl
  refine wp_skip ?_
  refine hK5 _ _ ?_
  refine wp_seq_k fun K7 hK7 => ?_
  refine wp_block ?_
  refine ws fun K8 hK8 => ?_
  refine gb 4 3 hF hS rfl rfl rfl fun a hF => ?_
  refine ck hF rfl (l1Below_c hbs (q := 5) _ hS rfl) ?_; rintro v w8 a ⟨⟨x26, rfl, h26⟩, hS⟩ hF
  refine ge hK8 hF rfl fun a hF => ?_
  refine wp_seq_k fun K9 hK9 => ?_
  refine ws fun K10 hK10 => ?_
  refine gb 3 3 hF hS rfl rfl rfl fun a hF => ?_
  obtain ⟨g30, o30, m30, q30, cs30, hv30, hm30, hl30, hk30, hz30, hc30⟩ := Rd.at ((hS.own_rd (i := 2) rfl)) (a := a) (X := .tmp 29) (hF.ev rfl) (by omega) (by omega)
  have hkk30 := hk30; obtain ⟨v30_0, v30_1, v30_2, v30_3, v30_4, rfl, r30_0, r30_1, r30_2, r30_3, r30_4⟩ := hk30
  refine wl hF rfl rfl rfl (r_index sl27 ((hF.ev rfl).trans hv30) (hF.ev rfl) (by omega) (by first | omega | (simp at hm30; omega))) fun a hF => ?_
  refine ga 1 hF rfl fun a hF => ?_
  refine wl hF rfl rfl rfl (r_load1 sc3 (hF.ev rfl) (hc30 0 _ rfl)) fun a hF => ?_
  refine ge hK10 hF rfl fun a hF => ?_
  refine cx 33 hF rfl (fun c33 hF => ?_) fun c33 hF => ?_
  ·
   refine wp_seq_k fun K11 hK11 => ?_
   refine wp_region_todo (is := [1, 2, 3, 4, 5, 6, 0, 7, 8, 9, 10, 12, 13]) [(11, 8, [.int .i64 0, .int .i64 0, .int .i64 0, .int .i64 0, .int .i64 0, .int .i64 0, .slice none 0 0, .slice none 0 0, .slice none 0 0, .int .i64 0, .int .i64 0, .int .i64 0, .int .i64 0])] [6, 12, 13] (by kernel_rfl) hF hS ⟨⟨⟨_, _, _, rfl, zr29⟩, trivial⟩, by decide, by decide, by decide⟩ (by kernel_rfl) ?_; intro hl_ wd hSd
   refine todo_pure hl_ (by kernel_rfl) rfl (gw0 rfl) rfl rfl rfl (fun a w_ hF => r_move (hF.ev rfl)) ?_
   refine todo_pure hl_ (by kernel_rfl) rfl (gw0 rfl) rfl rfl rfl (fun a w_ hF => r_move (hF.ev rfl)) ?_
   refine todo_pure hl_ (by kernel_rfl) rfl (gw0 rfl) rfl rfl rfl (fun a w_ hF => r_field fo29_0 (hF.ev rfl)) ?_
   refine todo_pure hl_ (by kernel_rfl) rfl (gw0 rfl) rfl rfl rfl (fun a w_ hF => r_field fo25_1 (hF.ev rfl)) ?_
   refine todo_load [6, 7, 8, 9, 10, 12, 13] hl_ (by kernel_rfl) rfl (gw0 rfl) rfl rfl rfl (fun a w_ hF hB_ => r_load1 sc3 (hF.ev rfl) ((hSd.ext hB_).box (i := 3) rfl rfl)) ?_
   refine todo_fork [(6, [0, 7, 8, 9, 10, 12, 13]), (0, [6, 7, 8, 9, 10, 12, 13])] hl_ rfl (by kernel_rfl) (List.forall_mem_cons.2 ⟨?_, List.forall_mem_cons.2 ⟨?_, fun _ h_ => nomatch h_⟩⟩)
   ·
    refine op_dw (m' := [12, 13]) (val := fun o : Sl.Op => .agg o.enc.toArray) (R := fun o => o.ok) rfl rfl (gw0 rfl) rfl rfl rfl rfl (fun a w_ hF => r_call2 en84 (hF.ev rfl) (hF.ev rfl)) (fun M_ w_ hS => l5Op_c hbs (q := 6) (by omega) hS rfl) ?_; intro o41 h41; try clear hSd; try clear wd; intro wd hSd
    refine todo_load [7, 8, 9, 10, 12, 13] hl_ (by kernel_rfl) rfl (gw0 rfl) rfl rfl rfl (fun a w_ hF hB_ => r_loadn ag29 (hF.ev rfl) ((hSd.ext hB_).box_rd (i := 3) rfl) sz29) ?_
    refine todo_mk hl_ rfl (by kernel_rfl) rfl rfl rfl rfl rfl (fun a w_ hF => r_call3 en10 (hF.ev rfl) (hF.ev rfl) (hF.ev rfl)) (fun w_ hS => specStartOp_c (stateK_of (hS.own_rd (i := 0) rfl) (hS.own_rd (i := 1) rfl) (hS.own_rd (i := 2) rfl)) hgx.wf (by omega) (by unfold int64; omega)) ?_; rintro vs42
    refine todo_pure hl_ (by kernel_rfl) rfl (gw0 rfl) rfl rfl rfl (fun a w_ hF => r_move (hF.ev rfl)) ?_
    refine todo_pure hl_ (by kernel_rfl) rfl (gw0 rfl) rfl rfl rfl (fun a w_ hF => r_extract (hF.ev rfl) rfl) ?_
    refine todo_pure hl_ (by kernel_rfl) rfl (gw0 rfl) rfl rfl rfl (fun a w_ hF => r_extract (hF.ev rfl) rfl) ?_
    refine todo_fin hl_ rfl (by kernel_rfl) (tl := [_, _]) rfl ?_; intro a w9 hF hA_
    obtain ⟨g3, hS, he_0⟩ := hA_.open1; clear hA_
    replace hF := hF.more he_0; clear he_0
    clear hl_; try clear hSd
    try dsimp only [List.cons_append, List.nil_append, List.set] at hS
    try clear wd
    refine ww 0 hF hS rfl rfl rfl rfl rfl rfl fun w10 hS => ?_
    refine ga 1 hF rfl fun a hF => ?_
    refine wl_nil ⟨rfl, ?_⟩
    refine hK11 _ _ ?_
    refine wp_region_lit ?_
    refine gb 1 0 hF hS rfl rfl rfl fun a hF => ?_
    refine ww 5 hF hS rfl rfl rfl rfl rfl rfl fun w11 hS => ?_
    refine wl_nil (hK9 _ _ ?_)
    refine wp_seq_k fun K12 hK12 => ?_
    refine wp_region_todo (is := [1, 2, 3, 0, 4, 5, 6, 7, 8, 10, 11]) [(9, 10, [.int .i64 0, .int .i64 0, .int .i64 0, .int .i64 0, .int .i64 0, .int .i64 0, .slice none 0 0, .slice none 0 0, .slice none 0 0, .int .i64 0, .int .i64 0, .int .i64 0, .int .i64 0])] [3, 10, 11] (by kernel_rfl) hF hS ⟨⟨⟨_, _, _, rfl, zr29⟩, trivial⟩, by decide, by decide, by decide⟩ (by kernel_rfl) ?_; intro hl_ wd hSd
    refine todo_pure hl_ (by kernel_rfl) rfl (gw0 rfl) rfl rfl rfl (fun a w_ hF => r_move (hF.ev rfl)) ?_
    refine todo_pure hl_ (by kernel_rfl) rfl (gw0 rfl) rfl rfl rfl (fun a w_ hF => r_move (hF.ev rfl)) ?_
    refine todo_fork [(3, [0, 4, 5, 6, 7, 8, 10, 11]), (0, [3, 4, 5, 6, 7, 8, 10, 11])] hl_ rfl (by kernel_rfl) (List.forall_mem_cons.2 ⟨?_, List.forall_mem_cons.2 ⟨?_, fun _ h_ => nomatch h_⟩⟩)
    ·
     refine op_dw (m' := [10, 11]) (val := fun x : Int => vi x) (R := fun x => 0 ≤ x ∧ (x < 12 ∨ (12 ≤ 0 ∧ x = 0))) rfl rfl (gw0 rfl) rfl rfl rfl rfl (fun a w_ hF => r_call2 en83 (hF.ev rfl) ec) (fun M_ w_ hS => l1Below_c hbs (q := 8) _ hS rfl) ?_; intro x50 h50; try clear hSd; try clear wd; intro wd hSd
     refine todo_load [5, 6, 7, 8, 10, 11] hl_ (by kernel_rfl) rfl (gw0 rfl) rfl rfl rfl (fun a w_ hF hB_ => r_loadn ag29 (hF.ev rfl) ((hSd.ext hB_).box_rd (i := 5) rfl) sz29) ?_
     refine todo_pure hl_ (by kernel_rfl) rfl (gw0 rfl) rfl rfl rfl (fun a w_ hF => r_add ec (hF.ev rfl)) ?_
     refine todo_mk hl_ rfl (by kernel_rfl) rfl rfl rfl rfl rfl (fun a w_ hF => r_call3 en160 (hF.ev rfl) (hF.ev rfl) (hF.ev rfl)) (fun w_ hS => specStepMany_c (hS.part_k (i := 1) rfl) (by first | exact good_start hgx (ok_opwf h41) | exact hgx) (by unfold int64; omega)) ?_; rintro ⟨⟨x52, vs52, k52⟩, hg52⟩
     refine todo_pure hl_ (by kernel_rfl) rfl (gw0 rfl) rfl rfl rfl (fun a w_ hF => r_move (hF.ev rfl)) ?_
     refine todo_pure hl_ (by kernel_rfl) rfl (gw0 rfl) rfl rfl rfl (fun a w_ hF => r_extract (hF.ev rfl) rfl) ?_
     refine todo_pure hl_ (by kernel_rfl) rfl (gw0 rfl) rfl rfl rfl (fun a w_ hF => r_extract (hF.ev rfl) rfl) ?_
     refine todo_fin hl_ rfl (by kernel_rfl) (tl := [_, _]) rfl ?_; intro a w12 hF hA_
     obtain ⟨g4, hS, he_0⟩ := hA_.open1; clear hA_
     replace hF := hF.more he_0; clear he_0
     clear hl_; try clear hSd
     try dsimp only [List.cons_append, List.nil_append, List.set] at hS
     try clear wd
     refine ww 0 hF hS rfl rfl rfl rfl rfl rfl fun w13 hS => ?_
     refine ga 1 hF rfl fun a hF => ?_
     refine wl_nil ⟨rfl, ?_⟩
     refine hK12 _ _ ?_
     refine wp_region_lit ?_
     refine gb 1 0 hF hS rfl rfl rfl fun a hF => ?_
     refine ww 7 hF hS rfl rfl rfl rfl rfl rfl fun w14 hS => ?_
     refine wl_nil ?_
     refine xt ?_
     refine hK7 _ _ ?_
     refine rl hF rfl fun a hF => ?_
     refine xt ?_
     refine ⟨(n - 1, _, _), ⟨hg52, by dsimp only; omega⟩, (Sep.headp (A := [_, _, _, _, _, _, _, _, _, _]) (B := [_, _, _, _]) hS [7, 1, 8, 9] (by decide) rfl rfl), ((((hF.nil.keep hF (t := 5) rfl).keep hF (t := 4) rfl).keep hF (t := 0) rfl).keepE hF (t := 6) rfl (congrArg vi (w64_id (by omega) (by omega)))), by dsimp only; omega⟩
    ·
     refine op_ld rfl rfl (gw0 rfl) rfl rfl rfl (fun a w_ hF hS => r_loadn ag29 (hF.ev rfl) (hS.box_rd (i := 5) rfl) sz29) ?_
     refine todo_fork [(3, [4, 5, 6, 7, 8, 10, 11])] hl_ rfl (by kernel_rfl) (List.forall_mem_cons.2 ⟨?_, fun _ h_ => nomatch h_⟩)
     ·
      refine op_dw (m' := [10, 11]) (val := fun x : Int => vi x) (R := fun x => 0 ≤ x ∧ (x < 12 ∨ (12 ≤ 0 ∧ x = 0))) rfl rfl (gw0 rfl) rfl rfl rfl rfl (fun a w_ hF => r_call2 en83 (hF.ev rfl) ec) (fun M_ w_ hS => l1Below_c hbs (q := 8) _ hS rfl) ?_; intro x50 h50; try clear hSd; try clear wd; intro wd hSd
      refine todo_pure hl_ (by kernel_rfl) rfl (gw0 rfl) rfl rfl rfl (fun a w_ hF => r_add ec (hF.ev rfl)) ?_
      refine todo_mk hl_ rfl (by kernel_rfl) rfl rfl rfl rfl rfl (fun a w_ hF => r_call3 en160 (hF.ev rfl) (hF.ev rfl) (hF.ev rfl)) (fun w_ hS => specStepMany_c (hS.part_k (i := 1) rfl) (by first | exact good_start hgx (ok_opwf h41) | exact hgx) (by unfold int64; omega)) ?_; rintro ⟨⟨x52, vs52, k52⟩, hg52⟩
      refine todo_pure hl_ (by kernel_rfl) rfl (gw0 rfl) rfl rfl rfl (fun a w_ hF => r_move (hF.ev rfl)) ?_
      refine todo_pure hl_ (by kernel_rfl) rfl (gw0 rfl) rfl rfl rfl (fun a w_ hF => r_extract (hF.ev rfl) rfl) ?_
      refine todo_pure hl_ (by kernel_rfl) rfl (gw0 rfl) rfl rfl rfl (fun a w_ hF => r_extract (hF.ev rfl) rfl) ?_
      refine todo_fin hl_ rfl (by kernel_rfl) (tl := [_, _]) rfl ?_; intro a w15 hF hA_
      obtain ⟨g4, hS, he_0⟩ := hA_.open1; clear hA_
      replace hF := hF.more he_0; clear he_0
      clear hl_; try clear hSd
      try dsimp only [List.cons_append, List.nil_append, List.set] at hS
      try clear wd
      refine ww 0 hF hS rfl rfl rfl rfl rfl rfl fun w16 hS => ?_
      refine ga 1 hF rfl fun a hF => ?_
      refine wl_nil ⟨rfl, ?_⟩
      refine hK12 _ _ ?_
      refine wp_region_lit ?_
      refine gb 1 0 hF hS rfl rfl rfl fun a hF => ?_
      refine ww 7 hF hS rfl rfl rfl rfl rfl rfl fun w17 hS => ?_
      refine wl_nil ?_
      refine xt ?_
      refine hK7 _ _ ?_
      refine rl hF rfl fun a hF => ?_
      refine xt ?_
      refine ⟨(n - 1, _, _), ⟨hg52, by dsimp only; omega⟩, (Sep.headp (A := [_, _, _, _, _, _, _, _, _, _]) (B := [_, _, _, _]) hS [7, 1, 8, 9] (by decide) rfl rfl), ((((hF.nil.keep hF (t := 5) rfl).keep hF (t := 4) rfl).keep hF (t := 0) rfl).keepE hF (t := 6) rfl (congrArg vi (w64_id (by omega) (by omega)))), by dsimp only; omega⟩
   ·
    refine op_ld rfl rfl (gw0 rfl) rfl rfl rfl (fun a w_ hF hS => r_loadn ag29 (hF.ev rfl) (hS.box_rd (i := 3) rfl) sz29) ?_
    refine todo_fork [(6, [7, 8, 9, 10, 12, 13])] hl_ rfl (by kernel_rfl) (List.forall_mem_cons.2 ⟨?_, fun _ h_ => nomatch h_⟩)
    ·
     refine op_dw (m' := [12, 13]) (val := fun o : Sl.Op => .agg o.enc.toArray) (R := fun o => o.ok) rfl rfl (gw0 rfl) rfl rfl rfl rfl (fun a w_ hF => r_call2 en84 (hF.ev rfl) (hF.ev rfl)) (fun M_ w_ hS => l5Op_c hbs (q := 6) (by omega) hS rfl) ?_; intro o41 h41; try clear hSd; try clear wd; intro wd hSd
     refine todo_mk hl_ rfl (by kernel_rfl) rfl rfl rfl rfl rfl (fun a w_ hF => r_call3 en10 (hF.ev rfl) (hF.ev rfl) (hF.ev rfl)) (fun w_ hS => specStartOp_c (stateK_of (hS.own_rd (i := 0) rfl) (hS.own_rd (i := 1) rfl) (hS.own_rd (i := 2) rfl)) hgx.wf (by omega) (by unfold int64; omega)) ?_; rintro vs42
     refine todo_pure hl_ (by kernel_rfl) rfl (gw0 rfl) rfl rfl rfl (fun a w_ hF => r_move (hF.ev rfl)) ?_
     refine todo_pure hl_ (by kernel_rfl) rfl (gw0 rfl) rfl rfl rfl (fun a w_ hF => r_extract (hF.ev rfl) rfl) ?_
     refine todo_pure hl_ (by kernel_rfl) rfl (gw0 rfl) rfl rfl rfl (fun a w_ hF => r_extract (hF.ev rfl) rfl) ?_
     refine todo_fin hl_ rfl (by kernel_rfl) (tl := [_, _]) rfl ?_; intro a w18 hF hA_
     obtain ⟨g3, hS, he_0⟩ := hA_.open1; clear hA_
     replace hF := hF.more he_0; clear he_0
     clear hl_; try clear hSd
     try dsimp only [List.cons_append, List.nil_append, List.set] at hS
     try clear wd
     refine ww 0 hF hS rfl rfl rfl rfl rfl rfl fun w19 hS => ?_
     refine ga 1 hF rfl fun a hF => ?_
     refine wl_nil ⟨rfl, ?_⟩
     refine hK11 _ _ ?_
     refine wp_region_lit ?_
     refine gb 1 0 hF hS rfl rfl rfl fun a hF => ?_
     refine ww 5 hF hS rfl rfl rfl rfl rfl rfl fun w20 hS => ?_
     refine wl_nil (hK9 _ _ ?_)
     refine wp_seq_k fun K13 hK13 => ?_
     refine wp_region_todo (is := [1, 2, 3, 0, 4, 5, 6, 7, 8, 10, 11]) [(9, 10, [.int .i64 0, .int .i64 0, .int .i64 0, .int .i64 0, .int .i64 0, .int .i64 0, .slice none 0 0, .slice none 0 0, .slice none 0 0, .int .i64 0, .int .i64 0, .int .i64 0, .int .i64 0])] [3, 10, 11] (by kernel_rfl) hF hS ⟨⟨⟨_, _, _, rfl, zr29⟩, trivial⟩, by decide, by decide, by decide⟩ (by kernel_rfl) ?_; intro hl_ wd hSd
     refine todo_pure hl_ (by kernel_rfl) rfl (gw0 rfl) rfl rfl rfl (fun a w_ hF => r_move (hF.ev rfl)) ?_
     refine todo_pure hl_ (by kernel_rfl) rfl (gw0 rfl) rfl rfl rfl (fun a w_ hF => r_move (hF.ev rfl)) ?_
     refine todo_fork [(3, [0, 4, 5, 6, 7, 8, 10, 11]), (0, [3, 4, 5, 6, 7, 8, 10, 11])] hl_ rfl (by kernel_rfl) (List.forall_mem_cons.2 ⟨?_, List.forall_mem_cons.2 ⟨?_, fun _ h_ => nomatch h_⟩⟩)
     ·
      refine op_dw (m' := [10, 11]) (val := fun x : Int => vi x) (R := fun x => 0 ≤ x ∧ (x < 12 ∨ (12 ≤ 0 ∧ x = 0))) rfl rfl (gw0 rfl) rfl rfl rfl rfl (fun a w_ hF => r_call2 en83 (hF.ev rfl) ec) (fun M_ w_ hS => l1Below_c hbs (q := 8) _ hS rfl) ?_; intro x50 h50; try clear hSd; try clear wd; intro wd hSd
      refine todo_load [5, 6, 7, 8, 10, 11] hl_ (by kernel_rfl) rfl (gw0 rfl) rfl rfl rfl (fun a w_ hF hB_ => r_loadn ag29 (hF.ev rfl) ((hSd.ext hB_).box_rd (i := 5) rfl) sz29) ?_
      refine todo_pure hl_ (by kernel_rfl) rfl (gw0 rfl) rfl rfl rfl (fun a w_ hF => r_add ec (hF.ev rfl)) ?_
      refine todo_mk hl_ rfl (by kernel_rfl) rfl rfl rfl rfl rfl (fun a w_ hF => r_call3 en160 (hF.ev rfl) (hF.ev rfl) (hF.ev rfl)) (fun w_ hS => specStepMany_c (hS.part_k (i := 1) rfl) (by first | exact good_start hgx (ok_opwf h41) | exact hgx) (by unfold int64; omega)) ?_; rintro ⟨⟨x52, vs52, k52⟩, hg52⟩
      refine todo_pure hl_ (by kernel_rfl) rfl (gw0 rfl) rfl rfl rfl (fun a w_ hF => r_move (hF.ev rfl)) ?_
      refine todo_pure hl_ (by kernel_rfl) rfl (gw0 rfl) rfl rfl rfl (fun a w_ hF => r_extract (hF.ev rfl) rfl) ?_
      refine todo_pure hl_ (by kernel_rfl) rfl (gw0 rfl) rfl rfl rfl (fun a w_ hF => r_extract (hF.ev rfl) rfl) ?_
      refine todo_fin hl_ rfl (by kernel_rfl) (tl := [_, _]) rfl ?_; intro a w21 hF hA_
      obtain ⟨g4, hS, he_0⟩ := hA_.open1; clear hA_
      replace hF := hF.more he_0; clear he_0
      clear hl_; try clear hSd
      try dsimp only [List.cons_append, List.nil_append, List.set] at hS
      try clear wd
      refine ww 0 hF hS rfl rfl rfl rfl rfl rfl fun w22 hS => ?_
      refine ga 1 hF rfl fun a hF => ?_
      refine wl_nil ⟨rfl, ?_⟩
      refine hK13 _ _ ?_
      refine wp_region_lit ?_
      refine gb 1 0 hF hS rfl rfl rfl fun a hF => ?_
      refine ww 7 hF hS rfl rfl rfl rfl rfl rfl fun w23 hS => ?_
      refine wl_nil ?_
      refine xt ?_
      refine hK7 _ _ ?_
      refine rl hF rfl fun a hF => ?_
      refine xt ?_
      refine ⟨(n - 1, _, _), ⟨hg52, by dsimp only; omega⟩, (Sep.headp (A := [_, _, _, _, _, _, _, _, _, _]) (B := [_, _, _, _]) hS [7, 1, 8, 9] (by decide) rfl rfl), ((((hF.nil.keep hF (t := 5) rfl).keep hF (t := 4) rfl).keep hF (t := 0) rfl).keepE hF (t := 6) rfl (congrArg vi (w64_id (by omega) (by omega)))), by dsimp only; omega⟩
     ·
      refine op_ld rfl rfl (gw0 rfl) rfl rfl rfl (fun a w_ hF hS => r_loadn ag29 (hF.ev rfl) (hS.box_rd (i := 5) rfl) sz29) ?_
      refine todo_fork [(3, [4, 5, 6, 7, 8, 10, 11])] hl_ rfl (by kernel_rfl) (List.forall_mem_cons.2 ⟨?_, fun _ h_ => nomatch h_⟩)
      ·
       refine op_dw (m' := [10, 11]) (val := fun x : Int => vi x) (R := fun x => 0 ≤ x ∧ (x < 12 ∨ (12 ≤ 0 ∧ x = 0))) rfl rfl (gw0 rfl) rfl rfl rfl rfl (fun a w_ hF => r_call2 en83 (hF.ev rfl) ec) (fun M_ w_ hS => l1Below_c hbs (q := 8) _ hS rfl) ?_; intro x50 h50; try clear hSd; try clear wd; intro wd hSd
       refine todo_pure hl_ (by kernel_rfl) rfl (gw0 rfl) rfl rfl rfl (fun a w_ hF => r_add ec (hF.ev rfl)) ?_
       refine todo_mk hl_ rfl (by kernel_rfl) rfl rfl rfl rfl rfl (fun a w_ hF => r_call3 en160 (hF.ev rfl) (hF.ev rfl) (hF.ev rfl)) (fun w_ hS => specStepMany_c (hS.part_k (i := 1) rfl) (by first | exact good_start hgx (ok_opwf h41) | exact hgx) (by unfold int64; omega)) ?_; rintro ⟨⟨x52, vs52, k52⟩, hg52⟩
       refine todo_pure hl_ (by kernel_rfl) rfl (gw0 rfl) rfl rfl rfl (fun a w_ hF => r_move (hF.ev rfl)) ?_
       refine todo_pure hl_ (by kernel_rfl) rfl (gw0 rfl) rfl rfl rfl (fun a w_ hF => r_extract (hF.ev rfl) rfl) ?_
       refine todo_pure hl_ (by kernel_rfl) rfl (gw0 rfl) rfl rfl rfl (fun a w_ hF => r_extract (hF.ev rfl) rfl) ?_
       refine todo_fin hl_ rfl (by kernel_rfl) (tl := [_, _]) rfl ?_; intro a w24 hF hA_
       obtain ⟨g4, hS, he_0⟩ := hA_.open1; clear hA_
       replace hF := hF.more he_0; clear he_0
       clear hl_; try clear hSd
       try dsimp only [List.cons_append, List.nil_append, List.set] at hS
       try clear wd
       refine ww 0 hF hS rfl rfl rfl rfl rfl rfl fun w25 hS => ?_
       refine ga 1 hF rfl fun a hF => ?_
       refine wl_nil ⟨rfl, ?_⟩
       refine hK13 _ _ ?_
       refine wp_region_lit ?_
       refine gb 1 0 hF hS rfl rfl rfl fun a hF => ?_
       refine ww 7 hF hS rfl rfl rfl rfl rfl rfl fun w26 hS => ?_
       refine wl_nil ?_
       refine xt ?_
       refine hK7 _ _ ?_
       refine rl hF rfl fun a hF => ?_
       refine xt ?_
       refine ⟨(n - 1, _, _), ⟨hg52, by dsimp only; omega⟩, (Sep.headp (A := [_, _, _, _, _, _, _, _, _, _]) (B := [_, _, _, _]) hS [7, 1, 8, 9] (by decide) rfl rfl), ((((hF.nil.keep hF (t := 5) rfl).keep hF (t := 4) rfl).keep hF (t := 0) rfl).keepE hF (t := 6) rfl (congrArg vi (w64_id (by omega) (by omega)))), by dsimp only; omega⟩
  refine wp_skip ?_
  refine hK9 _ _ ?_
  refine wp_seq_k fun K14 hK14 => ?_
  refine wp_region_todo (is := [1, 2, 3, 0, 4, 5, 6, 7, 8, 10, 11]) [(9, 10, [.int .i64 0, .int .i64 0, .int .i64 0, .int .i64 0, .int .i64 0, .int .i64 0, .slice none 0 0, .slice none 0 0, .slice none 0 0, .int .i64 0, .int .i64 0, .int .i64 0, .int .i64 0])] [3, 10, 11] (by kernel_rfl) hF hS ⟨⟨⟨_, _, _, rfl, zr29⟩, trivial⟩, by decide, by decide, by decide⟩ (by kernel_rfl) ?_; intro hl_ wd hSd
  refine todo_pure hl_ (by kernel_rfl) rfl (gw0 rfl) rfl rfl rfl (fun a w_ hF => r_move (hF.ev rfl)) ?_
  refine todo_pure hl_ (by kernel_rfl) rfl (gw0 rfl) rfl rfl rfl (fun a w_ hF => r_move (hF.ev rfl)) ?_
  refine todo_fork [(3, [0, 4, 5, 6, 7, 8, 10, 11]), (0, [3, 4, 5, 6, 7, 8, 10, 11])] hl_ rfl (by kernel_rfl) (List.forall_mem_cons.2 ⟨?_, List.forall_mem_cons.2 ⟨?_, fun _ h_ => nomatch h_⟩⟩)
  ·
   refine op_dw (m' := [10, 11]) (val := fun x : Int => vi x) (R := fun x => 0 ≤ x ∧ (x < 12 ∨ (12 ≤ 0 ∧ x = 0))) rfl rfl (gw0 rfl) rfl rfl rfl rfl (fun a w_ hF => r_call2 en83 (hF.ev rfl) ec) (fun M_ w_ hS => l1Below_c hbs (q := 6) _ hS rfl) ?_; intro x50 h50; try clear hSd; try clear wd; intro wd hSd
   refine todo_load [5, 6, 7, 8, 10, 11] hl_ (by kernel_rfl) rfl (gw0 rfl) rfl rfl rfl (fun a w_ hF hB_ => r_loadn ag29 (hF.ev rfl) ((hSd.ext hB_).box_rd (i := 3) rfl) sz29) ?_
   refine todo_pure hl_ (by kernel_rfl) rfl (gw0 rfl) rfl rfl rfl (fun a w_ hF => r_add ec (hF.ev rfl)) ?_
   refine todo_mk hl_ rfl (by kernel_rfl) rfl rfl rfl rfl rfl (fun a w_ hF => r_call3 en160 (hF.ev rfl) (hF.ev rfl) (hF.ev rfl)) (fun w_ hS => specStepMany_c (stateK_of (hS.own_rd (i := 0) rfl) (hS.own_rd (i := 1) rfl) (hS.own_rd (i := 2) rfl)) (by first | exact good_start hgx (ok_opwf h41) | exact hgx) (by unfold int64; omega)) ?_; rintro ⟨⟨x52, vs52, k52⟩, hg52⟩
   refine todo_pure hl_ (by kernel_rfl) rfl (gw0 rfl) rfl rfl rfl (fun a w_ hF => r_move (hF.ev rfl)) ?_
   refine todo_pure hl_ (by kernel_rfl) rfl (gw0 rfl) rfl rfl rfl (fun a w_ hF => r_extract (hF.ev rfl) rfl) ?_
   refine todo_pure hl_ (by kernel_rfl) rfl (gw0 rfl) rfl rfl rfl (fun a w_ hF => r_extract (hF.ev rfl) rfl) ?_
   refine todo_fin hl_ rfl (by kernel_rfl) (tl := [_, _]) rfl ?_; intro a w27 hF hA_
   obtain ⟨g5, hS, he_0⟩ := hA_.open1; clear hA_
   replace hF := hF.more he_0; clear he_0
   clear hl_; try clear hSd
   try dsimp only [List.cons_append, List.nil_append, List.set] at hS
   try clear wd
   refine ww 0 hF hS rfl rfl rfl rfl rfl rfl fun w28 hS => ?_
   refine ga 1 hF rfl fun a hF => ?_
   refine wl_nil ⟨rfl, ?_⟩
   refine hK14 _ _ ?_
   refine wp_region_lit ?_
   refine gb 1 0 hF hS rfl rfl rfl fun a hF => ?_
   refine ww 5 hF hS rfl rfl rfl rfl rfl rfl fun w29 hS => ?_
   refine wl_nil ?_
   refine xt ?_
   refine hK7 _ _ ?_
   refine rl hF rfl fun a hF => ?_
   refine xt ?_
   refine ⟨(n - 1, _, _), ⟨hg52, by dsimp only; omega⟩, (Sep.headp (A := [_, _, _, _, _, _, _, _]) (B := [_, _, _, _]) hS [5, 1, 6, 7] (by decide) rfl rfl), ((((hF.nil.keep hF (t := 5) rfl).keep hF (t := 4) rfl).keep hF (t := 0) rfl).keepE hF (t := 6) rfl (congrArg vi (w64_id (by omega) (by omega)))), by dsimp only; omega⟩
  ·
   refine op_ld rfl rfl (gw0 rfl) rfl rfl rfl (fun a w_ hF hS => r_loadn ag29 (hF.ev rfl) (hS.box_rd (i := 3) rfl) sz29) ?_
   refine todo_fork [(3, [4, 5, 6, 7, 8, 10, 11])] hl_ rfl (by kernel_rfl) (List.forall_mem_cons.2 ⟨?_, fun _ h_ => nomatch h_⟩)
   ·
    refine op_dw (m' := [10, 11]) (val := fun x : Int => vi x) (R := fun x => 0 ≤ x ∧ (x < 12 ∨ (12 ≤ 0 ∧ x = 0))) rfl rfl (gw0 rfl) rfl rfl rfl rfl (fun a w_ hF => r_call2 en83 (hF.ev rfl) ec) (fun M_ w_ hS => l1Below_c hbs (q := 6) _ hS rfl) ?_; intro x50 h50; try clear hSd; try clear wd; intro wd hSd
    refine todo_pure hl_ (by kernel_rfl) rfl (gw0 rfl) rfl rfl rfl (fun a w_ hF => r_add ec (hF.ev rfl)) ?_
    refine todo_mk hl_ rfl (by kernel_rfl) rfl rfl rfl rfl rfl (fun a w_ hF => r_call3 en160 (hF.ev rfl) (hF.ev rfl) (hF.ev rfl)) (fun w_ hS => specStepMany_c (stateK_of (hS.own_rd (i := 0) rfl) (hS.own_rd (i := 1) rfl) (hS.own_rd (i := 2) rfl)) (by first | exact good_start hgx (ok_opwf h41) | exact hgx) (by unfold int64; omega)) ?_; rintro ⟨⟨x52, vs52, k52⟩, hg52⟩
    refine todo_pure hl_ (by kernel_rfl) rfl (gw0 rfl) rfl rfl rfl (fun a w_ hF => r_move (hF.ev rfl)) ?_
    refine todo_pure hl_ (by kernel_rfl) rfl (gw0 rfl) rfl rfl rfl (fun a w_ hF => r_extract (hF.ev rfl) rfl) ?_
    refine todo_pure hl_ (by kernel_rfl) rfl (gw0 rfl) rfl rfl rfl (fun a w_ hF => r_extract (hF.ev rfl) rfl) ?_
    refine todo_fin hl_ rfl (by kernel_rfl) (tl := [_, _]) rfl ?_; intro a w30 hF hA_
    obtain ⟨g5, hS, he_0⟩ := hA_.open1; clear hA_
    replace hF := hF.more he_0; clear he_0
    clear hl_; try clear hSd
    try dsimp only [List.cons_append, List.nil_append, List.set] at hS
    try clear wd
    refine ww 0 hF hS rfl rfl rfl rfl rfl rfl fun w31 hS => ?_
    refine ga 1 hF rfl fun a hF => ?_
    refine wl_nil ⟨rfl, ?_⟩
    refine hK14 _ _ ?_
    refine wp_region_lit ?_
    refine gb 1 0 hF hS rfl rfl rfl fun a hF => ?_
    refine ww 5 hF hS rfl rfl rfl rfl rfl rfl fun w32 hS => ?_
    refine wl_nil ?_
    refine xt ?_
    refine hK7 _ _ ?_
    refine rl hF rfl fun a hF => ?_
    refine xt ?_
    refine ⟨(n - 1, _, _), ⟨hg52, by dsimp only; omega⟩, (Sep.headp (A := [_, _, _, _, _, _, _, _]) (B := [_, _, _, _]) hS [5, 1, 6, 7] (by decide) rfl rfl), ((((hF.nil.keep hF (t := 5) rfl).keep hF (t := 4) rfl).keep hF (t := 0) rfl).keepE hF (t := 6) rfl (congrArg vi (w64_id (by omega) (by omega)))), by dsimp only; omega⟩
 refine wp_exit ?_
 refine xt ?_
 refine hK3 _ _ ?_
 refine ws fun K15 hK15 => ?_
 refine gb 1 0 hF hS rfl rfl rfl fun a hF => ?_
 refine ww 2 hF hS rfl rfl rfl rfl rfl rfl fun w33 hS => ?_
 refine wl_nil (hK15 _ _ ?_)
 refine wp_ret ?_
 refine xt ?_
 exact ret1c rfl ag29 hF hS (i := 2) rfl sz29 rfl ⟨(x, vs), ⟨rfl, hgx⟩, (Sep.headp (A := [_, _, _, _]) (B := [_, _]) hS [1, 3] (by decide) rfl rfl)⟩
end Go.Proofs.YtgofolgogfmhgaaGreat.Wk
namespace Go.Proofs.YtgofolgogfmhgaaGreat.Wk
open Go Go.RowKit Sl
theorem en179 : enterB Tryz.prog 179 = true := by kernel_rfl
end Go.Proofs.YtgofolgogfmhgaaGreat.Wk
namespace Go.Proofs.YtgofolgogfmhgaaGreat.Wk
open Go Go.RowKit Sl
set_option linter.unusedVariables false
set_option linter.unusedSimpArgs false
set_option maxRecDepth 20000
/-- a state that is drawn -/
structure Drawn (s : Sl.State) : Prop where
  wf : s.wf
  sz : s.size ≤ 2300
  p31 : ∀ t ∈ s.threads, t.pc = 31 → (0 ≤ t.seen ∧ t.seen < s.config.capacity) ∨ ¬ at0 s.cells 1 = t.seen
section
variable {s : Sl.State} {i : Nat} {v : Int} {t : Sl.Thread} {c : Config}
theorem set_wf {xs : List Int} (h : ∀ x ∈ xs, int64 x) (hv : int64 v) : ∀ x ∈ xs.set i v, int64 x := fun x hx => (List.mem_or_eq_of_mem_set hx).elim (h x) (fun e => e ▸ hv)
theorem Good.drawn (h : Good s) : Drawn s := ⟨h.wf, by have := h.sz; omega, fun t ht h0 => .inl (h.p31 t ht h0)⟩
theorem Good.cells (h : Good s) (hv : int64 v) : Drawn { s with cells := s.cells.set i v } :=
  ⟨⟨h.wf.1, set_wf h.wf.2.1 hv, h.wf.2.2⟩, by have := h.sz; unfold Sl.State.size at *; simp only [List.length_set]; omega, fun t ht h0 => .inl (h.p31 t ht h0)⟩
theorem Good.gens (h : Good s) (hv : int64 v) : Drawn { s with generations := s.generations.set i v } :=
  ⟨⟨h.wf.1, h.wf.2.1, set_wf h.wf.2.2.1 hv, h.wf.2.2.2⟩, by have := h.sz; unfold Sl.State.size at *; simp only [List.length_set]; omega, fun t ht h0 => .inl (h.p31 t ht h0)⟩
theorem Good.fewer (h : Good s) : Drawn { s with cells := s.cells.drop 1 } :=
  ⟨⟨h.wf.1, (fun x hx => h.wf.2.1 x (List.mem_of_mem_drop hx)), h.wf.2.2⟩, by have := h.sz; unfold Sl.State.size at *; simp only [List.length_drop]; omega, fun t ht h0 => .inl (h.p31 t ht h0)⟩
theorem Good.faults (h : Good s) (hv : int64 v) : Drawn { s with faults := v } :=
  ⟨⟨h.wf.1, h.wf.2.1, h.wf.2.2.1, h.wf.2.2.2.1, h.wf.2.2.2.2.1, h.wf.2.2.2.2.2.1, h.wf.2.2.2.2.2.2.1, hv⟩, by have := h.sz; unfold Sl.State.size at *; dsimp only; omega, fun t ht h0 => .inl (h.p31 t ht h0)⟩
theorem new_cell {c : Config} (h : c.ok) : at0 (newState c).cells 1 = 0 := by
 have hb := h; unfold Config.ok at hb
 have hcc := cellCount_eq h
 rw [new_eq h]
 show at0 (newCells c) 1 = 0
 unfold newCells at0; rw [if_pos h, show (1 : Int).toNat = 1 from rfl, List.getElem?_set_ne (by decide), List.getElem?_replicate]
 rw [if_pos (by omega)]; rfl
theorem new_thread (hc : c.ok) (hw : t.wf) (hz : t.size ≤ 60) (hs : 0 ≤ t.seen) : Drawn { newState c with threads := (newState c).threads.set 0 t } := by
 have h := good_new hc
 have hb := hc; unfold Config.ok at hb
 obtain ⟨_, _, _, ht⟩ := h.sh
 rw [show (newState c).config = c from by rw [new_eq hc]] at ht
 have hx : (newState c).threads[0]? = some (at0 (newState c).threads ((0 : Nat) : Int)) := at0_nat (by omega)
 have h4 := crow_set_le (c := Sl.Thread.size) (x := t) (k := 60) hx (by omega)
 have h5 := newState_size (c := c)
 refine ⟨⟨h.wf.1, h.wf.2.1, h.wf.2.2.1, fun x hx => (List.mem_or_eq_of_mem_set hx).elim (h.wf.2.2.2.1 x) (fun e => e ▸ hw), h.wf.2.2.2.2⟩, ?_, ?_⟩
 · unfold Sl.State.size at *; simp only [List.length_set]; omega
 · intro x hx h0
   rcases List.mem_or_eq_of_mem_set hx with hm | rfl
   · exact .inl (h.p31 x hm h0)
   · dsimp only
     rw [new_cell hc, show (newState c).config = c from by rw [new_eq hc]]
     omega
end
theorem new_threadX {x : Sl.State} {c : Config} {t : Sl.Thread} (hx : x = newState c) (hc : c.ok) (hw : t.wf) (hz : t.size ≤ 60) (hs : 0 ≤ t.seen) : Drawn { x with threads := x.threads.set 0 t } := by
 subst hx; exact new_thread hc hw hz hs
theorem calls_sub {α : Type} {P : Program} {f : FuncId} {args : Array Value} {w W : World} {R : α → Prop} {val : α → Value} {l2 : α → List Res} (h : Calls P f args w (Ret fun v w' => ∃ z : α, (v = val z ∧ R z) ∧ Sep W (l2 z) w')) : Calls P f args w (Ret fun v w' => ∃ γ : {z : α // R z}, v = val γ.1 ∧ Sep W (l2 γ.1) w') := by
 refine h.mono ?_
 rintro e w' ⟨v, rfl, z, ⟨rfl, hR⟩, hS⟩
 exact ⟨_, rfl, ⟨z, hR⟩, rfl, hS⟩
theorem l9State_h {W : World} {g : Nat} {vb : Value} {bs : List Int} (hbs : byteEK.Rd W vb bs) {l : List Res} {w : World} (hS : Sep W (Cur g vb bs.length :: l) w) : Calls Tryz.prog 144 #[.pointer (some ⟨g, 0, none⟩)] w (Ret fun v w' => ∃ z : Sl.State × List Slv, (v = .agg (stateEK.cells z.1 z.2).toArray ∧ Drawn z.1) ∧ Sep W (Part stateEK z.1 z.2 :: Cur g vb bs.length :: l) w') := by
 refine calls_fr Tryz.func144 rfl Tryz.ntmps144 rfl ?_
 intro a hF
 refine ws fun K1 hK1 => ?_
 refine wl_alloc hF hS rfl zr29 fun g1 w1 a hS _ hF => ?_
 refine wl_nil (hK1 _ _ ?_)
 refine ws fun K2 hK2 => ?_
 refine ga 1 hF rfl fun a hF => ?_
 refine ck hF rfl (l3Config_c hbs (q := 1) hS rfl) ?_; rintro v w2 a ⟨⟨c5, rfl, h5⟩, hS⟩ hF
 refine wl_mk hF hS rfl rfl rfl (r_call1 en158 (hF.ev rfl)) (specNewState_c _) ?_; rintro vs6 w3 a hS_ hF; replace hS := hS_; clear hS_; dsimp only [List.cons_append, List.nil_append] at hS
 refine wl_alloc hF hS rfl zr29 fun g2 w4 a hS _ hF => ?_
 refine ww 0 hF hS rfl rfl rfl rfl rfl rfl fun w5 hS => ?_
 refine wl_nil (hK2 _ _ ?_)
 refine wp_seq_k fun K3 hK3 => ?_
 refine ws fun K4 hK4 => ?_
 refine ga 1 hF rfl fun a hF => ?_
 refine ck hF rfl (l1Below_c hbs (q := 3) _ hS rfl) ?_; rintro v w6 a ⟨⟨x8, rfl, h8⟩, hS⟩ hF
 refine wl_nil (hK4 _ _ ?_)
 refine wp_block ?_
 refine rg hF rfl fun a hF => ?_
 refine cx 9 hF rfl (fun c9 hF => ?_) fun c9 hF => ?_
 ·
  obtain ⟨x, hx_⟩ : ∃ x, x = newState c5 := ⟨_, rfl⟩
  rw [← hx_] at hS
  try rw [← hx_] at hF
  have hgx : Good x := hx_ ▸ good_new h5
  obtain ⟨ho_, hc_, hgl_, ht_⟩ := hgx.sh
  have hb_ := ho_; unfold Config.ok at hb_
  have hz_ := hgx.sz
  have hcc_ := cellCount_eq ho_
  replace hS := hS.pull (p := 1) rfl; dsimp only [List.eraseIdx] at hS
  replace hS : Sep W (Own intEK (sv (vs6.getD 0 (none, 0, 0))) (x).cells :: Own intEK (sv (vs6.getD 1 (none, 0, 0))) (x).generations :: Own threadEK (sv (vs6.getD 2 (none, 0, 0))) (x).threads :: _) _ := hS.part_open
  dsimp only [stateEK] at hS
  generalize vs6.getD 0 (none, 0, 0) = z0 at hS
  generalize vs6.getD 1 (none, 0, 0) = z1 at hS
  generalize vs6.getD 2 (none, 0, 0) = z2 at hS
  have hcap_ : (x).cells.length ≤ z0.2.2 := by
    obtain ⟨A_, c_, e_, h1_, _⟩ := (hS.own_rd (i := 0) rfl).sl
    have e2_ : z0.2.2 = c_ := by injection e_
    rw [e2_]; exact h1_
  have hl0_ := hS.own_len (q := 0) rfl
  have hl1_ := hS.own_len (q := 1) rfl
  have hl2_ := hS.own_len (q := 2) rfl
  refine wp_region_todo (is := [0, 2, 3, 4, 5, 7, 6, 8, 9, 1, 10, 11]) [] [6, 9, 11] (by kernel_rfl) hF hS ⟨trivial, by decide, by decide, by decide⟩ (by kernel_rfl) ?_; intro hl_ wd hSd
  refine todo_pure hl_ (by kernel_rfl) rfl (gw0 rfl) rfl rfl rfl (fun a w_ hF => r_field fo29_1 (hF.ev rfl)) ?_
  refine todo_pure hl_ (by kernel_rfl) rfl (gw0 rfl) rfl rfl rfl (fun a w_ hF => r_move (hF.ev rfl)) ?_
  refine todo_pure hl_ (by kernel_rfl) rfl (gw0 rfl) rfl rfl rfl (fun a w_ hF => r_field fo29_1 (hF.ev rfl)) ?_
  refine todo_load [5, 6, 9, 10, 11] hl_ (by kernel_rfl) rfl (gw0 rfl) rfl rfl rfl (fun a w_ hF hB_ => r_load1 sc26 (hF.ev rfl) ((hSd.ext hB_).box (i := 3) rfl rfl)) ?_
  refine todo_pure hl_ (by kernel_rfl) rfl (gw0 rfl) rfl rfl rfl (fun a w_ hF => r_len ul26 (hF.ev rfl)) ?_
  refine todo_pure hl_ (by kernel_rfl) rfl (gw0 rfl) rfl rfl rfl (fun a w_ hF => r_move (hF.ev rfl)) ?_
  refine todo_fork [(6, [8, 9, 1, 10, 11]), (8, [6, 9, 1, 10, 11]), (1, [6, 8, 9, 10, 11])] hl_ rfl (by kernel_rfl) (List.forall_mem_cons.2 ⟨?_, List.forall_mem_cons.2 ⟨?_, List.forall_mem_cons.2 ⟨?_, fun _ h_ => nomatch h_⟩⟩⟩)
  ·
   refine op_dw (m' := [9, 11]) (val := fun x : Int => vi x) (R := fun x => 0 ≤ x ∧ (x < (z0.2.1 : Int) ∨ ((z0.2.1 : Int) ≤ 0 ∧ x = 0))) rfl rfl (gw0 rfl) rfl rfl rfl rfl (fun a w_ hF => r_call2 en83 (hF.ev rfl) (hF.ev rfl)) (fun M_ w_ hS => l1Below_c hbs (q := 6) _ hS rfl) ?_; intro x17 h17; try clear hSd; try clear wd; intro wd hSd
   refine todo_fork [(8, [9, 1, 10, 11]), (1, [8, 9, 10, 11])] hl_ rfl (by kernel_rfl) (List.forall_mem_cons.2 ⟨?_, List.forall_mem_cons.2 ⟨?_, fun _ h_ => nomatch h_⟩⟩)
   ·
    refine op_op rfl rfl (gw0 rfl) rfl rfl rfl (fun a w_ hF hS => r_bslice intEK [vi (-1), vi 0, vi 1, vi 2, vi 3, vi 130, vi 131] [-1, 0, 1, 2, 3, 130, 131] rfl mk26 rfl ⟨rfl, ec, rfl, ec, rfl, ec, rfl, ec, rfl, ec, rfl, ec, rfl, ec, trivial⟩ rfl rfl rfl rfl) ?_; intro gl_19
    refine todo_fork [(9, [1, 10, 11]), (1, [9, 10, 11])] hl_ rfl (by kernel_rfl) (List.forall_mem_cons.2 ⟨?_, List.forall_mem_cons.2 ⟨?_, fun _ h_ => nomatch h_⟩⟩)
    ·
     refine op_dw (m' := [11]) (val := fun x : Int => vi x) (R := fun x => x ∈ ([-1, 0, 1, 2, 3, 130, 131] : List Int)) rfl rfl (gw0 rfl) rfl rfl rfl rfl (fun a w_ hF => r_call2 en85 (hF.ev rfl) (hF.ev rfl)) (fun M_ w_ hS => l1PickInt_c hbs (q := 7) (fun w_ hS => (hS.own_rd (i := 1) rfl)) (by decide) hS rfl) ?_; intro x20 h20; try clear hSd; try clear wd; intro wd hSd
     refine todo_load [10, 11] hl_ (by kernel_rfl) rfl (gw0 rfl) rfl rfl rfl (fun a w_ hF hB_ => r_load1 sc26 (hF.ev rfl) ((hSd.ext hB_).box (i := 4) rfl rfl)) ?_
     obtain ⟨g21, o21, m21, q21, hv21, hm21, hl21, hc21⟩ := Rd.idxF ((hSd.own_rd (i := 1) rfl)) (at0_get (i := x17) (by omega) (by omega))
     refine todo_pure hl_ (by kernel_rfl) rfl (gw0 rfl) rfl rfl rfl (fun a w_ hF => r_index sl26 ((hF.ev rfl).trans hv21) (hF.ev rfl) (by omega) (by first | omega | (simp at hm21; omega))) ?_
     refine todo_fin hl_ rfl (by kernel_rfl) (tl := [_]) rfl ?_; intro a w8 hF hA_
     have hS := hA_.sep; clear hA_
     clear hl_; try clear hSd
     try dsimp only [List.cons_append, List.nil_append, List.set] at hS
     try clear wd
     refine wl_istore (q := 1) hF hS rfl hv21 (by omega) (by omega) sz3 (hF.ev rfl) rfl (hF.ev rfl) fun w9 hS => ?_; dsimp only [List.set] at hS
     refine wl_nil ⟨rfl, ?_⟩
     refine xt ?_
     refine hK3 _ _ ?_
     refine ws fun K6 hK6 => ?_
     refine gb 1 4 hF hS rfl rfl rfl fun a hF => ?_
     refine ww 5 hF hS rfl rfl rfl rfl rfl rfl fun w10 hS => ?_
     refine wl_nil (hK6 _ _ ?_)
     refine wp_ret ?_
     refine xt ?_
     simp only [List.mem_cons, List.not_mem_nil, or_false] at h20
     exact ret1c rfl ag29 hF hS (i := 5) rfl sz29 rfl ⟨({ x with cells := x.cells.set x17.toNat x20 }, [z0, z1, z2]), ⟨rfl, hgx.cells (by unfold int64; omega)⟩, Sep.part_mk (ek := stateEK) (x := { x with cells := x.cells.set x17.toNat x20 }) (vs := [z0, z1, z2]) (Sep.headp (A := [_, _, _, _, _, _, _]) (B := [_, _, _, _]) hS [1, 2, 3, 6] (by decide) rfl rfl) rfl⟩
    ·
     refine op_ld rfl rfl (gw0 rfl) rfl rfl rfl (fun a w_ hF hS => r_load1 sc26 (hF.ev rfl) (hS.box (i := 4) rfl rfl)) ?_
     refine todo_fork [(9, [10, 11])] hl_ rfl (by kernel_rfl) (List.forall_mem_cons.2 ⟨?_, fun _ h_ => nomatch h_⟩)
     ·
      refine op_dw (m' := [11]) (val := fun x : Int => vi x) (R := fun x => x ∈ ([-1, 0, 1, 2, 3, 130, 131] : List Int)) rfl rfl (gw0 rfl) rfl rfl rfl rfl (fun a w_ hF => r_call2 en85 (hF.ev rfl) (hF.ev rfl)) (fun M_ w_ hS => l1PickInt_c hbs (q := 7) (fun w_ hS => (hS.own_rd (i := 1) rfl)) (by decide) hS rfl) ?_; intro x20 h20; try clear hSd; try clear wd; intro wd hSd
      obtain ⟨g21, o21, m21, q21, hv21, hm21, hl21, hc21⟩ := Rd.idxF ((hSd.own_rd (i := 1) rfl)) (at0_get (i := x17) (by omega) (by omega))
      refine todo_pure hl_ (by kernel_rfl) rfl (gw0 rfl) rfl rfl rfl (fun a w_ hF => r_index sl26 ((hF.ev rfl).trans hv21) (hF.ev rfl) (by omega) (by first | omega | (simp at hm21; omega))) ?_
      refine todo_fin hl_ rfl (by kernel_rfl) (tl := [_]) rfl ?_; intro a w11 hF hA_
      have hS := hA_.sep; clear hA_
      clear hl_; try clear hSd
      try dsimp only [List.cons_append, List.nil_append, List.set] at hS
      try clear wd
      refine wl_istore (q := 1) hF hS rfl hv21 (by omega) (by omega) sz3 (hF.ev rfl) rfl (hF.ev rfl) fun w12 hS => ?_; dsimp only [List.set] at hS
      refine wl_nil ⟨rfl, ?_⟩
      refine xt ?_
      refine hK3 _ _ ?_
      refine ws fun K7 hK7 => ?_
      refine gb 1 4 hF hS rfl rfl rfl fun a hF => ?_
      refine ww 5 hF hS rfl rfl rfl rfl rfl rfl fun w13 hS => ?_
      refine wl_nil (hK7 _ _ ?_)
      refine wp_ret ?_
      refine xt ?_
      simp only [List.mem_cons, List.not_mem_nil, or_false] at h20
      exact ret1c rfl ag29 hF hS (i := 5) rfl sz29 rfl ⟨({ x with cells := x.cells.set x17.toNat x20 }, [z0, z1, z2]), ⟨rfl, hgx.cells (by unfold int64; omega)⟩, Sep.part_mk (ek := stateEK) (x := { x with cells := x.cells.set x17.toNat x20 }) (vs := [z0, z1, z2]) (Sep.headp (A := [_, _, _, _, _, _, _]) (B := [_, _, _, _]) hS [1, 2, 3, 6] (by decide) rfl rfl) rfl⟩
   ·
    refine op_ld rfl rfl (gw0 rfl) rfl rfl rfl (fun a w_ hF hS => r_load1 sc26 (hF.ev rfl) (hS.box (i := 3) rfl rfl)) ?_
    refine todo_op hl_ rfl (by kernel_rfl) rfl rfl rfl rfl rfl (fun a w_ hF hS => r_bslice intEK [vi (-1), vi 0, vi 1, vi 2, vi 3, vi 130, vi 131] [-1, 0, 1, 2, 3, 130, 131] rfl mk26 rfl ⟨rfl, ec, rfl, ec, rfl, ec, rfl, ec, rfl, ec, rfl, ec, rfl, ec, trivial⟩ rfl rfl rfl rfl) ?_; intro gl_19
    refine todo_fork [(9, [10, 11])] hl_ rfl (by kernel_rfl) (List.forall_mem_cons.2 ⟨?_, fun _ h_ => nomatch h_⟩)
    ·
     refine op_dw (m' := [11]) (val := fun x : Int => vi x) (R := fun x => x ∈ ([-1, 0, 1, 2, 3, 130, 131] : List Int)) rfl rfl (gw0 rfl) rfl rfl rfl rfl (fun a w_ hF => r_call2 en85 (hF.ev rfl) (hF.ev rfl)) (fun M_ w_ hS => l1PickInt_c hbs (q := 7) (fun w_ hS => (hS.own_rd (i := 1) rfl)) (by decide) hS rfl) ?_; intro x20 h20; try clear hSd; try clear wd; intro wd hSd
     obtain ⟨g21, o21, m21, q21, hv21, hm21, hl21, hc21⟩ := Rd.idxF ((hSd.own_rd (i := 1) rfl)) (at0_get (i := x17) (by omega) (by omega))
     refine todo_pure hl_ (by kernel_rfl) rfl (gw0 rfl) rfl rfl rfl (fun a w_ hF => r_index sl26 ((hF.ev rfl).trans hv21) (hF.ev rfl) (by omega) (by first | omega | (simp at hm21; omega))) ?_
     refine todo_fin hl_ rfl (by kernel_rfl) (tl := [_]) rfl ?_; intro a w15 hF hA_
     have hS := hA_.sep; clear hA_
     clear hl_; try clear hSd
     try dsimp only [List.cons_append, List.nil_append, List.set] at hS
     try clear wd
     refine wl_istore (q := 1) hF hS rfl hv21 (by omega) (by omega) sz3 (hF.ev rfl) rfl (hF.ev rfl) fun w16 hS => ?_; dsimp only [List.set] at hS
     refine wl_nil ⟨rfl, ?_⟩
     refine xt ?_
     refine hK3 _ _ ?_
     refine ws fun K8 hK8 => ?_
     refine gb 1 4 hF hS rfl rfl rfl fun a hF => ?_
     refine ww 5 hF hS rfl rfl rfl rfl rfl rfl fun w17 hS => ?_
     refine wl_nil (hK8 _ _ ?_)
     refine wp_ret ?_
     refine xt ?_
     simp only [List.mem_cons, List.not_mem_nil, or_false] at h20
     exact ret1c rfl ag29 hF hS (i := 5) rfl sz29 rfl ⟨({ x with cells := x.cells.set x17.toNat x20 }, [z0, z1, z2]), ⟨rfl, hgx.cells (by unfold int64; omega)⟩, Sep.part_mk (ek := stateEK) (x := { x with cells := x.cells.set x17.toNat x20 }) (vs := [z0, z1, z2]) (Sep.headp (A := [_, _, _, _, _, _, _]) (B := [_, _, _, _]) hS [1, 2, 3, 6] (by decide) rfl rfl) rfl⟩
  ·
   refine op_op rfl rfl (gw0 rfl) rfl rfl rfl (fun a w_ hF hS => r_bslice intEK [vi (-1), vi 0, vi 1, vi 2, vi 3, vi 130, vi 131] [-1, 0, 1, 2, 3, 130, 131] rfl mk26 rfl ⟨rfl, ec, rfl, ec, rfl, ec, rfl, ec, rfl, ec, rfl, ec, rfl, ec, trivial⟩ rfl rfl rfl rfl) ?_; intro gl_19
   refine todo_fork [(6, [9, 1, 10, 11]), (1, [6, 9, 10, 11])] hl_ rfl (by kernel_rfl) (List.forall_mem_cons.2 ⟨?_, List.forall_mem_cons.2 ⟨?_, fun _ h_ => nomatch h_⟩⟩)
   ·
    refine op_dw (m' := [9, 11]) (val := fun x : Int => vi x) (R := fun x => 0 ≤ x ∧ (x < (z0.2.1 : Int) ∨ ((z0.2.1 : Int) ≤ 0 ∧ x = 0))) rfl rfl (gw0 rfl) rfl rfl rfl rfl (fun a w_ hF => r_call2 en83 (hF.ev rfl) (hF.ev rfl)) (fun M_ w_ hS => l1Below_c hbs (q := 7) _ hS rfl) ?_; intro x17 h17; try clear hSd; try clear wd; intro wd hSd
    refine todo_fork [(9, [1, 10, 11]), (1, [9, 10, 11])] hl_ rfl (by kernel_rfl) (List.forall_mem_cons.2 ⟨?_, List.forall_mem_cons.2 ⟨?_, fun _ h_ => nomatch h_⟩⟩)
    ·
     refine op_dw (m' := [11]) (val := fun x : Int => vi x) (R := fun x => x ∈ ([-1, 0, 1, 2, 3, 130, 131] : List Int)) rfl rfl (gw0 rfl) rfl rfl rfl rfl (fun a w_ hF => r_call2 en85 (hF.ev rfl) (hF.ev rfl)) (fun M_ w_ hS => l1PickInt_c hbs (q := 7) (fun w_ hS => (hS.own_rd (i := 1) rfl)) (by decide) hS rfl) ?_; intro x20 h20; try clear hSd; try clear wd; intro wd hSd
     refine todo_load [10, 11] hl_ (by kernel_rfl) rfl (gw0 rfl) rfl rfl rfl (fun a w_ hF hB_ => r_load1 sc26 (hF.ev rfl) ((hSd.ext hB_).box (i := 4) rfl rfl)) ?_
     obtain ⟨g21, o21, m21, q21, hv21, hm21, hl21, hc21⟩ := Rd.idxF ((hSd.own_rd (i := 1) rfl)) (at0_get (i := x17) (by omega) (by omega))
     refine todo_pure hl_ (by kernel_rfl) rfl (gw0 rfl) rfl rfl rfl (fun a w_ hF => r_index sl26 ((hF.ev rfl).trans hv21) (hF.ev rfl) (by omega) (by first | omega | (simp at hm21; omega))) ?_
     refine todo_fin hl_ rfl (by kernel_rfl) (tl := [_]) rfl ?_; intro a w19 hF hA_
     have hS := hA_.sep; clear hA_
     clear hl_; try clear hSd
     try dsimp only [List.cons_append, List.nil_append, List.set] at hS
     try clear wd
     refine wl_istore (q := 1) hF hS rfl hv21 (by omega) (by omega) sz3 (hF.ev rfl) rfl (hF.ev rfl) fun w20 hS => ?_; dsimp only [List.set] at hS
     refine wl_nil ⟨rfl, ?_⟩
     refine xt ?_
     refine hK3 _ _ ?_
     refine ws fun K9 hK9 => ?_
     refine gb 1 4 hF hS rfl rfl rfl fun a hF => ?_
     refine ww 5 hF hS rfl rfl rfl rfl rfl rfl fun w21 hS => ?_
     refine wl_nil (hK9 _ _ ?_)
     refine wp_ret ?_
     refine xt ?_
     simp only [List.mem_cons, List.not_mem_nil, or_false] at h20
     exact ret1c rfl ag29 hF hS (i := 5) rfl sz29 rfl ⟨({ x with cells := x.cells.set x17.toNat x20 }, [z0, z1, z2]), ⟨rfl, hgx.cells (by unfold int64; omega)⟩, Sep.part_mk (ek := stateEK) (x := { x with cells := x.cells.set x17.toNat x20 }) (vs := [z0, z1, z2]) (Sep.headp (A := [_, _, _, _, _, _, _]) (B := [_, _, _, _]) hS [1, 2, 3, 6] (by decide) rfl rfl) rfl⟩
    ·
     refine op_ld rfl rfl (gw0 rfl) rfl rfl rfl (fun a w_ hF hS => r_load1 sc26 (hF.ev rfl) (hS.box (i := 4) rfl rfl)) ?_
     refine todo_fork [(9, [10, 11])] hl_ rfl (by kernel_rfl) (List.forall_mem_cons.2 ⟨?_, fun _ h_ => nomatch h_⟩)
     ·
      refine op_dw (m' := [11]) (val := fun x : Int => vi x) (R := fun x => x ∈ ([-1, 0, 1, 2, 3, 130, 131] : List Int)) rfl rfl (gw0 rfl) rfl rfl rfl rfl (fun a w_ hF => r_call2 en85 (hF.ev rfl) (hF.ev rfl)) (fun M_ w_ hS => l1PickInt_c hbs (q := 7) (fun w_ hS => (hS.own_rd (i := 1) rfl)) (by decide) hS rfl) ?_; intro x20 h20; try clear hSd; try clear wd; intro wd hSd
      obtain ⟨g21, o21, m21, q21, hv21, hm21, hl21, hc21⟩ := Rd.idxF ((hSd.own_rd (i := 1) rfl)) (at0_get (i := x17) (by omega) (by omega))
      refine todo_pure hl_ (by kernel_rfl) rfl (gw0 rfl) rfl rfl rfl (fun a w_ hF => r_index sl26 ((hF.ev rfl).trans hv21) (hF.ev rfl) (by omega) (by first | omega | (simp at hm21; omega))) ?_
      refine todo_fin hl_ rfl (by kernel_rfl) (tl := [_]) rfl ?_; intro a w22 hF hA_
      have hS := hA_.sep; clear hA_
      clear hl_; try clear hSd
      try dsimp only [List.cons_append, List.nil_append, List.set] at hS
      try clear wd
      refine wl_istore (q := 1) hF hS rfl hv21 (by omega) (by omega) sz3 (hF.ev rfl) rfl (hF.ev rfl) fun w23 hS => ?_; dsimp only [List.set] at hS
      refine wl_nil ⟨rfl, ?_⟩
      refine xt ?_
      refine hK3 _ _ ?_
      refine ws fun K10 hK10 => ?_
      refine gb 1 4 hF hS rfl rfl rfl fun a hF => ?_
      refine ww 5 hF hS rfl rfl rfl rfl rfl rfl fun w24 hS => ?_
      refine wl_nil (hK10 _ _ ?_)
      refine wp_ret ?_
      refine xt ?_
      simp only [List.mem_cons, List.not_mem_nil, or_false] at h20
      exact ret1c rfl ag29 hF hS (i := 5) rfl sz29 rfl ⟨({ x with cells := x.cells.set x17.toNat x20 }, [z0, z1, z2]), ⟨rfl, hgx.cells (by unfold int64; omega)⟩, Sep.part_mk (ek := stateEK) (x := { x with cells := x.cells.set x17.toNat x20 }) (vs := [z0, z1, z2]) (Sep.headp (A := [_, _, _, _, _, _, _]) (B := [_, _, _, _]) hS [1, 2, 3, 6] (by decide) rfl rfl) rfl⟩
   ·
    refine op_ld rfl rfl (gw0 rfl) rfl rfl rfl (fun a w_ hF hS => r_load1 sc26 (hF.ev rfl) (hS.box (i := 4) rfl rfl)) ?_
    refine todo_fork [(6, [9, 10, 11])] hl_ rfl (by kernel_rfl) (List.forall_mem_cons.2 ⟨?_, fun _ h_ => nomatch h_⟩)
    ·
     refine op_dw (m' := [9, 11]) (val := fun x : Int => vi x) (R := fun x => 0 ≤ x ∧ (x < (z0.2.1 : Int) ∨ ((z0.2.1 : Int) ≤ 0 ∧ x = 0))) rfl rfl (gw0 rfl) rfl rfl rfl rfl (fun a w_ hF => r_call2 en83 (hF.ev rfl) (hF.ev rfl)) (fun M_ w_ hS => l1Below_c hbs (q := 7) _ hS rfl) ?_; intro x17 h17; try clear hSd; try clear wd; intro wd hSd
     refine todo_fork [(9, [10, 11])] hl_ rfl (by kernel_rfl) (List.forall_mem_cons.2 ⟨?_, fun _ h_ => nomatch h_⟩)
     ·
      refine op_dw (m' := [11]) (val := fun x : Int => vi x) (R := fun x => x ∈ ([-1, 0, 1, 2, 3, 130, 131] : List Int)) rfl rfl (gw0 rfl) rfl rfl rfl rfl (fun a w_ hF => r_call2 en85 (hF.ev rfl) (hF.ev rfl)) (fun M_ w_ hS => l1PickInt_c hbs (q := 7) (fun w_ hS => (hS.own_rd (i := 1) rfl)) (by decide) hS rfl) ?_; intro x20 h20; try clear hSd; try clear wd; intro wd hSd
      obtain ⟨g21, o21, m21, q21, hv21, hm21, hl21, hc21⟩ := Rd.idxF ((hSd.own_rd (i := 1) rfl)) (at0_get (i := x17) (by omega) (by omega))
      refine todo_pure hl_ (by kernel_rfl) rfl (gw0 rfl) rfl rfl rfl (fun a w_ hF => r_index sl26 ((hF.ev rfl).trans hv21) (hF.ev rfl) (by omega) (by first | omega | (simp at hm21; omega))) ?_
      refine todo_fin hl_ rfl (by kernel_rfl) (tl := [_]) rfl ?_; intro a w25 hF hA_
      have hS := hA_.sep; clear hA_
      clear hl_; try clear hSd
      try dsimp only [List.cons_append, List.nil_append, List.set] at hS
      try clear wd
      refine wl_istore (q := 1) hF hS rfl hv21 (by omega) (by omega) sz3 (hF.ev rfl) rfl (hF.ev rfl) fun w26 hS => ?_; dsimp only [List.set] at hS
      refine wl_nil ⟨rfl, ?_⟩
      refine xt ?_
      refine hK3 _ _ ?_
      refine ws fun K11 hK11 => ?_
      refine gb 1 4 hF hS rfl rfl rfl fun a hF => ?_
      refine ww 5 hF hS rfl rfl rfl rfl rfl rfl fun w27 hS => ?_
      refine wl_nil (hK11 _ _ ?_)
      refine wp_ret ?_
      refine xt ?_
      simp only [List.mem_cons, List.not_mem_nil, or_false] at h20
      exact ret1c rfl ag29 hF hS (i := 5) rfl sz29 rfl ⟨({ x with cells := x.cells.set x17.toNat x20 }, [z0, z1, z2]), ⟨rfl, hgx.cells (by unfold int64; omega)⟩, Sep.part_mk (ek := stateEK) (x := { x with cells := x.cells.set x17.toNat x20 }) (vs := [z0, z1, z2]) (Sep.headp (A := [_, _, _, _, _, _, _]) (B := [_, _, _, _]) hS [1, 2, 3, 6] (by decide) rfl rfl) rfl⟩
  ·
   refine op_ld rfl rfl (gw0 rfl) rfl rfl rfl (fun a w_ hF hS => r_load1 sc26 (hF.ev rfl) (hS.box (i := 3) rfl rfl)) ?_
   refine todo_fork [(6, [8, 9, 10, 11]), (8, [6, 9, 10, 11])] hl_ rfl (by kernel_rfl) (List.forall_mem_cons.2 ⟨?_, List.forall_mem_cons.2 ⟨?_, fun _ h_ => nomatch h_⟩⟩)
   ·
    refine op_dw (m' := [9, 11]) (val := fun x : Int => vi x) (R := fun x => 0 ≤ x ∧ (x < (z0.2.1 : Int) ∨ ((z0.2.1 : Int) ≤ 0 ∧ x = 0))) rfl rfl (gw0 rfl) rfl rfl rfl rfl (fun a w_ hF => r_call2 en83 (hF.ev rfl) (hF.ev rfl)) (fun M_ w_ hS => l1Below_c hbs (q := 6) _ hS rfl) ?_; intro x17 h17; try clear hSd; try clear wd; intro wd hSd
    refine todo_op hl_ rfl (by kernel_rfl) rfl rfl rfl rfl rfl (fun a w_ hF hS => r_bslice intEK [vi (-1), vi 0, vi 1, vi 2, vi 3, vi 130, vi 131] [-1, 0, 1, 2, 3, 130, 131] rfl mk26 rfl ⟨rfl, ec, rfl, ec, rfl, ec, rfl, ec, rfl, ec, rfl, ec, rfl, ec, trivial⟩ rfl rfl rfl rfl) ?_; intro gl_19
    refine todo_fork [(9, [10, 11])] hl_ rfl (by kernel_rfl) (List.forall_mem_cons.2 ⟨?_, fun _ h_ => nomatch h_⟩)
    ·
     refine op_dw (m' := [11]) (val := fun x : Int => vi x) (R := fun x => x ∈ ([-1, 0, 1, 2, 3, 130, 131] : List Int)) rfl rfl (gw0 rfl) rfl rfl rfl rfl (fun a w_ hF => r_call2 en85 (hF.ev rfl) (hF.ev rfl)) (fun M_ w_ hS => l1PickInt_c hbs (q := 7) (fun w_ hS => (hS.own_rd (i := 1) rfl)) (by decide) hS rfl) ?_; intro x20 h20; try clear hSd; try clear wd; intro wd hSd
     obtain ⟨g21, o21, m21, q21, hv21, hm21, hl21, hc21⟩ := Rd.idxF ((hSd.own_rd (i := 1) rfl)) (at0_get (i := x17) (by omega) (by omega))
     refine todo_pure hl_ (by kernel_rfl) rfl (gw0 rfl) rfl rfl rfl (fun a w_ hF => r_index sl26 ((hF.ev rfl).trans hv21) (hF.ev rfl) (by omega) (by first | omega | (simp at hm21; omega))) ?_
     refine todo_fin hl_ rfl (by kernel_rfl) (tl := [_]) rfl ?_; intro a w29 hF hA_
     have hS := hA_.sep; clear hA_
     clear hl_; try clear hSd
     try dsimp only [List.cons_append, List.nil_append, List.set] at hS
     try clear wd
     refine wl_istore (q := 1) hF hS rfl hv21 (by omega) (by omega) sz3 (hF.ev rfl) rfl (hF.ev rfl) fun w30 hS => ?_; dsimp only [List.set] at hS
     refine wl_nil ⟨rfl, ?_⟩
     refine xt ?_
     refine hK3 _ _ ?_
     refine ws fun K12 hK12 => ?_
     refine gb 1 4 hF hS rfl rfl rfl fun a hF => ?_
     refine ww 5 hF hS rfl rfl rfl rfl rfl rfl fun w31 hS => ?_
     refine wl_nil (hK12 _ _ ?_)
     refine wp_ret ?_
     refine xt ?_
     simp only [List.mem_cons, List.not_mem_nil, or_false] at h20
     exact ret1c rfl ag29 hF hS (i := 5) rfl sz29 rfl ⟨({ x with cells := x.cells.set x17.toNat x20 }, [z0, z1, z2]), ⟨rfl, hgx.cells (by unfold int64; omega)⟩, Sep.part_mk (ek := stateEK) (x := { x with cells := x.cells.set x17.toNat x20 }) (vs := [z0, z1, z2]) (Sep.headp (A := [_, _, _, _, _, _, _]) (B := [_, _, _, _]) hS [1, 2, 3, 6] (by decide) rfl rfl) rfl⟩
   ·
    refine op_op rfl rfl (gw0 rfl) rfl rfl rfl (fun a w_ hF hS => r_bslice intEK [vi (-1), vi 0, vi 1, vi 2, vi 3, vi 130, vi 131] [-1, 0, 1, 2, 3, 130, 131] rfl mk26 rfl ⟨rfl, ec, rfl, ec, rfl, ec, rfl, ec, rfl, ec, rfl, ec, rfl, ec, trivial⟩ rfl rfl rfl rfl) ?_; intro gl_19
    refine todo_fork [(6, [9, 10, 11])] hl_ rfl (by kernel_rfl) (List.forall_mem_cons.2 ⟨?_, fun _ h_ => nomatch h_⟩)
    ·
     refine op_dw (m' := [9, 11]) (val := fun x : Int => vi x) (R := fun x => 0 ≤ x ∧ (x < (z0.2.1 : Int) ∨ ((z0.2.1 : Int) ≤ 0 ∧ x = 0))) rfl rfl (gw0 rfl) rfl rfl rfl rfl (fun a w_ hF => r_call2 en83 (hF.ev rfl) (hF.ev rfl)) (fun M_ w_ hS => l1Below_c hbs (q := 7) _ hS rfl) ?_; intro x17 h17; try clear hSd; try clear wd; intro wd hSd
     refine todo_fork [(9, [10, 11])] hl_ rfl (by kernel_rfl) (List.forall_mem_cons.2 ⟨?_, fun _ h_ => nomatch h_⟩)
     ·
      refine op_dw (m' := [11]) (val := fun x : Int => vi x) (R := fun x => x ∈ ([-1, 0, 1, 2, 3, 130, 131] : List Int)) rfl rfl (gw0 rfl) rfl rfl rfl rfl (fun a w_ hF => r_call2 en85 (hF.ev rfl) (hF.ev rfl)) (fun M_ w_ hS => l1PickInt_c hbs (q := 7) (fun w_ hS => (hS.own_rd (i := 1) rfl)) (by decide) hS rfl) ?_; intro x20 h20; try clear hSd; try clear wd; intro wd hSd
      obtain ⟨g21, o21, m21, q21, hv21, hm21, hl21, hc21⟩ := Rd.idxF ((hSd.own_rd (i := 1) rfl)) (at0_get (i := x17) (by omega) (by omega))
      refine todo_pure hl_ (by kernel_rfl) rfl (gw0 rfl) rfl rfl rfl (fun a w_ hF => r_index sl26 ((hF.ev rfl).trans hv21) (hF.ev rfl) (by omega) (by first | omega | (simp at hm21; omega))) ?_
      refine todo_fin hl_ rfl (by kernel_rfl) (tl := [_]) rfl ?_; intro a w33 hF hA_
      have hS := hA_.sep; clear hA_
      clear hl_; try clear hSd
      try dsimp only [List.cons_append, List.nil_append, List.set] at hS
      try clear wd
      refine wl_istore (q := 1) hF hS rfl hv21 (by omega) (by omega) sz3 (hF.ev rfl) rfl (hF.ev rfl) fun w34 hS => ?_; dsimp only [List.set] at hS
      refine wl_nil ⟨rfl, ?_⟩
      refine xt ?_
      refine hK3 _ _ ?_
      refine ws fun K13 hK13 => ?_
      refine gb 1 4 hF hS rfl rfl rfl fun a hF => ?_
      refine ww 5 hF hS rfl rfl rfl rfl rfl rfl fun w35 hS => ?_
      refine wl_nil (hK13 _ _ ?_)
      refine wp_ret ?_
      refine xt ?_
      simp only [List.mem_cons, List.not_mem_nil, or_false] at h20
      exact ret1c rfl ag29 hF hS (i := 5) rfl sz29 rfl ⟨({ x with cells := x.cells.set x17.toNat x20 }, [z0, z1, z2]), ⟨rfl, hgx.cells (by unfold int64; omega)⟩, Sep.part_mk (ek := stateEK) (x := { x with cells := x.cells.set x17.toNat x20 }) (vs := [z0, z1, z2]) (Sep.headp (A := [_, _, _, _, _, _, _]) (B := [_, _, _, _]) hS [1, 2, 3, 6] (by decide) rfl rfl) rfl⟩
 obtain ⟨x, hx_⟩ : ∃ x, x = newState c5 := ⟨_, rfl⟩
 rw [← hx_] at hS
 try rw [← hx_] at hF
 have hgx : Good x := hx_ ▸ good_new h5
 obtain ⟨ho_, hc_, hgl_, ht_⟩ := hgx.sh
 have hb_ := ho_; unfold Config.ok at hb_
 have hz_ := hgx.sz
 have hcc_ := cellCount_eq ho_
 replace hS := hS.pull (p := 1) rfl; dsimp only [List.eraseIdx] at hS
 replace hS : Sep W (Own intEK (sv (vs6.getD 0 (none, 0, 0))) (x).cells :: Own intEK (sv (vs6.getD 1 (none, 0, 0))) (x).generations :: Own threadEK (sv (vs6.getD 2 (none, 0, 0))) (x).threads :: _) _ := hS.part_open
 dsimp only [stateEK] at hS
 generalize vs6.getD 0 (none, 0, 0) = z0 at hS
 generalize vs6.getD 1 (none, 0, 0) = z1 at hS
 generalize vs6.getD 2 (none, 0, 0) = z2 at hS
 have hcap_ : (x).cells.length ≤ z0.2.2 := by
   obtain ⟨A_, c_, e_, h1_, _⟩ := (hS.own_rd (i := 0) rfl).sl
   have e2_ : z0.2.2 = c_ := by injection e_
   rw [e2_]; exact h1_
 have hl0_ := hS.own_len (q := 0) rfl
 have hl1_ := hS.own_len (q := 1) rfl
 have hl2_ := hS.own_len (q := 2) rfl
 refine rg hF rfl fun a hF => ?_
 refine cx 22 hF rfl (fun c22 hF => ?_) fun c22 hF => ?_
 ·
  refine wp_region_todo (is := [0, 2, 3, 4, 1, 5, 6]) [] [4, 6] (by kernel_rfl) hF hS ⟨trivial, by decide, by decide, by decide⟩ (by kernel_rfl) ?_; intro hl_ wd hSd
  refine todo_pure hl_ (by kernel_rfl) rfl (gw0 rfl) rfl rfl rfl (fun a w_ hF => r_field fo29_2 (hF.ev rfl)) ?_
  refine todo_pure hl_ (by kernel_rfl) rfl (gw0 rfl) rfl rfl rfl (fun a w_ hF => r_move (hF.ev rfl)) ?_
  refine todo_fork [(3, [4, 1, 5, 6]), (1, [3, 4, 5, 6])] hl_ rfl (by kernel_rfl) (List.forall_mem_cons.2 ⟨?_, List.forall_mem_cons.2 ⟨?_, fun _ h_ => nomatch h_⟩⟩)
  ·
   refine op_op rfl rfl (gw0 rfl) rfl rfl rfl (fun a w_ hF hS => r_bslice intEK [vi (-1), vi 1, vi 9998, vi 9999] [-1, 1, 9998, 9999] rfl mk26 rfl ⟨rfl, ec, rfl, ec, rfl, ec, rfl, ec, trivial⟩ rfl rfl rfl rfl) ?_; intro gl_27
   refine todo_fork [(4, [1, 5, 6]), (1, [4, 5, 6])] hl_ rfl (by kernel_rfl) (List.forall_mem_cons.2 ⟨?_, List.forall_mem_cons.2 ⟨?_, fun _ h_ => nomatch h_⟩⟩)
   ·
    refine op_dw (m' := [6]) (val := fun x : Int => vi x) (R := fun x => x ∈ ([-1, 1, 9998, 9999] : List Int)) rfl rfl (gw0 rfl) rfl rfl rfl rfl (fun a w_ hF => r_call2 en85 (hF.ev rfl) (hF.ev rfl)) (fun M_ w_ hS => l1PickInt_c hbs (q := 7) (fun w_ hS => (hS.own_rd (i := 1) rfl)) (by decide) hS rfl) ?_; intro x28 h28; try clear hSd; try clear wd; intro wd hSd
    refine todo_load [5, 6] hl_ (by kernel_rfl) rfl (gw0 rfl) rfl rfl rfl (fun a w_ hF hB_ => r_load1 sc26 (hF.ev rfl) ((hSd.ext hB_).box (i := 4) rfl rfl)) ?_
    obtain ⟨g29, o29, m29, q29, hv29, hm29, hl29, hc29⟩ := Rd.idxF ((hSd.own_rd (i := 2) rfl)) (at0_get (i := (0 : Int)) (by omega) (by omega))
    refine todo_pure hl_ (by kernel_rfl) rfl (gw0 rfl) rfl rfl rfl (fun a w_ hF => r_index sl26 ((hF.ev rfl).trans hv29) ec (by omega) (by first | omega | (simp at hm29; omega))) ?_
    refine todo_fin hl_ rfl (by kernel_rfl) (tl := [_]) rfl ?_; intro a w37 hF hA_
    have hS := hA_.sep; clear hA_
    clear hl_; try clear hSd
    try dsimp only [List.cons_append, List.nil_append, List.set] at hS
    try clear wd
    refine wl_istore (q := 2) hF hS rfl hv29 (by omega) (by omega) sz3 (hF.ev rfl) rfl (hF.ev rfl) fun w38 hS => ?_; dsimp only [List.set] at hS
    refine wl_nil ⟨rfl, ?_⟩
    refine xt ?_
    refine hK3 _ _ ?_
    refine ws fun K15 hK15 => ?_
    refine gb 1 4 hF hS rfl rfl rfl fun a hF => ?_
    refine ww 5 hF hS rfl rfl rfl rfl rfl rfl fun w39 hS => ?_
    refine wl_nil (hK15 _ _ ?_)
    refine wp_ret ?_
    refine xt ?_
    simp only [List.mem_cons, List.not_mem_nil, or_false] at h28
    exact ret1c rfl ag29 hF hS (i := 5) rfl sz29 rfl ⟨({ x with generations := x.generations.set 0 x28 }, [z0, z1, z2]), ⟨rfl, hgx.gens (by unfold int64; omega)⟩, Sep.part_mk (ek := stateEK) (x := { x with generations := x.generations.set 0 x28 }) (vs := [z0, z1, z2]) (Sep.headp (A := [_, _, _, _, _, _, _]) (B := [_, _, _, _]) hS [1, 2, 3, 6] (by decide) rfl rfl) rfl⟩
   ·
    refine op_ld rfl rfl (gw0 rfl) rfl rfl rfl (fun a w_ hF hS => r_load1 sc26 (hF.ev rfl) (hS.box (i := 4) rfl rfl)) ?_
    refine todo_fork [(4, [5, 6])] hl_ rfl (by kernel_rfl) (List.forall_mem_cons.2 ⟨?_, fun _ h_ => nomatch h_⟩)
    ·
     refine op_dw (m' := [6]) (val := fun x : Int => vi x) (R := fun x => x ∈ ([-1, 1, 9998, 9999] : List Int)) rfl rfl (gw0 rfl) rfl rfl rfl rfl (fun a w_ hF => r_call2 en85 (hF.ev rfl) (hF.ev rfl)) (fun M_ w_ hS => l1PickInt_c hbs (q := 7) (fun w_ hS => (hS.own_rd (i := 1) rfl)) (by decide) hS rfl) ?_; intro x28 h28; try clear hSd; try clear wd; intro wd hSd
     obtain ⟨g29, o29, m29, q29, hv29, hm29, hl29, hc29⟩ := Rd.idxF ((hSd.own_rd (i := 2) rfl)) (at0_get (i := (0 : Int)) (by omega) (by omega))
     refine todo_pure hl_ (by kernel_rfl) rfl (gw0 rfl) rfl rfl rfl (fun a w_ hF => r_index sl26 ((hF.ev rfl).trans hv29) ec (by omega) (by first | omega | (simp at hm29; omega))) ?_
     refine todo_fin hl_ rfl (by kernel_rfl) (tl := [_]) rfl ?_; intro a w40 hF hA_
     have hS := hA_.sep; clear hA_
     clear hl_; try clear hSd
     try dsimp only [List.cons_append, List.nil_append, List.set] at hS
     try clear wd
     refine wl_istore (q := 2) hF hS rfl hv29 (by omega) (by omega) sz3 (hF.ev rfl) rfl (hF.ev rfl) fun w41 hS => ?_; dsimp only [List.set] at hS
     refine wl_nil ⟨rfl, ?_⟩
     refine xt ?_
     refine hK3 _ _ ?_
     refine ws fun K16 hK16 => ?_
     refine gb 1 4 hF hS rfl rfl rfl fun a hF => ?_
     refine ww 5 hF hS rfl rfl rfl rfl rfl rfl fun w42 hS => ?_
     refine wl_nil (hK16 _ _ ?_)
     refine wp_ret ?_
     refine xt ?_
     simp only [List.mem_cons, List.not_mem_nil, or_false] at h28
     exact ret1c rfl ag29 hF hS (i := 5) rfl sz29 rfl ⟨({ x with generations := x.generations.set 0 x28 }, [z0, z1, z2]), ⟨rfl, hgx.gens (by unfold int64; omega)⟩, Sep.part_mk (ek := stateEK) (x := { x with generations := x.generations.set 0 x28 }) (vs := [z0, z1, z2]) (Sep.headp (A := [_, _, _, _, _, _, _]) (B := [_, _, _, _]) hS [1, 2, 3, 6] (by decide) rfl rfl) rfl⟩
  ·
   refine op_ld rfl rfl (gw0 rfl) rfl rfl rfl (fun a w_ hF hS => r_load1 sc26 (hF.ev rfl) (hS.box (i := 3) rfl rfl)) ?_
   refine todo_op hl_ rfl (by kernel_rfl) rfl rfl rfl rfl rfl (fun a w_ hF hS => r_bslice intEK [vi (-1), vi 1, vi 9998, vi 9999] [-1, 1, 9998, 9999] rfl mk26 rfl ⟨rfl, ec, rfl, ec, rfl, ec, rfl, ec, trivial⟩ rfl rfl rfl rfl) ?_; intro gl_27
   refine todo_fork [(4, [5, 6])] hl_ rfl (by kernel_rfl) (List.forall_mem_cons.2 ⟨?_, fun _ h_ => nomatch h_⟩)
   ·
    refine op_dw (m' := [6]) (val := fun x : Int => vi x) (R := fun x => x ∈ ([-1, 1, 9998, 9999] : List Int)) rfl rfl (gw0 rfl) rfl rfl rfl rfl (fun a w_ hF => r_call2 en85 (hF.ev rfl) (hF.ev rfl)) (fun M_ w_ hS => l1PickInt_c hbs (q := 7) (fun w_ hS => (hS.own_rd (i := 1) rfl)) (by decide) hS rfl) ?_; intro x28 h28; try clear hSd; try clear wd; intro wd hSd
    obtain ⟨g29, o29, m29, q29, hv29, hm29, hl29, hc29⟩ := Rd.idxF ((hSd.own_rd (i := 2) rfl)) (at0_get (i := (0 : Int)) (by omega) (by omega))
    refine todo_pure hl_ (by kernel_rfl) rfl (gw0 rfl) rfl rfl rfl (fun a w_ hF => r_index sl26 ((hF.ev rfl).trans hv29) ec (by omega) (by first | omega | (simp at hm29; omega))) ?_
    refine todo_fin hl_ rfl (by kernel_rfl) (tl := [_]) rfl ?_; intro a w44 hF hA_
    have hS := hA_.sep; clear hA_
    clear hl_; try clear hSd
    try dsimp only [List.cons_append, List.nil_append, List.set] at hS
    try clear wd
    refine wl_istore (q := 2) hF hS rfl hv29 (by omega) (by omega) sz3 (hF.ev rfl) rfl (hF.ev rfl) fun w45 hS => ?_; dsimp only [List.set] at hS
    refine wl_nil ⟨rfl, ?_⟩
    refine xt ?_
    refine hK3 _ _ ?_
    refine ws fun K17 hK17 => ?_
    refine gb 1 4 hF hS rfl rfl rfl fun a hF => ?_
    refine ww 5 hF hS rfl rfl rfl rfl rfl rfl fun w46 hS => ?_
    refine wl_nil (hK17 _ _ ?_)
    refine wp_ret ?_
    refine xt ?_
    simp only [List.mem_cons, List.not_mem_nil, or_false] at h28
    exact ret1c rfl ag29 hF hS (i := 5) rfl sz29 rfl ⟨({ x with generations := x.generations.set 0 x28 }, [z0, z1, z2]), ⟨rfl, hgx.gens (by unfold int64; omega)⟩, Sep.part_mk (ek := stateEK) (x := { x with generations := x.generations.set 0 x28 }) (vs := [z0, z1, z2]) (Sep.headp (A := [_, _, _, _, _, _, _]) (B := [_, _, _, _]) hS [1, 2, 3, 6] (by decide) rfl rfl) rfl⟩
 refine rg hF rfl fun a hF => ?_
 refine cx 30 hF rfl (fun c30 hF => ?_) fun c30 hF => ?_
 ·
  refine wp_region_todo (is := [0, 2, 3, 1, 4, 5]) [] [3, 5] (by kernel_rfl) hF hS ⟨trivial, by decide, by decide, by decide⟩ (by kernel_rfl) ?_; intro hl_ wd hSd
  refine todo_pure hl_ (by kernel_rfl) rfl (gw0 rfl) rfl rfl rfl (fun a w_ hF => r_field fo29_3 (hF.ev rfl)) ?_
  refine todo_pure hl_ (by kernel_rfl) rfl (gw0 rfl) rfl rfl rfl (fun a w_ hF => r_move (hF.ev rfl)) ?_
  refine todo_fork [(3, [1, 4, 5]), (1, [3, 4, 5])] hl_ rfl (by kernel_rfl) (List.forall_mem_cons.2 ⟨?_, List.forall_mem_cons.2 ⟨?_, fun _ h_ => nomatch h_⟩⟩)
  ·
   refine op_mc (Γ := {z : Sl.Thread × List Slv // z.1.wf ∧ z.1.size ≤ 60 ∧ 0 ≤ z.1.seen}) (m' := [5]) rfl (gw0 rfl) rfl rfl rfl (fun a w_ hF => r_call1 en179 (hF.ev rfl)) (fun w_ hS => calls_sub (l7Thread_h hbs (Sep.headp (A := [_, _, _, _, _, _]) (B := [_, _, _, _, _, _]) hS [5, 0, 1, 2, 3, 4] (by decide) rfl rfl))) ?_; intro ⟨⟨t35, vs35⟩, hw35, hz35, hs35⟩; try clear hSd; try clear wd; intro wd hSd
   refine todo_load [4, 5] hl_ (by kernel_rfl) rfl (gw0 rfl) rfl rfl rfl (fun a w_ hF hB_ => r_load1 sc27 (hF.ev rfl) ((hSd.ext hB_).box (i := 5) rfl rfl)) ?_
   obtain ⟨g36, o36, m36, q36, cs36, hv36, hm36, hl36, hk36, hz36, hc36⟩ := Rd.idx ((hSd.own_rd (i := 4) rfl)) (at0_get (i := (0 : Int)) (by omega) (by omega))
   have hkk36 := hk36; obtain ⟨v36_0, v36_1, v36_2, v36_3, v36_4, rfl, r36_0, r36_1, r36_2, r36_3, r36_4⟩ := hk36
   refine todo_pure hl_ (by kernel_rfl) rfl (gw0 rfl) rfl rfl rfl (fun a w_ hF => r_index sl27 ((hF.ev rfl).trans hv36) ec (by omega) (by first | omega | (simp at hm36; omega))) ?_
   refine todo_fin hl_ rfl (by kernel_rfl) (tl := [_]) rfl ?_; intro a w47 hF hA_
   have hS := hA_.sep; clear hA_
   clear hl_; try clear hSd
   try dsimp only [List.cons_append, List.nil_append, List.set] at hS
   try clear wd
   replace hS := hS.pull (p := 0) rfl; dsimp only [List.eraseIdx] at hS
   refine wl_oput (q := 3) hF hS rfl hv36 (at0_get (by omega) (by first | omega | (simp; omega))) sz42 (hF.ev rfl) rfl (hF.ev rfl) rfl fun w48 hS => ?_; dsimp only [List.set] at hS
   refine wl_nil ⟨rfl, ?_⟩
   refine xt ?_
   refine hK3 _ _ ?_
   refine ws fun K19 hK19 => ?_
   refine gb 1 4 hF hS rfl rfl rfl fun a hF => ?_
   refine ww 5 hF hS rfl rfl rfl rfl rfl rfl fun w49 hS => ?_
   refine wl_nil (hK19 _ _ ?_)
   refine wp_ret ?_
   refine xt ?_
   exact ret1c rfl ag29 hF hS (i := 5) rfl sz29 rfl ⟨({ x with threads := x.threads.set 0 t35 }, [z0, z1, z2]), ⟨rfl, new_threadX hx_ h5 hw35 hz35 hs35⟩, Sep.part_mk (ek := stateEK) (x := { x with threads := x.threads.set 0 t35 }) (vs := [z0, z1, z2]) (Sep.headp (A := [_, _, _, _, _, _]) (B := [_, _, _, _]) hS [1, 2, 3, 0] (by decide) rfl rfl) rfl⟩
  ·
   refine op_ld rfl rfl (gw0 rfl) rfl rfl rfl (fun a w_ hF hS => r_load1 sc27 (hF.ev rfl) (hS.box (i := 3) rfl rfl)) ?_
   refine todo_fork [(3, [4, 5])] hl_ rfl (by kernel_rfl) (List.forall_mem_cons.2 ⟨?_, fun _ h_ => nomatch h_⟩)
   ·
    refine op_mc (Γ := {z : Sl.Thread × List Slv // z.1.wf ∧ z.1.size ≤ 60 ∧ 0 ≤ z.1.seen}) (m' := [5]) rfl (gw0 rfl) rfl rfl rfl (fun a w_ hF => r_call1 en179 (hF.ev rfl)) (fun w_ hS => calls_sub (l7Thread_h hbs (Sep.headp (A := [_, _, _, _, _, _]) (B := [_, _, _, _, _, _]) hS [5, 0, 1, 2, 3, 4] (by decide) rfl rfl))) ?_; intro ⟨⟨t35, vs35⟩, hw35, hz35, hs35⟩; try clear hSd; try clear wd; intro wd hSd
    obtain ⟨g36, o36, m36, q36, cs36, hv36, hm36, hl36, hk36, hz36, hc36⟩ := Rd.idx ((hSd.own_rd (i := 4) rfl)) (at0_get (i := (0 : Int)) (by omega) (by omega))
    have hkk36 := hk36; obtain ⟨v36_0, v36_1, v36_2, v36_3, v36_4, rfl, r36_0, r36_1, r36_2, r36_3, r36_4⟩ := hk36
    refine todo_pure hl_ (by kernel_rfl) rfl (gw0 rfl) rfl rfl rfl (fun a w_ hF => r_index sl27 ((hF.ev rfl).trans hv36) ec (by omega) (by first | omega | (simp at hm36; omega))) ?_
    refine todo_fin hl_ rfl (by kernel_rfl) (tl := [_]) rfl ?_; intro a w50 hF hA_
    have hS := hA_.sep; clear hA_
    clear hl_; try clear hSd
    try dsimp only [List.cons_append, List.nil_append, List.set] at hS
    try clear wd
    replace hS := hS.pull (p := 0) rfl; dsimp only [List.eraseIdx] at hS
    refine wl_oput (q := 3) hF hS rfl hv36 (at0_get (by omega) (by first | omega | (simp; omega))) sz42 (hF.ev rfl) rfl (hF.ev rfl) rfl fun w51 hS => ?_; dsimp only [List.set] at hS
    refine wl_nil ⟨rfl, ?_⟩
    refine xt ?_
    refine hK3 _ _ ?_
    refine ws fun K20 hK20 => ?_
    refine gb 1 4 hF hS rfl rfl rfl fun a hF => ?_
    refine ww 5 hF hS rfl rfl rfl rfl rfl rfl fun w52 hS => ?_
    refine wl_nil (hK20 _ _ ?_)
    refine wp_ret ?_
    refine xt ?_
    exact ret1c rfl ag29 hF hS (i := 5) rfl sz29 rfl ⟨({ x with threads := x.threads.set 0 t35 }, [z0, z1, z2]), ⟨rfl, new_threadX hx_ h5 hw35 hz35 hs35⟩, Sep.part_mk (ek := stateEK) (x := { x with threads := x.threads.set 0 t35 }) (vs := [z0, z1, z2]) (Sep.headp (A := [_, _, _, _, _, _]) (B := [_, _, _, _]) hS [1, 2, 3, 0] (by decide) rfl rfl) rfl⟩
 refine rg hF rfl fun a hF => ?_
 refine cx 37 hF rfl (fun c37 hF => ?_) fun c37 hF => ?_
 ·
  refine wp_region_lit ?_
  refine gb 2 3 hF hS rfl rfl rfl fun a hF => ?_
  refine wl hF rfl rfl rfl (r_cutlo (i := 1) sl26 (hF.ev rfl) (ec.trans (by first | rfl | (congr 1; omega))) (by omega) (by omega)) fun a hF => ?_
  replace hS := hS.own_cut (q := 0) (i := 1) (j := x.cells.length) rfl (by omega) (by omega); dsimp only [List.set] at hS; try rw [List.take_length] at hS; try rw [List.drop_zero] at hS
  refine ga 1 hF rfl fun a hF => ?_
  refine wv 3 hF hS rfl rfl rfl rfl rfl rfl fun w53 hS => ?_
  refine wl_nil ?_
  refine xt ?_
  refine hK3 _ _ ?_
  refine ws fun K22 hK22 => ?_
  refine gb 1 3 hF hS rfl rfl rfl fun a hF => ?_
  refine ww 4 hF hS rfl rfl rfl rfl rfl rfl fun w54 hS => ?_
  refine wl_nil (hK22 _ _ ?_)
  refine wp_ret ?_
  refine xt ?_
  rw [← hl0_] at hS
  exact ret1c rfl ag29 hF hS (i := 4) rfl sz29 rfl ⟨({ x with cells := x.cells.drop 1 }, [(cutA z0.1 intEK.sz z0.2.2 1, z0.2.1 - 1, z0.2.2 - 1), z1, z2]), ⟨rfl, hgx.fewer⟩, Sep.part_mk (ek := stateEK) (x := { x with cells := x.cells.drop 1 }) (vs := [(cutA z0.1 intEK.sz z0.2.2 1, z0.2.1 - 1, z0.2.2 - 1), z1, z2]) (Sep.headp (A := [_, _, _, _, _, _]) (B := [_, _, _, _]) hS [0, 1, 2, 5] (by decide) rfl rfl) rfl⟩
 refine rg hF rfl fun a hF => ?_
 refine cx 43 hF rfl (fun c43 hF => ?_) fun c43 hF => ?_
 ·
  refine wp_region_lit ?_
  refine ga 1 hF rfl fun a hF => ?_
  refine wl_bslice intEK [vi (-1), vi 3, vi 1000001] [-1, 3, 1000001] rfl hF hS rfl mk26 rfl ⟨rfl, ec, rfl, ec, rfl, ec, trivial⟩ rfl rfl rfl rfl fun gl_46 w55 a hS hF => ?_
  refine ck hF rfl (l1PickInt_c hbs (q := 6) (fun w_ hS => (hS.own_rd (i := 0) rfl)) (by decide) hS rfl) ?_; rintro v w56 a ⟨⟨x47, rfl, h47⟩, hS⟩ hF
  refine ga 1 hF rfl fun a hF => ?_
  refine wv 4 hF hS rfl rfl rfl rfl rfl rfl fun w57 hS => ?_
  refine wl_nil ?_
  refine xt ?_
  refine hK3 _ _ ?_
  refine ws fun K24 hK24 => ?_
  refine gb 1 4 hF hS rfl rfl rfl fun a hF => ?_
  refine ww 5 hF hS rfl rfl rfl rfl rfl rfl fun w58 hS => ?_
  refine wl_nil (hK24 _ _ ?_)
  refine wp_ret ?_
  refine xt ?_
  simp only [List.mem_cons, List.not_mem_nil, or_false] at h47
  exact ret1c rfl ag29 hF hS (i := 5) rfl sz29 rfl ⟨({ x with faults := x47 }, [z0, z1, z2]), ⟨rfl, hgx.faults (by unfold int64; omega)⟩, Sep.part_mk (ek := stateEK) (x := { x with faults := x47 }) (vs := [z0, z1, z2]) (Sep.headp (A := [_, _, _, _, _, _, _]) (B := [_, _, _, _]) hS [1, 2, 3, 6] (by decide) rfl rfl) rfl⟩
 refine wp_skip ?_
 refine xt ?_
 refine hK3 _ _ ?_
 refine ws fun K25 hK25 => ?_
 refine gb 1 3 hF hS rfl rfl rfl fun a hF => ?_
 refine ww 4 hF hS rfl rfl rfl rfl rfl rfl fun w59 hS => ?_
 refine wl_nil (hK25 _ _ ?_)
 refine wp_ret ?_
 refine xt ?_
 exact ret1c rfl ag29 hF hS (i := 4) rfl sz29 rfl ⟨(x, [z0, z1, z2]), ⟨rfl, hgx.drawn⟩, Sep.part_mk (ek := stateEK) (x := x) (vs := [z0, z1, z2]) (Sep.headp (A := [_, _, _, _, _, _]) (B := [_, _, _, _]) hS [0, 1, 2, 5] (by decide) rfl rfl) rfl⟩
theorem l18Any_h {W : World} {g : Nat} {vb : Value} {bs : List Int} (hbs : byteEK.Rd W vb bs) {l : List Res} {w : World} (hS : Sep W (Cur g vb bs.length :: l) w) : Calls Tryz.prog 82 #[.pointer (some ⟨g, 0, none⟩)] w (Ret fun v w' => ∃ z : Sl.State × List Slv, (v = .agg (stateEK.cells z.1 z.2).toArray ∧ Drawn z.1) ∧ Sep W (Part stateEK z.1 z.2 :: Cur g vb bs.length :: l) w') := by
 refine calls_fr Tryz.func82 rfl Tryz.ntmps82 rfl ?_
 intro a hF
 refine ws fun K1 hK1 => ?_
 refine wl_alloc hF hS rfl zr29 fun g1 w1 a hS _ hF => ?_
 refine wl_nil (hK1 _ _ ?_)
 refine wp_seq_k fun K2 hK2 => ?_
 refine ws fun K3 hK3 => ?_
 refine ga 1 hF rfl fun a hF => ?_
 refine ck hF rfl (l1Once_c hbs (q := 1) _ hS rfl) ?_; rintro v w2 a ⟨⟨b5, rfl⟩, hS⟩ hF
 refine wl_nil (hK3 _ _ ?_)
 refine cx 5 hF rfl (fun c5 hF => ?_) fun c5 hF => ?_
 ·
  refine ws fun K4 hK4 => ?_
  refine ga 1 hF rfl fun a hF => ?_
  replace hS := hS.pull (p := 1) rfl; dsimp only [List.eraseIdx] at hS
  refine ck hF rfl (l9State_h hbs hS) ?_; rintro v w3 a ⟨⟨x7, vs7⟩, ⟨rfl, hg7⟩, hS⟩ hF
  try dsimp only at hz7
  refine ww 2 hF hS rfl rfl rfl rfl rfl rfl fun w4 hS => ?_
  refine wl_nil (hK4 _ _ ?_)
  refine wp_ret ?_
  refine xt ?_
  exact ret1c rfl ag29 hF hS (i := 2) rfl sz29 rfl ⟨(x7, vs7), ⟨rfl, hg7⟩, (Sep.headp (A := [_, _, _]) (B := [_, _]) hS [0, 1] (by decide) rfl rfl)⟩
 refine wp_skip ?_
 refine hK2 _ _ ?_
 refine ws fun K5 hK5 => ?_
 refine ga 1 hF rfl fun a hF => ?_
 replace hS := hS.pull (p := 1) rfl; dsimp only [List.eraseIdx] at hS
 refine ck hF rfl (l18Run_h hbs (by omega) hS) ?_; rintro v w5 a ⟨⟨x9, vs9⟩, ⟨rfl, hg9⟩, hS⟩ hF
 try dsimp only at hz9
 refine wl_alloc hF hS rfl zr29 fun g2 w6 a hS _ hF => ?_
 refine ww 0 hF hS rfl rfl rfl rfl rfl rfl fun w7 hS => ?_
 refine wl_nil (hK5 _ _ ?_)
 refine wp_seq_k fun K6 hK6 => ?_
 refine ws fun K7 hK7 => ?_
 refine ga 1 hF rfl fun a hF => ?_
 refine ck hF rfl (l1Below_c hbs (q := 2) _ hS rfl) ?_; rintro v w8 a ⟨⟨x11, rfl, h11⟩, hS⟩ hF
 refine wl_nil (hK7 _ _ ?_)
 refine wp_block ?_
 refine rg hF rfl fun a hF => ?_
 refine cx 12 hF rfl (fun c12 hF => ?_) fun c12 hF => ?_
 ·
  try dsimp only at hg9
  obtain ⟨ho_, hc_, hgl_, ht_⟩ := hg9.sh
  have hb_ := ho_; unfold Config.ok at hb_
  have hz_ := hg9.sz
  have hcc_ := cellCount_eq ho_
  replace hS := hS.pull (p := 1) rfl; dsimp only [List.eraseIdx] at hS
  replace hS : Sep W (Own intEK (sv (vs9.getD 0 (none, 0, 0))) (x9).cells :: Own intEK (sv (vs9.getD 1 (none, 0, 0))) (x9).generations :: Own threadEK (sv (vs9.getD 2 (none, 0, 0))) (x9).threads :: _) _ := hS.part_open
  dsimp only [stateEK] at hS
  generalize vs9.getD 0 (none, 0, 0) = z0 at hS
  generalize vs9.getD 1 (none, 0, 0) = z1 at hS
  generalize vs9.getD 2 (none, 0, 0) = z2 at hS
  have hcap_ : (x9).cells.length ≤ z0.2.2 := by
    obtain ⟨A_, c_, e_, h1_, _⟩ := (hS.own_rd (i := 0) rfl).sl
    have e2_ : z0.2.2 = c_ := by injection e_
    rw [e2_]; exact h1_
  have hl0_ := hS.own_len (q := 0) rfl
  have hl1_ := hS.own_len (q := 1) rfl
  have hl2_ := hS.own_len (q := 2) rfl
  refine wp_region_todo (is := [0, 2, 3, 4, 5, 7, 6, 8, 9, 1, 10, 11]) [] [6, 9, 11] (by kernel_rfl) hF hS ⟨trivial, by decide, by decide, by decide⟩ (by kernel_rfl) ?_; intro hl_ wd hSd
  refine todo_pure hl_ (by kernel_rfl) rfl (gw0 rfl) rfl rfl rfl (fun a w_ hF => r_field fo29_1 (hF.ev rfl)) ?_
  refine todo_pure hl_ (by kernel_rfl) rfl (gw0 rfl) rfl rfl rfl (fun a w_ hF => r_move (hF.ev rfl)) ?_
  refine todo_pure hl_ (by kernel_rfl) rfl (gw0 rfl) rfl rfl rfl (fun a w_ hF => r_field fo29_1 (hF.ev rfl)) ?_
  refine todo_load [5, 6, 9, 10, 11] hl_ (by kernel_rfl) rfl (gw0 rfl) rfl rfl rfl (fun a w_ hF hB_ => r_load1 sc26 (hF.ev rfl) ((hSd.ext hB_).box (i := 3) rfl rfl)) ?_
  refine todo_pure hl_ (by kernel_rfl) rfl (gw0 rfl) rfl rfl rfl (fun a w_ hF => r_len ul26 (hF.ev rfl)) ?_
  refine todo_pure hl_ (by kernel_rfl) rfl (gw0 rfl) rfl rfl rfl (fun a w_ hF => r_move (hF.ev rfl)) ?_
  refine todo_fork [(6, [8, 9, 1, 10, 11]), (8, [6, 9, 1, 10, 11]), (1, [6, 8, 9, 10, 11])] hl_ rfl (by kernel_rfl) (List.forall_mem_cons.2 ⟨?_, List.forall_mem_cons.2 ⟨?_, List.forall_mem_cons.2 ⟨?_, fun _ h_ => nomatch h_⟩⟩⟩)
  ·
   refine op_dw (m' := [9, 11]) (val := fun x : Int => vi x) (R := fun x => 0 ≤ x ∧ (x < (z0.2.1 : Int) ∨ ((z0.2.1 : Int) ≤ 0 ∧ x = 0))) rfl rfl (gw0 rfl) rfl rfl rfl rfl (fun a w_ hF => r_call2 en83 (hF.ev rfl) (hF.ev rfl)) (fun M_ w_ hS => l1Below_c hbs (q := 5) _ hS rfl) ?_; intro x20 h20; try clear hSd; try clear wd; intro wd hSd
   refine todo_fork [(8, [9, 1, 10, 11]), (1, [8, 9, 10, 11])] hl_ rfl (by kernel_rfl) (List.forall_mem_cons.2 ⟨?_, List.forall_mem_cons.2 ⟨?_, fun _ h_ => nomatch h_⟩⟩)
   ·
    refine op_op rfl rfl (gw0 rfl) rfl rfl rfl (fun a w_ hF hS => r_bslice intEK [vi (-1), vi 0, vi 1, vi 2, vi 3, vi 130, vi 131] [-1, 0, 1, 2, 3, 130, 131] rfl mk26 rfl ⟨rfl, ec, rfl, ec, rfl, ec, rfl, ec, rfl, ec, rfl, ec, rfl, ec, trivial⟩ rfl rfl rfl rfl) ?_; intro gl_22
    refine todo_fork [(9, [1, 10, 11]), (1, [9, 10, 11])] hl_ rfl (by kernel_rfl) (List.forall_mem_cons.2 ⟨?_, List.forall_mem_cons.2 ⟨?_, fun _ h_ => nomatch h_⟩⟩)
    ·
     refine op_dw (m' := [11]) (val := fun x : Int => vi x) (R := fun x => x ∈ ([-1, 0, 1, 2, 3, 130, 131] : List Int)) rfl rfl (gw0 rfl) rfl rfl rfl rfl (fun a w_ hF => r_call2 en85 (hF.ev rfl) (hF.ev rfl)) (fun M_ w_ hS => l1PickInt_c hbs (q := 6) (fun w_ hS => (hS.own_rd (i := 1) rfl)) (by decide) hS rfl) ?_; intro x23 h23; try clear hSd; try clear wd; intro wd hSd
     refine todo_load [10, 11] hl_ (by kernel_rfl) rfl (gw0 rfl) rfl rfl rfl (fun a w_ hF hB_ => r_load1 sc26 (hF.ev rfl) ((hSd.ext hB_).box (i := 4) rfl rfl)) ?_
     obtain ⟨g24, o24, m24, q24, hv24, hm24, hl24, hc24⟩ := Rd.idxF ((hSd.own_rd (i := 1) rfl)) (at0_get (i := x20) (by omega) (by omega))
     refine todo_pure hl_ (by kernel_rfl) rfl (gw0 rfl) rfl rfl rfl (fun a w_ hF => r_index sl26 ((hF.ev rfl).trans hv24) (hF.ev rfl) (by omega) (by first | omega | (simp at hm24; omega))) ?_
     refine todo_fin hl_ rfl (by kernel_rfl) (tl := [_]) rfl ?_; intro a w10 hF hA_
     have hS := hA_.sep; clear hA_
     clear hl_; try clear hSd
     try dsimp only [List.cons_append, List.nil_append, List.set] at hS
     try clear wd
     refine wl_istore (q := 1) hF hS rfl hv24 (by omega) (by omega) sz3 (hF.ev rfl) rfl (hF.ev rfl) fun w11 hS => ?_; dsimp only [List.set] at hS
     refine wl_nil ⟨rfl, ?_⟩
     refine xt ?_
     refine hK6 _ _ ?_
     refine ws fun K9 hK9 => ?_
     refine gb 1 4 hF hS rfl rfl rfl fun a hF => ?_
     refine ww 6 hF hS rfl rfl rfl rfl rfl rfl fun w12 hS => ?_
     refine wl_nil (hK9 _ _ ?_)
     refine wp_ret ?_
     refine xt ?_
     simp only [List.mem_cons, List.not_mem_nil, or_false] at h23
     exact ret1c rfl ag29 hF hS (i := 6) rfl sz29 rfl ⟨({ x9 with cells := x9.cells.set x20.toNat x23 }, [z0, z1, z2]), ⟨rfl, Good.cells hg9 (by unfold int64; omega)⟩, Sep.part_mk (ek := stateEK) (x := { x9 with cells := x9.cells.set x20.toNat x23 }) (vs := [z0, z1, z2]) (Sep.headp (A := [_, _, _, _, _, _, _]) (B := [_, _, _, _]) hS [1, 2, 3, 5] (by decide) rfl rfl) rfl⟩
    ·
     refine op_ld rfl rfl (gw0 rfl) rfl rfl rfl (fun a w_ hF hS => r_load1 sc26 (hF.ev rfl) (hS.box (i := 4) rfl rfl)) ?_
     refine todo_fork [(9, [10, 11])] hl_ rfl (by kernel_rfl) (List.forall_mem_cons.2 ⟨?_, fun _ h_ => nomatch h_⟩)
     ·
      refine op_dw (m' := [11]) (val := fun x : Int => vi x) (R := fun x => x ∈ ([-1, 0, 1, 2, 3, 130, 131] : List Int)) rfl rfl (gw0 rfl) rfl rfl rfl rfl (fun a w_ hF => r_call2 en85 (hF.ev rfl) (hF.ev rfl)) (fun M_ w_ hS => l1PickInt_c hbs (q := 6) (fun w_ hS => (hS.own_rd (i := 1) rfl)) (by decide) hS rfl) ?_; intro x23 h23; try clear hSd; try clear wd; intro wd hSd
      obtain ⟨g24, o24, m24, q24, hv24, hm24, hl24, hc24⟩ := Rd.idxF ((hSd.own_rd (i := 1) rfl)) (at0_get (i := x20) (by omega) (by omega))
      refine todo_pure hl_ (by kernel_rfl) rfl (gw0 rfl) rfl rfl rfl (fun a w_ hF => r_index sl26 ((hF.ev rfl).trans hv24) (hF.ev rfl) (by omega) (by first | omega | (simp at hm24; omega))) ?_
      refine todo_fin hl_ rfl (by kernel_rfl) (tl := [_]) rfl ?_; intro a w13 hF hA_
      have hS := hA_.sep; clear hA_
      clear hl_; try clear hSd
      try dsimp only [List.cons_append, List.nil_append, List.set] at hS
      try clear wd
      refine wl_istore (q := 1) hF hS rfl hv24 (by omega) (by omega) sz3 (hF.ev rfl) rfl (hF.ev rfl) fun w14 hS => ?_; dsimp only [List.set] at hS
      refine wl_nil ⟨rfl, ?_⟩
      refine xt ?_
      refine hK6 _ _ ?_
      refine ws fun K10 hK10 => ?_
      refine gb 1 4 hF hS rfl rfl rfl fun a hF => ?_
      refine ww 6 hF hS rfl rfl rfl rfl rfl rfl fun w15 hS => ?_
      refine wl_nil (hK10 _ _ ?_)
      refine wp_ret ?_
      refine xt ?_
      simp only [List.mem_cons, List.not_mem_nil, or_false] at h23
      exact ret1c rfl ag29 hF hS (i := 6) rfl sz29 rfl ⟨({ x9 with cells := x9.cells.set x20.toNat x23 }, [z0, z1, z2]), ⟨rfl, Good.cells hg9 (by unfold int64; omega)⟩, Sep.part_mk (ek := stateEK) (x := { x9 with cells := x9.cells.set x20.toNat x23 }) (vs := [z0, z1, z2]) (Sep.headp (A := [_, _, _, _, _, _, _]) (B := [_, _, _, _]) hS [1, 2, 3, 5] (by decide) rfl rfl) rfl⟩
   ·
    refine op_ld rfl rfl (gw0 rfl) rfl rfl rfl (fun a w_ hF hS => r_load1 sc26 (hF.ev rfl) (hS.box (i := 3) rfl rfl)) ?_
    refine todo_op hl_ rfl (by kernel_rfl) rfl rfl rfl rfl rfl (fun a w_ hF hS => r_bslice intEK [vi (-1), vi 0, vi 1, vi 2, vi 3, vi 130, vi 131] [-1, 0, 1, 2, 3, 130, 131] rfl mk26 rfl ⟨rfl, ec, rfl, ec, rfl, ec, rfl, ec, rfl, ec, rfl, ec, rfl, ec, trivial⟩ rfl rfl rfl rfl) ?_; intro gl_22
    refine todo_fork [(9, [10, 11])] hl_ rfl (by kernel_rfl) (List.forall_mem_cons.2 ⟨?_, fun _ h_ => nomatch h_⟩)
    ·
     refine op_dw (m' := [11]) (val := fun x : Int => vi x) (R := fun x => x ∈ ([-1, 0, 1, 2, 3, 130, 131] : List Int)) rfl rfl (gw0 rfl) rfl rfl rfl rfl (fun a w_ hF => r_call2 en85 (hF.ev rfl) (hF.ev rfl)) (fun M_ w_ hS => l1PickInt_c hbs (q := 6) (fun w_ hS => (hS.own_rd (i := 1) rfl)) (by decide) hS rfl) ?_; intro x23 h23; try clear hSd; try clear wd; intro wd hSd
     obtain ⟨g24, o24, m24, q24, hv24, hm24, hl24, hc24⟩ := Rd.idxF ((hSd.own_rd (i := 1) rfl)) (at0_get (i := x20) (by omega) (by omega))
     refine todo_pure hl_ (by kernel_rfl) rfl (gw0 rfl) rfl rfl rfl (fun a w_ hF => r_index sl26 ((hF.ev rfl).trans hv24) (hF.ev rfl) (by omega) (by first | omega | (simp at hm24; omega))) ?_
     refine todo_fin hl_ rfl (by kernel_rfl) (tl := [_]) rfl ?_; intro a w17 hF hA_
     have hS := hA_.sep; clear hA_
     clear hl_; try clear hSd
     try dsimp only [List.cons_append, List.nil_append, List.set] at hS
     try clear wd
     refine wl_istore (q := 1) hF hS rfl hv24 (by omega) (by omega) sz3 (hF.ev rfl) rfl (hF.ev rfl) fun w18 hS => ?_; dsimp only [List.set] at hS
     refine wl_nil ⟨rfl, ?_⟩
     refine xt ?_
     refine hK6 _ _ ?_
     refine ws fun K11 hK11 => ?_
     refine gb 1 4 hF hS rfl rfl rfl fun a hF => ?_
     refine ww 6 hF hS rfl rfl rfl rfl rfl rfl fun w19 hS => ?_
     refine wl_nil (hK11 _ _ ?_)
     refine wp_ret ?_
     refine xt ?_
     simp only [List.mem_cons, List.not_mem_nil, or_false] at h23
     exact ret1c rfl ag29 hF hS (i := 6) rfl sz29 rfl ⟨({ x9 with cells := x9.cells.set x20.toNat x23 }, [z0, z1, z2]), ⟨rfl, Good.cells hg9 (by unfold int64; omega)⟩, Sep.part_mk (ek := stateEK) (x := { x9 with cells := x9.cells.set x20.toNat x23 }) (vs := [z0, z1, z2]) (Sep.headp (A := [_, _, _, _, _, _, _]) (B := [_, _, _, _]) hS [1, 2, 3, 5] (by decide) rfl rfl) rfl⟩
  ·
   refine op_op rfl rfl (gw0 rfl) rfl rfl rfl (fun a w_ hF hS => r_bslice intEK [vi (-1), vi 0, vi 1, vi 2, vi 3, vi 130, vi 131] [-1, 0, 1, 2, 3, 130, 131] rfl mk26 rfl ⟨rfl, ec, rfl, ec, rfl, ec, rfl, ec, rfl, ec, rfl, ec, rfl, ec, trivial⟩ rfl rfl rfl rfl) ?_; intro gl_22
   refine todo_fork [(6, [9, 1, 10, 11]), (1, [6, 9, 10, 11])] hl_ rfl (by kernel_rfl) (List.forall_mem_cons.2 ⟨?_, List.forall_mem_cons.2 ⟨?_, fun _ h_ => nomatch h_⟩⟩)
   ·
    refine op_dw (m' := [9, 11]) (val := fun x : Int => vi x) (R := fun x => 0 ≤ x ∧ (x < (z0.2.1 : Int) ∨ ((z0.2.1 : Int) ≤ 0 ∧ x = 0))) rfl rfl (gw0 rfl) rfl rfl rfl rfl (fun a w_ hF => r_call2 en83 (hF.ev rfl) (hF.ev rfl)) (fun M_ w_ hS => l1Below_c hbs (q := 6) _ hS rfl) ?_; intro x20 h20; try clear hSd; try clear wd; intro wd hSd
    refine todo_fork [(9, [1, 10, 11]), (1, [9, 10, 11])] hl_ rfl (by kernel_rfl) (List.forall_mem_cons.2 ⟨?_, List.forall_mem_cons.2 ⟨?_, fun _ h_ => nomatch h_⟩⟩)
    ·
     refine op_dw (m' := [11]) (val := fun x : Int => vi x) (R := fun x => x ∈ ([-1, 0, 1, 2, 3, 130, 131] : List Int)) rfl rfl (gw0 rfl) rfl rfl rfl rfl (fun a w_ hF => r_call2 en85 (hF.ev rfl) (hF.ev rfl)) (fun M_ w_ hS => l1PickInt_c hbs (q := 6) (fun w_ hS => (hS.own_rd (i := 1) rfl)) (by decide) hS rfl) ?_; intro x23 h23; try clear hSd; try clear wd; intro wd hSd
     refine todo_load [10, 11] hl_ (by kernel_rfl) rfl (gw0 rfl) rfl rfl rfl (fun a w_ hF hB_ => r_load1 sc26 (hF.ev rfl) ((hSd.ext hB_).box (i := 4) rfl rfl)) ?_
     obtain ⟨g24, o24, m24, q24, hv24, hm24, hl24, hc24⟩ := Rd.idxF ((hSd.own_rd (i := 1) rfl)) (at0_get (i := x20) (by omega) (by omega))
     refine todo_pure hl_ (by kernel_rfl) rfl (gw0 rfl) rfl rfl rfl (fun a w_ hF => r_index sl26 ((hF.ev rfl).trans hv24) (hF.ev rfl) (by omega) (by first | omega | (simp at hm24; omega))) ?_
     refine todo_fin hl_ rfl (by kernel_rfl) (tl := [_]) rfl ?_; intro a w21 hF hA_
     have hS := hA_.sep; clear hA_
     clear hl_; try clear hSd
     try dsimp only [List.cons_append, List.nil_append, List.set] at hS
     try clear wd
     refine wl_istore (q := 1) hF hS rfl hv24 (by omega) (by omega) sz3 (hF.ev rfl) rfl (hF.ev rfl) fun w22 hS => ?_; dsimp only [List.set] at hS
     refine wl_nil ⟨rfl, ?_⟩
     refine xt ?_
     refine hK6 _ _ ?_
     refine ws fun K12 hK12 => ?_
     refine gb 1 4 hF hS rfl rfl rfl fun a hF => ?_
     refine ww 6 hF hS rfl rfl rfl rfl rfl rfl fun w23 hS => ?_
     refine wl_nil (hK12 _ _ ?_)
     refine wp_ret ?_
     refine xt ?_
     simp only [List.mem_cons, List.not_mem_nil, or_false] at h23
     exact ret1c rfl ag29 hF hS (i := 6) rfl sz29 rfl ⟨({ x9 with cells := x9.cells.set x20.toNat x23 }, [z0, z1, z2]), ⟨rfl, Good.cells hg9 (by unfold int64; omega)⟩, Sep.part_mk (ek := stateEK) (x := { x9 with cells := x9.cells.set x20.toNat x23 }) (vs := [z0, z1, z2]) (Sep.headp (A := [_, _, _, _, _, _, _]) (B := [_, _, _, _]) hS [1, 2, 3, 5] (by decide) rfl rfl) rfl⟩
    ·
     refine op_ld rfl rfl (gw0 rfl) rfl rfl rfl (fun a w_ hF hS => r_load1 sc26 (hF.ev rfl) (hS.box (i := 4) rfl rfl)) ?_
     refine todo_fork [(9, [10, 11])] hl_ rfl (by kernel_rfl) (List.forall_mem_cons.2 ⟨?_, fun _ h_ => nomatch h_⟩)
     ·
      refine op_dw (m' := [11]) (val := fun x : Int => vi x) (R := fun x => x ∈ ([-1, 0, 1, 2, 3, 130, 131] : List Int)) rfl rfl (gw0 rfl) rfl rfl rfl rfl (fun a w_ hF => r_call2 en85 (hF.ev rfl) (hF.ev rfl)) (fun M_ w_ hS => l1PickInt_c hbs (q := 6) (fun w_ hS => (hS.own_rd (i := 1) rfl)) (by decide) hS rfl) ?_; intro x23 h23; try clear hSd; try clear wd; intro wd hSd
      obtain ⟨g24, o24, m24, q24, hv24, hm24, hl24, hc24⟩ := Rd.idxF ((hSd.own_rd (i := 1) rfl)) (at0_get (i := x20) (by omega) (by omega))
      refine todo_pure hl_ (by kernel_rfl) rfl (gw0 rfl) rfl rfl rfl (fun a w_ hF => r_index sl26 ((hF.ev rfl).trans hv24) (hF.ev rfl) (by omega) (by first | omega | (simp at hm24; omega))) ?_
      refine todo_fin hl_ rfl (by kernel_rfl) (tl := [_]) rfl ?_; intro a w24 hF hA_
      have hS := hA_.sep; clear hA_
      clear hl_; try clear hSd
      try dsimp only [List.cons_append, List.nil_append, List.set] at hS
      try clear wd
      refine wl_istore (q := 1) hF hS rfl hv24 (by omega) (by omega) sz3 (hF.ev rfl) rfl (hF.ev rfl) fun w25 hS => ?_; dsimp only [List.set] at hS
      refine wl_nil ⟨rfl, ?_⟩
      refine xt ?_
      refine hK6 _ _ ?_
      refine ws fun K13 hK13 => ?_
      refine gb 1 4 hF hS rfl rfl rfl fun a hF => ?_
      refine ww 6 hF hS rfl rfl rfl rfl rfl rfl fun w26 hS => ?_
      refine wl_nil (hK13 _ _ ?_)
      refine wp_ret ?_
      refine xt ?_
      simp only [List.mem_cons, List.not_mem_nil, or_false] at h23
      exact ret1c rfl ag29 hF hS (i := 6) rfl sz29 rfl ⟨({ x9 with cells := x9.cells.set x20.toNat x23 }, [z0, z1, z2]), ⟨rfl, Good.cells hg9 (by unfold int64; omega)⟩, Sep.part_mk (ek := stateEK) (x := { x9 with cells := x9.cells.set x20.toNat x23 }) (vs := [z0, z1, z2]) (Sep.headp (A := [_, _, _, _, _, _, _]) (B := [_, _, _, _]) hS [1, 2, 3, 5] (by decide) rfl rfl) rfl⟩
   ·
    refine op_ld rfl rfl (gw0 rfl) rfl rfl rfl (fun a w_ hF hS => r_load1 sc26 (hF.ev rfl) (hS.box (i := 4) rfl rfl)) ?_
    refine todo_fork [(6, [9, 10, 11])] hl_ rfl (by kernel_rfl) (List.forall_mem_cons.2 ⟨?_, fun _ h_ => nomatch h_⟩)
    ·
     refine op_dw (m' := [9, 11]) (val := fun x : Int => vi x) (R := fun x => 0 ≤ x ∧ (x < (z0.2.1 : Int) ∨ ((z0.2.1 : Int) ≤ 0 ∧ x = 0))) rfl rfl (gw0 rfl) rfl rfl rfl rfl (fun a w_ hF => r_call2 en83 (hF.ev rfl) (hF.ev rfl)) (fun M_ w_ hS => l1Below_c hbs (q := 6) _ hS rfl) ?_; intro x20 h20; try clear hSd; try clear wd; intro wd hSd
     refine todo_fork [(9, [10, 11])] hl_ rfl (by kernel_rfl) (List.forall_mem_cons.2 ⟨?_, fun _ h_ => nomatch h_⟩)
     ·
      refine op_dw (m' := [11]) (val := fun x : Int => vi x) (R := fun x => x ∈ ([-1, 0, 1, 2, 3, 130, 131] : List Int)) rfl rfl (gw0 rfl) rfl rfl rfl rfl (fun a w_ hF => r_call2 en85 (hF.ev rfl) (hF.ev rfl)) (fun M_ w_ hS => l1PickInt_c hbs (q := 6) (fun w_ hS => (hS.own_rd (i := 1) rfl)) (by decide) hS rfl) ?_; intro x23 h23; try clear hSd; try clear wd; intro wd hSd
      obtain ⟨g24, o24, m24, q24, hv24, hm24, hl24, hc24⟩ := Rd.idxF ((hSd.own_rd (i := 1) rfl)) (at0_get (i := x20) (by omega) (by omega))
      refine todo_pure hl_ (by kernel_rfl) rfl (gw0 rfl) rfl rfl rfl (fun a w_ hF => r_index sl26 ((hF.ev rfl).trans hv24) (hF.ev rfl) (by omega) (by first | omega | (simp at hm24; omega))) ?_
      refine todo_fin hl_ rfl (by kernel_rfl) (tl := [_]) rfl ?_; intro a w27 hF hA_
      have hS := hA_.sep; clear hA_
      clear hl_; try clear hSd
      try dsimp only [List.cons_append, List.nil_append, List.set] at hS
      try clear wd
      refine wl_istore (q := 1) hF hS rfl hv24 (by omega) (by omega) sz3 (hF.ev rfl) rfl (hF.ev rfl) fun w28 hS => ?_; dsimp only [List.set] at hS
      refine wl_nil ⟨rfl, ?_⟩
      refine xt ?_
      refine hK6 _ _ ?_
      refine ws fun K14 hK14 => ?_
      refine gb 1 4 hF hS rfl rfl rfl fun a hF => ?_
      refine ww 6 hF hS rfl rfl rfl rfl rfl rfl fun w29 hS => ?_
      refine wl_nil (hK14 _ _ ?_)
      refine wp_ret ?_
      refine xt ?_
      simp only [List.mem_cons, List.not_mem_nil, or_false] at h23
      exact ret1c rfl ag29 hF hS (i := 6) rfl sz29 rfl ⟨({ x9 with cells := x9.cells.set x20.toNat x23 }, [z0, z1, z2]), ⟨rfl, Good.cells hg9 (by unfold int64; omega)⟩, Sep.part_mk (ek := stateEK) (x := { x9 with cells := x9.cells.set x20.toNat x23 }) (vs := [z0, z1, z2]) (Sep.headp (A := [_, _, _, _, _, _, _]) (B := [_, _, _, _]) hS [1, 2, 3, 5] (by decide) rfl rfl) rfl⟩
  ·
   refine op_ld rfl rfl (gw0 rfl) rfl rfl rfl (fun a w_ hF hS => r_load1 sc26 (hF.ev rfl) (hS.box (i := 3) rfl rfl)) ?_
   refine todo_fork [(6, [8, 9, 10, 11]), (8, [6, 9, 10, 11])] hl_ rfl (by kernel_rfl) (List.forall_mem_cons.2 ⟨?_, List.forall_mem_cons.2 ⟨?_, fun _ h_ => nomatch h_⟩⟩)
   ·
    refine op_dw (m' := [9, 11]) (val := fun x : Int => vi x) (R := fun x => 0 ≤ x ∧ (x < (z0.2.1 : Int) ∨ ((z0.2.1 : Int) ≤ 0 ∧ x = 0))) rfl rfl (gw0 rfl) rfl rfl rfl rfl (fun a w_ hF => r_call2 en83 (hF.ev rfl) (hF.ev rfl)) (fun M_ w_ hS => l1Below_c hbs (q := 5) _ hS rfl) ?_; intro x20 h20; try clear hSd; try clear wd; intro wd hSd
    refine todo_op hl_ rfl (by kernel_rfl) rfl rfl rfl rfl rfl (fun a w_ hF hS => r_bslice intEK [vi (-1), vi 0, vi 1, vi 2, vi 3, vi 130, vi 131] [-1, 0, 1, 2, 3, 130, 131] rfl mk26 rfl ⟨rfl, ec, rfl, ec, rfl, ec, rfl, ec, rfl, ec, rfl, ec, rfl, ec, trivial⟩ rfl rfl rfl rfl) ?_; intro gl_22
    refine todo_fork [(9, [10, 11])] hl_ rfl (by kernel_rfl) (List.forall_mem_cons.2 ⟨?_, fun _ h_ => nomatch h_⟩)
    ·
     refine op_dw (m' := [11]) (val := fun x : Int => vi x) (R := fun x => x ∈ ([-1, 0, 1, 2, 3, 130, 131] : List Int)) rfl rfl (gw0 rfl) rfl rfl rfl rfl (fun a w_ hF => r_call2 en85 (hF.ev rfl) (hF.ev rfl)) (fun M_ w_ hS => l1PickInt_c hbs (q := 6) (fun w_ hS => (hS.own_rd (i := 1) rfl)) (by decide) hS rfl) ?_; intro x23 h23; try clear hSd; try clear wd; intro wd hSd
     obtain ⟨g24, o24, m24, q24, hv24, hm24, hl24, hc24⟩ := Rd.idxF ((hSd.own_rd (i := 1) rfl)) (at0_get (i := x20) (by omega) (by omega))
     refine todo_pure hl_ (by kernel_rfl) rfl (gw0 rfl) rfl rfl rfl (fun a w_ hF => r_index sl26 ((hF.ev rfl).trans hv24) (hF.ev rfl) (by omega) (by first | omega | (simp at hm24; omega))) ?_
     refine todo_fin hl_ rfl (by kernel_rfl) (tl := [_]) rfl ?_; intro a w31 hF hA_
     have hS := hA_.sep; clear hA_
     clear hl_; try clear hSd
     try dsimp only [List.cons_append, List.nil_append, List.set] at hS
     try clear wd
     refine wl_istore (q := 1) hF hS rfl hv24 (by omega) (by omega) sz3 (hF.ev rfl) rfl (hF.ev rfl) fun w32 hS => ?_; dsimp only [List.set] at hS
     refine wl_nil ⟨rfl, ?_⟩
     refine xt ?_
     refine hK6 _ _ ?_
     refine ws fun K15 hK15 => ?_
     refine gb 1 4 hF hS rfl rfl rfl fun a hF => ?_
     refine ww 6 hF hS rfl rfl rfl rfl rfl rfl fun w33 hS => ?_
     refine wl_nil (hK15 _ _ ?_)
     refine wp_ret ?_
     refine xt ?_
     simp only [List.mem_cons, List.not_mem_nil, or_false] at h23
     exact ret1c rfl ag29 hF hS (i := 6) rfl sz29 rfl ⟨({ x9 with cells := x9.cells.set x20.toNat x23 }, [z0, z1, z2]), ⟨rfl, Good.cells hg9 (by unfold int64; omega)⟩, Sep.part_mk (ek := stateEK) (x := { x9 with cells := x9.cells.set x20.toNat x23 }) (vs := [z0, z1, z2]) (Sep.headp (A := [_, _, _, _, _, _, _]) (B := [_, _, _, _]) hS [1, 2, 3, 5] (by decide) rfl rfl) rfl⟩
   ·
    refine op_op rfl rfl (gw0 rfl) rfl rfl rfl (fun a w_ hF hS => r_bslice intEK [vi (-1), vi 0, vi 1, vi 2, vi 3, vi 130, vi 131] [-1, 0, 1, 2, 3, 130, 131] rfl mk26 rfl ⟨rfl, ec, rfl, ec, rfl, ec, rfl, ec, rfl, ec, rfl, ec, rfl, ec, trivial⟩ rfl rfl rfl rfl) ?_; intro gl_22
    refine todo_fork [(6, [9, 10, 11])] hl_ rfl (by kernel_rfl) (List.forall_mem_cons.2 ⟨?_, fun _ h_ => nomatch h_⟩)
    ·
     refine op_dw (m' := [9, 11]) (val := fun x : Int => vi x) (R := fun x => 0 ≤ x ∧ (x < (z0.2.1 : Int) ∨ ((z0.2.1 : Int) ≤ 0 ∧ x = 0))) rfl rfl (gw0 rfl) rfl rfl rfl rfl (fun a w_ hF => r_call2 en83 (hF.ev rfl) (hF.ev rfl)) (fun M_ w_ hS => l1Below_c hbs (q := 6) _ hS rfl) ?_; intro x20 h20; try clear hSd; try clear wd; intro wd hSd
     refine todo_fork [(9, [10, 11])] hl_ rfl (by kernel_rfl) (List.forall_mem_cons.2 ⟨?_, fun _ h_ => nomatch h_⟩)
     ·
      refine op_dw (m' := [11]) (val := fun x : Int => vi x) (R := fun x => x ∈ ([-1, 0, 1, 2, 3, 130, 131] : List Int)) rfl rfl (gw0 rfl) rfl rfl rfl rfl (fun a w_ hF => r_call2 en85 (hF.ev rfl) (hF.ev rfl)) (fun M_ w_ hS => l1PickInt_c hbs (q := 6) (fun w_ hS => (hS.own_rd (i := 1) rfl)) (by decide) hS rfl) ?_; intro x23 h23; try clear hSd; try clear wd; intro wd hSd
      obtain ⟨g24, o24, m24, q24, hv24, hm24, hl24, hc24⟩ := Rd.idxF ((hSd.own_rd (i := 1) rfl)) (at0_get (i := x20) (by omega) (by omega))
      refine todo_pure hl_ (by kernel_rfl) rfl (gw0 rfl) rfl rfl rfl (fun a w_ hF => r_index sl26 ((hF.ev rfl).trans hv24) (hF.ev rfl) (by omega) (by first | omega | (simp at hm24; omega))) ?_
      refine todo_fin hl_ rfl (by kernel_rfl) (tl := [_]) rfl ?_; intro a w35 hF hA_
      have hS := hA_.sep; clear hA_
      clear hl_; try clear hSd
      try dsimp only [List.cons_append, List.nil_append, List.set] at hS
      try clear wd
      refine wl_istore (q := 1) hF hS rfl hv24 (by omega) (by omega) sz3 (hF.ev rfl) rfl (hF.ev rfl) fun w36 hS => ?_; dsimp only [List.set] at hS
      refine wl_nil ⟨rfl, ?_⟩
      refine xt ?_
      refine hK6 _ _ ?_
      refine ws fun K16 hK16 => ?_
      refine gb 1 4 hF hS rfl rfl rfl fun a hF => ?_
      refine ww 6 hF hS rfl rfl rfl rfl rfl rfl fun w37 hS => ?_
      refine wl_nil (hK16 _ _ ?_)
      refine wp_ret ?_
      refine xt ?_
      simp only [List.mem_cons, List.not_mem_nil, or_false] at h23
      exact ret1c rfl ag29 hF hS (i := 6) rfl sz29 rfl ⟨({ x9 with cells := x9.cells.set x20.toNat x23 }, [z0, z1, z2]), ⟨rfl, Good.cells hg9 (by unfold int64; omega)⟩, Sep.part_mk (ek := stateEK) (x := { x9 with cells := x9.cells.set x20.toNat x23 }) (vs := [z0, z1, z2]) (Sep.headp (A := [_, _, _, _, _, _, _]) (B := [_, _, _, _]) hS [1, 2, 3, 5] (by decide) rfl rfl) rfl⟩
 try dsimp only at hg9
 obtain ⟨ho_, hc_, hgl_, ht_⟩ := hg9.sh
 have hb_ := ho_; unfold Config.ok at hb_
 have hz_ := hg9.sz
 have hcc_ := cellCount_eq ho_
 replace hS := hS.pull (p := 1) rfl; dsimp only [List.eraseIdx] at hS
 replace hS : Sep W (Own intEK (sv (vs9.getD 0 (none, 0, 0))) (x9).cells :: Own intEK (sv (vs9.getD 1 (none, 0, 0))) (x9).generations :: Own threadEK (sv (vs9.getD 2 (none, 0, 0))) (x9).threads :: _) _ := hS.part_open
 dsimp only [stateEK] at hS
 generalize vs9.getD 0 (none, 0, 0) = z0 at hS
 generalize vs9.getD 1 (none, 0, 0) = z1 at hS
 generalize vs9.getD 2 (none, 0, 0) = z2 at hS
 have hcap_ : (x9).cells.length ≤ z0.2.2 := by
   obtain ⟨A_, c_, e_, h1_, _⟩ := (hS.own_rd (i := 0) rfl).sl
   have e2_ : z0.2.2 = c_ := by injection e_
   rw [e2_]; exact h1_
 have hl0_ := hS.own_len (q := 0) rfl
 have hl1_ := hS.own_len (q := 1) rfl
 have hl2_ := hS.own_len (q := 2) rfl
 refine rg hF rfl fun a hF => ?_
 refine cx 25 hF rfl (fun c25 hF => ?_) fun c25 hF => ?_
 ·
  refine wp_region_todo (is := [0, 2, 3, 4, 1, 5, 6]) [] [4, 6] (by kernel_rfl) hF hS ⟨trivial, by decide, by decide, by decide⟩ (by kernel_rfl) ?_; intro hl_ wd hSd
  refine todo_pure hl_ (by kernel_rfl) rfl (gw0 rfl) rfl rfl rfl (fun a w_ hF => r_field fo29_2 (hF.ev rfl)) ?_
  refine todo_pure hl_ (by kernel_rfl) rfl (gw0 rfl) rfl rfl rfl (fun a w_ hF => r_move (hF.ev rfl)) ?_
  refine todo_fork [(3, [4, 1, 5, 6]), (1, [3, 4, 5, 6])] hl_ rfl (by kernel_rfl) (List.forall_mem_cons.2 ⟨?_, List.forall_mem_cons.2 ⟨?_, fun _ h_ => nomatch h_⟩⟩)
  ·
   refine op_op rfl rfl (gw0 rfl) rfl rfl rfl (fun a w_ hF hS => r_bslice intEK [vi 1, vi 9998, vi 9999] [1, 9998, 9999] rfl mk26 rfl ⟨rfl, ec, rfl, ec, rfl, ec, trivial⟩ rfl rfl rfl rfl) ?_; intro gl_30
   refine todo_fork [(4, [1, 5, 6]), (1, [4, 5, 6])] hl_ rfl (by kernel_rfl) (List.forall_mem_cons.2 ⟨?_, List.forall_mem_cons.2 ⟨?_, fun _ h_ => nomatch h_⟩⟩)
   ·
    refine op_dw (m' := [6]) (val := fun x : Int => vi x) (R := fun x => x ∈ ([1, 9998, 9999] : List Int)) rfl rfl (gw0 rfl) rfl rfl rfl rfl (fun a w_ hF => r_call2 en85 (hF.ev rfl) (hF.ev rfl)) (fun M_ w_ hS => l1PickInt_c hbs (q := 6) (fun w_ hS => (hS.own_rd (i := 1) rfl)) (by decide) hS rfl) ?_; intro x31 h31; try clear hSd; try clear wd; intro wd hSd
    refine todo_load [5, 6] hl_ (by kernel_rfl) rfl (gw0 rfl) rfl rfl rfl (fun a w_ hF hB_ => r_load1 sc26 (hF.ev rfl) ((hSd.ext hB_).box (i := 4) rfl rfl)) ?_
    obtain ⟨g32, o32, m32, q32, hv32, hm32, hl32, hc32⟩ := Rd.idxF ((hSd.own_rd (i := 2) rfl)) (at0_get (i := (0 : Int)) (by omega) (by omega))
    refine todo_pure hl_ (by kernel_rfl) rfl (gw0 rfl) rfl rfl rfl (fun a w_ hF => r_index sl26 ((hF.ev rfl).trans hv32) ec (by omega) (by first | omega | (simp at hm32; omega))) ?_
    refine todo_fin hl_ rfl (by kernel_rfl) (tl := [_]) rfl ?_; intro a w39 hF hA_
    have hS := hA_.sep; clear hA_
    clear hl_; try clear hSd
    try dsimp only [List.cons_append, List.nil_append, List.set] at hS
    try clear wd
    refine wl_istore (q := 2) hF hS rfl hv32 (by omega) (by omega) sz3 (hF.ev rfl) rfl (hF.ev rfl) fun w40 hS => ?_; dsimp only [List.set] at hS
    refine wl_nil ⟨rfl, ?_⟩
    refine xt ?_
    refine hK6 _ _ ?_
    refine ws fun K18 hK18 => ?_
    refine gb 1 4 hF hS rfl rfl rfl fun a hF => ?_
    refine ww 6 hF hS rfl rfl rfl rfl rfl rfl fun w41 hS => ?_
    refine wl_nil (hK18 _ _ ?_)
    refine wp_ret ?_
    refine xt ?_
    simp only [List.mem_cons, List.not_mem_nil, or_false] at h31
    exact ret1c rfl ag29 hF hS (i := 6) rfl sz29 rfl ⟨({ x9 with generations := x9.generations.set 0 x31 }, [z0, z1, z2]), ⟨rfl, Good.gens hg9 (by unfold int64; omega)⟩, Sep.part_mk (ek := stateEK) (x := { x9 with generations := x9.generations.set 0 x31 }) (vs := [z0, z1, z2]) (Sep.headp (A := [_, _, _, _, _, _, _]) (B := [_, _, _, _]) hS [1, 2, 3, 5] (by decide) rfl rfl) rfl⟩
   ·
    refine op_ld rfl rfl (gw0 rfl) rfl rfl rfl (fun a w_ hF hS => r_load1 sc26 (hF.ev rfl) (hS.box (i := 4) rfl rfl)) ?_
    refine todo_fork [(4, [5, 6])] hl_ rfl (by kernel_rfl) (List.forall_mem_cons.2 ⟨?_, fun _ h_ => nomatch h_⟩)
    ·
     refine op_dw (m' := [6]) (val := fun x : Int => vi x) (R := fun x => x ∈ ([1, 9998, 9999] : List Int)) rfl rfl (gw0 rfl) rfl rfl rfl rfl (fun a w_ hF => r_call2 en85 (hF.ev rfl) (hF.ev rfl)) (fun M_ w_ hS => l1PickInt_c hbs (q := 6) (fun w_ hS => (hS.own_rd (i := 1) rfl)) (by decide) hS rfl) ?_; intro x31 h31; try clear hSd; try clear wd; intro wd hSd
     obtain ⟨g32, o32, m32, q32, hv32, hm32, hl32, hc32⟩ := Rd.idxF ((hSd.own_rd (i := 2) rfl)) (at0_get (i := (0 : Int)) (by omega) (by omega))
     refine todo_pure hl_ (by kernel_rfl) rfl (gw0 rfl) rfl rfl rfl (fun a w_ hF => r_index sl26 ((hF.ev rfl).trans hv32) ec (by omega) (by first | omega | (simp at hm32; omega))) ?_
     refine todo_fin hl_ rfl (by kernel_rfl) (tl := [_]) rfl ?_; intro a w42 hF hA_
     have hS := hA_.sep; clear hA_
     clear hl_; try clear hSd
     try dsimp only [List.cons_append, List.nil_append, List.set] at hS
     try clear wd
     refine wl_istore (q := 2) hF hS rfl hv32 (by omega) (by omega) sz3 (hF.ev rfl) rfl (hF.ev rfl) fun w43 hS => ?_; dsimp only [List.set] at hS
     refine wl_nil ⟨rfl, ?_⟩
     refine xt ?_
     refine hK6 _ _ ?_
     refine ws fun K19 hK19 => ?_
     refine gb 1 4 hF hS rfl rfl rfl fun a hF => ?_
     refine ww 6 hF hS rfl rfl rfl rfl rfl rfl fun w44 hS => ?_
     refine wl_nil (hK19 _ _ ?_)
     refine wp_ret ?_
     refine xt ?_
     simp only [List.mem_cons, List.not_mem_nil, or_false] at h31
     exact ret1c rfl ag29 hF hS (i := 6) rfl sz29 rfl ⟨({ x9 with generations := x9.generations.set 0 x31 }, [z0, z1, z2]), ⟨rfl, Good.gens hg9 (by unfold int64; omega)⟩, Sep.part_mk (ek := stateEK) (x := { x9 with generations := x9.generations.set 0 x31 }) (vs := [z0, z1, z2]) (Sep.headp (A := [_, _, _, _, _, _, _]) (B := [_, _, _, _]) hS [1, 2, 3, 5] (by decide) rfl rfl) rfl⟩
  ·
   refine op_ld rfl rfl (gw0 rfl) rfl rfl rfl (fun a w_ hF hS => r_load1 sc26 (hF.ev rfl) (hS.box (i := 3) rfl rfl)) ?_
   refine todo_op hl_ rfl (by kernel_rfl) rfl rfl rfl rfl rfl (fun a w_ hF hS => r_bslice intEK [vi 1, vi 9998, vi 9999] [1, 9998, 9999] rfl mk26 rfl ⟨rfl, ec, rfl, ec, rfl, ec, trivial⟩ rfl rfl rfl rfl) ?_; intro gl_30
   refine todo_fork [(4, [5, 6])] hl_ rfl (by kernel_rfl) (List.forall_mem_cons.2 ⟨?_, fun _ h_ => nomatch h_⟩)
   ·
    refine op_dw (m' := [6]) (val := fun x : Int => vi x) (R := fun x => x ∈ ([1, 9998, 9999] : List Int)) rfl rfl (gw0 rfl) rfl rfl rfl rfl (fun a w_ hF => r_call2 en85 (hF.ev rfl) (hF.ev rfl)) (fun M_ w_ hS => l1PickInt_c hbs (q := 6) (fun w_ hS => (hS.own_rd (i := 1) rfl)) (by decide) hS rfl) ?_; intro x31 h31; try clear hSd; try clear wd; intro wd hSd
    obtain ⟨g32, o32, m32, q32, hv32, hm32, hl32, hc32⟩ := Rd.idxF ((hSd.own_rd (i := 2) rfl)) (at0_get (i := (0 : Int)) (by omega) (by omega))
    refine todo_pure hl_ (by kernel_rfl) rfl (gw0 rfl) rfl rfl rfl (fun a w_ hF => r_index sl26 ((hF.ev rfl).trans hv32) ec (by omega) (by first | omega | (simp at hm32; omega))) ?_
    refine todo_fin hl_ rfl (by kernel_rfl) (tl := [_]) rfl ?_; intro a w46 hF hA_
    have hS := hA_.sep; clear hA_
    clear hl_; try clear hSd
    try dsimp only [List.cons_append, List.nil_append, List.set] at hS
    try clear wd
    refine wl_istore (q := 2) hF hS rfl hv32 (by omega) (by omega) sz3 (hF.ev rfl) rfl (hF.ev rfl) fun w47 hS => ?_; dsimp only [List.set] at hS
    refine wl_nil ⟨rfl, ?_⟩
    refine xt ?_
    refine hK6 _ _ ?_
    refine ws fun K20 hK20 => ?_
    refine gb 1 4 hF hS rfl rfl rfl fun a hF => ?_
    refine ww 6 hF hS rfl rfl rfl rfl rfl rfl fun w48 hS => ?_
    refine wl_nil (hK20 _ _ ?_)
    refine wp_ret ?_
    refine xt ?_
    simp only [List.mem_cons, List.not_mem_nil, or_false] at h31
    exact ret1c rfl ag29 hF hS (i := 6) rfl sz29 rfl ⟨({ x9 with generations := x9.generations.set 0 x31 }, [z0, z1, z2]), ⟨rfl, Good.gens hg9 (by unfold int64; omega)⟩, Sep.part_mk (ek := stateEK) (x := { x9 with generations := x9.generations.set 0 x31 }) (vs := [z0, z1, z2]) (Sep.headp (A := [_, _, _, _, _, _, _]) (B := [_, _, _, _]) hS [1, 2, 3, 5] (by decide) rfl rfl) rfl⟩
 refine wp_skip ?_
 refine xt ?_
 refine hK6 _ _ ?_
 refine ws fun K21 hK21 => ?_
 refine gb 1 3 hF hS rfl rfl rfl fun a hF => ?_
 refine ww 5 hF hS rfl rfl rfl rfl rfl rfl fun w49 hS => ?_
 refine wl_nil (hK21 _ _ ?_)
 refine wp_ret ?_
 refine xt ?_
 exact ret1c rfl ag29 hF hS (i := 5) rfl sz29 rfl ⟨(x9, [z0, z1, z2]), ⟨rfl, Good.drawn hg9⟩, Sep.part_mk (ek := stateEK) (x := x9) (vs := [z0, z1, z2]) (Sep.headp (A := [_, _, _, _, _, _]) (B := [_, _, _, _]) hS [0, 1, 2, 4] (by decide) rfl rfl) rfl⟩
end Go.Proofs.YtgofolgogfmhgaaGreat.Wk
namespace Go.Proofs.YtgofolgogfmhgaaGreat.Wk
open Go Go.RowKit Sl
theorem en53 : enterB Tryz.prog 53 = true := by kernel_rfl
end Go.Proofs.YtgofolgogfmhgaaGreat.Wk
namespace Go.Proofs.YtgofolgogfmhgaaGreat.Wk
open Go Go.RowKit Sl
theorem eg25 : Tryz.prog.eqGuardType Tryz.prog.depth 25 = false := by kernel_rfl
theorem eg31 : Tryz.prog.eqGuardType Tryz.prog.depth 31 = false := by kernel_rfl
theorem eg39 : Tryz.prog.eqGuardType Tryz.prog.depth 39 = false := by kernel_rfl
theorem eg83 : Tryz.prog.eqGuardType Tryz.prog.depth 83 = false := by kernel_rfl
theorem en33 : enterB Tryz.prog 33 = true := by kernel_rfl
theorem en52 : enterB Tryz.prog 52 = true := by kernel_rfl
theorem fl25 : flN Tryz.prog 10000 25 = some 6 := by kernel_rfl
theorem fl31 : flN Tryz.prog 10000 31 = some 3 := by kernel_rfl
theorem fl39 : flN Tryz.prog 10000 39 = some 2 := by kernel_rfl
theorem fl83 : flN Tryz.prog 10000 83 = some 4 := by kernel_rfl
end Go.Proofs.YtgofolgogfmhgaaGreat.Wk
namespace Go.Proofs.YtgofolgogfmhgaaGreat.Wk
open Go Go.RowKit Sl
end Go.Proofs.YtgofolgogfmhgaaGreat.Wk
namespace Go.Proofs.YtgofolgogfmhgaaGreat.Wk
open Go Go.RowKit Sl
theorem en25 : enterB Tryz.prog 25 = true := by kernel_rfl
end Go.Proofs.YtgofolgogfmhgaaGreat.Wk
namespace Go.Proofs.YtgofolgogfmhgaaGreat.Wk
open Go Go.RowKit Sl
set_option linter.unusedVariables false
set_option linter.unusedSimpArgs false
set_option maxRecDepth 20000
theorem start_len {s : Sl.State} {p : Int} {o : Sl.Op} : (startS s p o).1.threads.length = s.threads.length := by
 unfold startS setT; repeat' split
 all_goals simp
theorem all_len {s : Sl.State} {p : Int} : (stepAll s p).1.threads.length = s.threads.length := by
 unfold stepAll stepBy; split <;> simp [stepped]
theorem good_all {s : Sl.State} {p : Int} (h : Good s) : Good (stepAll s p).1 := by
 unfold stepAll
 split
 · rename_i hr
   have h0 := (running_of hr).2.1
   obtain ⟨k, rfl⟩ : ∃ k : Nat, p = (k : Int) := ⟨p.toNat, by omega⟩
   exact good_step h hr
 · exact h
theorem l18Is_c {W : World} {pc kind : Int} : Calls Tryz.prog 102 #[vi pc, vi kind] W (Ret fun v w' => (∃ b : Bool, v = .bool b) ∧ Below W.heap.size W w') := by
 refine calls_fr Tryz.func102 rfl Tryz.ntmps102 rfl ?_
 intro a hF
 have hS := Sep.refl W
 refine rg hF rfl fun a hF => ?_
 refine wp_seq_k fun K2 hK2 => ?_
 refine rg hF rfl fun a hF => ?_
 refine wp_block ?_
 refine rg hF rfl fun a hF => ?_
 refine cx 6 hF rfl (fun c6 hF => ?_) fun c6 hF => ?_
 ·
  refine ws fun K5 hK5 => ?_
  refine ga 1 hF rfl fun a hF => ?_
  refine ckr hF hS rfl (specIsBegin_c) fun w1 a hS hF => ?_
  refine ge hK5 hF rfl fun a hF => ?_
  refine wp_ret ?_
  refine xt ?_
  exact ret1 rfl hF rfl ⟨⟨_, rfl⟩, hS.old⟩
 refine rg hF rfl fun a hF => ?_
 refine cx 10 hF rfl (fun c10 hF => ?_) fun c10 hF => ?_
 ·
  refine rg hF rfl fun a hF => ?_
  refine wp_ret ?_
  refine xt ?_
  exact ret1 rfl hF rfl ⟨⟨_, rfl⟩, hS.old⟩
 refine rg hF rfl fun a hF => ?_
 refine cx 14 hF rfl (fun c14 hF => ?_) fun c14 hF => ?_
 ·
  refine ws fun K9 hK9 => ?_
  refine ga 1 hF rfl fun a hF => ?_
  refine ckr hF hS rfl (specIsWalk_c) fun w2 a hS hF => ?_
  refine ge hK9 hF rfl fun a hF => ?_
  refine wp_ret ?_
  refine xt ?_
  exact ret1 rfl hF rfl ⟨⟨_, rfl⟩, hS.old⟩
 refine rg hF rfl fun a hF => ?_
 refine cx 18 hF rfl (fun c18 hF => ?_) fun c18 hF => ?_
 ·
  refine ws fun K11 hK11 => ?_
  refine ga 1 hF rfl fun a hF => ?_
  refine ckr hF hS rfl (specIsRead_c) fun w3 a hS hF => ?_
  refine ge hK11 hF rfl fun a hF => ?_
  refine wp_ret ?_
  refine xt ?_
  exact ret1 rfl hF rfl ⟨⟨_, rfl⟩, hS.old⟩
 refine rg hF rfl fun a hF => ?_
 refine cx 22 hF rfl (fun c22 hF => ?_) fun c22 hF => ?_
 ·
  refine ws fun K13 hK13 => ?_
  refine ga 1 hF rfl fun a hF => ?_
  refine ckr hF hS rfl (specIsWrite_c) fun w4 a hS hF => ?_
  refine ge hK13 hF rfl fun a hF => ?_
  refine wp_ret ?_
  refine xt ?_
  exact ret1 rfl hF rfl ⟨⟨_, rfl⟩, hS.old⟩
 refine rg hF rfl fun a hF => ?_
 refine cx 26 hF rfl (fun c26 hF => ?_) fun c26 hF => ?_
 ·
  refine ws fun K15 hK15 => ?_
  refine ga 1 hF rfl fun a hF => ?_
  refine ckr hF hS rfl (specIsFlush_c) fun w5 a hS hF => ?_
  refine ge hK15 hF rfl fun a hF => ?_
  refine wp_ret ?_
  refine xt ?_
  exact ret1 rfl hF rfl ⟨⟨_, rfl⟩, hS.old⟩
 refine wp_skip ?_
 refine xt ?_
 refine hK2 _ _ ?_
 refine rg hF rfl fun a hF => ?_
 refine wp_ret ?_
 refine xt ?_
 exact ret1 rfl hF rfl ⟨⟨_, rfl⟩, hS.old⟩
theorem l18Op_h {W : World} {g : Nat} {vb : Value} {bs : List Int} (hbs : byteEK.Rd W vb bs) {l : List Res} {w : World} {s : Sl.State} {v0 v1 v2 : Value} {p : Nat} {kind : Int} (hk : s.config.keys ≤ 10) (hr : ∀ w, Sep W (Cur g vb bs.length :: l) w → threadEK.Rd w v2 s.threads) (hp : p < s.threads.length) (hS : Sep W (Cur g vb bs.length :: l) w) : Calls Tryz.prog 103 #[.pointer (some ⟨g, 0, none⟩), .agg (s.encv v0 v1 v2).toArray, vi (p : Int), vi kind] w (Ret fun v w' => (∃ o : Sl.Op, v = .agg o.enc.toArray ∧ o.wf) ∧ Sep W (Cur g vb bs.length :: l) w') := by
 refine calls_fr Tryz.func103 rfl Tryz.ntmps103 rfl ?_
 intro a hF
 obtain ⟨A_c, q_c, rfl, hq_c, hn_c⟩ := (hr _ hS).sl; unfold maxLen at hn_c
 refine ws fun K1 hK1 => ?_
 refine wl_box (cs := [_, _, _, _, _, _, _, _, _, _, _, _, _]) hF hS rfl (hF.ev rfl) rfl fun g1 w1 a hS _ hF => ?_
 refine wl_alloc hF hS rfl zr31 fun g2 w2 a hS _ hF => ?_
 refine wl_nil (hK1 _ _ ?_)
 refine ws fun K2 hK2 => ?_
 refine gb 4 1 hF hS rfl rfl rfl fun a hF => ?_
 refine ck hF rfl (l1Below_c hbs (q := 2) _ hS rfl) ?_; rintro v w3 a ⟨⟨x15, rfl, h15⟩, hS⟩ hF
 refine ge hK2 hF rfl fun a hF => ?_
 refine ws fun K3 hK3 => ?_
 refine gb 3 1 hF hS rfl rfl rfl fun a hF => ?_
 obtain ⟨g19, o19, m19, q19, cs19, hv19, hm19, hl19, hk19, hz19, hc19⟩ := Rd.at ((hr _ (Sep.headp (A := [_, _, _]) (B := [_]) hS [2] (by decide) rfl rfl))) (a := a) (X := .tmp 18) (hF.ev rfl) (by omega) (by omega)
 have hkk19 := hk19; obtain ⟨v19_0, v19_1, v19_2, v19_3, v19_4, rfl, r19_0, r19_1, r19_2, r19_3, r19_4⟩ := hk19
 refine wl hF rfl rfl rfl (r_index sl27 ((hF.ev rfl).trans hv19) (hF.ev rfl) (by omega) (by first | omega | (simp at hm19; omega))) fun a hF => ?_
 refine ga 1 hF rfl fun a hF => ?_
 refine wl hF rfl rfl rfl (r_load1 sc3 (hF.ev rfl) (hc19 6 _ rfl)) fun a hF => ?_
 refine ge hK3 hF rfl fun a hF => ?_
 refine wp_seq_k fun K4 hK4 => ?_
 refine wp_block ?_
 refine ws fun K5 hK5 => ?_
 refine ga 3 hF rfl fun a hF => ?_
 apply wa 2 26 28 hF hS
 ·
  intro hg26 a hF
  exact je 2 hF hS rfl rfl rfl rfl
 intro a w4 hF hS
 refine ge hK5 hF rfl fun a hF => ?_
 refine cx 23 hF rfl (fun c23 hF => ?_) fun c23 hF => ?_
 ·
  refine ws fun K6 hK6 => ?_
  refine wl hF rfl rfl rfl (r_build (bd31_0 _) ⟨rfl, ec, trivial⟩) fun a hF => ?_
  refine ww 0 hF hS rfl rfl rfl rfl rfl rfl fun w5 hS => ?_
  refine wl_nil (hK6 _ _ ?_)
  refine wp_ret ?_
  refine xt ?_
  exact ret1c rfl ag31 hF hS (i := 0) rfl sz31 rfl ⟨⟨⟨_, _, _⟩, rfl, (by unfold int64; dsimp only; omega), (by unfold int64; dsimp only; omega), (by unfold int64; dsimp only; omega)⟩, (Sep.headp (A := [_, _, _]) (B := [_]) hS [2] (by decide) rfl rfl)⟩
 refine ws fun K7 hK7 => ?_
 refine ga 3 hF rfl fun a hF => ?_
 apply wo 7 33 40 hF hS
 ·
  intro hg33 a hF
  refine ga 3 hF rfl fun a hF => ?_
  apply wa 3 36 39 hF hS
  ·
   intro hg36 a hF
   exact je 3 hF hS rfl rfl rfl rfl
  intro a w6 hF hS
  exact je 5 hF hS rfl rfl rfl rfl
 intro a w7 hF hS
 refine ga 1 hF rfl fun a hF => ?_
 apply wo 7 41 48 hF hS
 ·
  intro hg41 a hF
  refine ga 3 hF rfl fun a hF => ?_
  apply wa 3 44 47 hF hS
  ·
   intro hg44 a hF
   exact je 3 hF hS rfl rfl rfl rfl
  intro a w8 hF hS
  exact je 5 hF hS rfl rfl rfl rfl
 intro a w9 hF hS
 refine ge hK7 hF rfl fun a hF => ?_
 refine cx 30 hF rfl (fun c30 hF => ?_) fun c30 hF => ?_
 ·
  refine ws fun K8 hK8 => ?_
  refine wl hF rfl rfl rfl (r_build (bd31_0 _) ⟨rfl, ec, trivial⟩) fun a hF => ?_
  refine ww 0 hF hS rfl rfl rfl rfl rfl rfl fun w10 hS => ?_
  refine wl_nil (hK8 _ _ ?_)
  refine wp_ret ?_
  refine xt ?_
  exact ret1c rfl ag31 hF hS (i := 0) rfl sz31 rfl ⟨⟨⟨_, _, _⟩, rfl, (by unfold int64; dsimp only; omega), (by unfold int64; dsimp only; omega), (by unfold int64; dsimp only; omega)⟩, (Sep.headp (A := [_, _, _]) (B := [_]) hS [2] (by decide) rfl rfl)⟩
 refine rg hF rfl fun a hF => ?_
 refine cx 50 hF rfl (fun c50 hF => ?_) fun c50 hF => ?_
 ·
  refine ws fun K10 hK10 => ?_
  refine wl hF rfl rfl rfl (r_build (bd31_0 _) ⟨rfl, ec, trivial⟩) fun a hF => ?_
  refine ww 0 hF hS rfl rfl rfl rfl rfl rfl fun w11 hS => ?_
  refine wl_nil (hK10 _ _ ?_)
  refine wp_ret ?_
  refine xt ?_
  exact ret1c rfl ag31 hF hS (i := 0) rfl sz31 rfl ⟨⟨⟨_, _, _⟩, rfl, (by unfold int64; dsimp only; omega), (by unfold int64; dsimp only; omega), (by unfold int64; dsimp only; omega)⟩, (Sep.headp (A := [_, _, _]) (B := [_]) hS [2] (by decide) rfl rfl)⟩
 refine ws fun K11 hK11 => ?_
 refine ga 3 hF rfl fun a hF => ?_
 apply wa 2 57 59 hF hS
 ·
  intro hg57 a hF
  exact je 2 hF hS rfl rfl rfl rfl
 intro a w12 hF hS
 refine ga 1 hF rfl fun a hF => ?_
 apply wo 3 60 63 hF hS
 ·
  intro hg60 a hF
  exact je 3 hF hS rfl rfl rfl rfl
 intro a w13 hF hS
 refine ge hK11 hF rfl fun a hF => ?_
 refine cx 54 hF rfl (fun c54 hF => ?_) fun c54 hF => ?_
 ·
  refine ws fun K12 hK12 => ?_
  refine ga 1 hF rfl fun a hF => ?_
  refine wl hF rfl rfl rfl (r_build (bd31_0_1 _ _) ⟨rfl, ec, rfl, (hF.ev rfl), trivial⟩) fun a hF => ?_
  refine ww 0 hF hS rfl rfl rfl rfl rfl rfl fun w14 hS => ?_
  refine wl_nil (hK12 _ _ ?_)
  refine wp_ret ?_
  refine xt ?_
  exact ret1c rfl ag31 hF hS (i := 0) rfl sz31 rfl ⟨⟨⟨_, _, _⟩, rfl, (by unfold int64; dsimp only; omega), (by unfold int64; dsimp only; omega), (by unfold int64; dsimp only; omega)⟩, (Sep.headp (A := [_, _, _]) (B := [_]) hS [2] (by decide) rfl rfl)⟩
 refine ws fun K13 hK13 => ?_
 refine ga 3 hF rfl fun a hF => ?_
 revert hF; intro hF0; refine bsplit (t := 69) hF0 rfl (fun b69 hF => ?_) (fun b69 hF => ?_)
 ·
  clear hF0
  try simp only [decide_eq_true_eq, decide_eq_false_iff_not, Bool.not_eq_true', Bool.not_eq_false'] at b69
  refine ga 1 hF rfl fun a hF => ?_
  refine ck hF rfl (l1Once_c hbs (q := 2) _ hS rfl) ?_; rintro v w15 a ⟨⟨b71, rfl⟩, hS⟩ hF
  refine ge hK13 hF rfl fun a hF => ?_
  refine cx 66 hF rfl (fun c66 hF => ?_) fun c66 hF => ?_
  ·
   refine ws fun K14 hK14 => ?_
   refine wl hF rfl rfl rfl (r_build (bd31_0 _) ⟨rfl, ec, trivial⟩) fun a hF => ?_
   refine ww 0 hF hS rfl rfl rfl rfl rfl rfl fun w16 hS => ?_
   refine wl_nil (hK14 _ _ ?_)
   refine wp_ret ?_
   refine xt ?_
   exact ret1c rfl ag31 hF hS (i := 0) rfl sz31 rfl ⟨⟨⟨_, _, _⟩, rfl, (by unfold int64; dsimp only; omega), (by unfold int64; dsimp only; omega), (by unfold int64; dsimp only; omega)⟩, (Sep.headp (A := [_, _, _]) (B := [_]) hS [2] (by decide) rfl rfl)⟩
  refine wp_skip ?_
  refine xt ?_
  refine hK4 _ _ ?_
  refine ws fun K15 hK15 => ?_
  refine ga 2 hF rfl fun a hF => ?_
  refine ck hF rfl (l1Below_c hbs (q := 2) _ hS rfl) ?_; rintro v w17 a ⟨⟨x76, rfl, h76⟩, hS⟩ hF
  refine wl hF rfl rfl rfl (r_build (bd31_0_1_2 _ _ _) ⟨rfl, ec, rfl, (hF.ev rfl), rfl, (hF.ev rfl), trivial⟩) fun a hF => ?_
  refine ww 0 hF hS rfl rfl rfl rfl rfl rfl fun w18 hS => ?_
  refine wl_nil (hK15 _ _ ?_)
  refine wp_ret ?_
  refine xt ?_
  exact ret1c rfl ag31 hF hS (i := 0) rfl sz31 rfl ⟨⟨⟨_, _, _⟩, rfl, (by unfold int64; dsimp only; omega), (by unfold int64; dsimp only; omega), (by unfold int64; dsimp only; omega)⟩, (Sep.headp (A := [_, _, _]) (B := [_]) hS [2] (by decide) rfl rfl)⟩
 clear hF0
 try simp only [decide_eq_true_eq, decide_eq_false_iff_not, Bool.not_eq_true', Bool.not_eq_false'] at b69
 refine ge hK13 hF rfl fun a hF => ?_
 refine wc_false (hF.ev rfl) ?_
 refine wp_skip ?_
 refine xt ?_
 refine hK4 _ _ ?_
 refine ws fun K16 hK16 => ?_
 refine ga 2 hF rfl fun a hF => ?_
 refine ck hF rfl (l1Below_c hbs (q := 2) _ hS rfl) ?_; rintro v w19 a ⟨⟨x76, rfl, h76⟩, hS⟩ hF
 refine wl hF rfl rfl rfl (r_build (bd31_0_1_2 _ _ _) ⟨rfl, ec, rfl, (hF.ev rfl), rfl, (hF.ev rfl), trivial⟩) fun a hF => ?_
 refine ww 0 hF hS rfl rfl rfl rfl rfl rfl fun w20 hS => ?_
 refine wl_nil (hK16 _ _ ?_)
 refine wp_ret ?_
 refine xt ?_
 exact ret1c rfl ag31 hF hS (i := 0) rfl sz31 rfl ⟨⟨⟨_, _, _⟩, rfl, (by unfold int64; dsimp only; omega), (by unfold int64; dsimp only; omega), (by unfold int64; dsimp only; omega)⟩, (Sep.headp (A := [_, _, _]) (B := [_]) hS [2] (by decide) rfl rfl)⟩
theorem l18Op_c {W : World} {g : Nat} {vb : Value} {bs : List Int} (hbs : byteEK.Rd W vb bs) {l : List Res} {w : World} {q : Nat} {s : Sl.State} {v0 v1 v2 : Value} {p : Nat} {kind : Int} (hk : s.config.keys ≤ 10) (hr : ∀ w, Sep W l w → threadEK.Rd w v2 s.threads) (hp : p < s.threads.length) (hS : Sep W l w) (hq : l[q]? = some (Cur g vb bs.length)) : Calls Tryz.prog 103 #[.pointer (some ⟨g, 0, none⟩), .agg (s.encv v0 v1 v2).toArray, vi (p : Int), vi kind] w (Ret fun v w' => (∃ o : Sl.Op, v = .agg o.enc.toArray ∧ o.wf) ∧ Sep W l w') := by
 refine (l18Op_h hbs hk (fun w_ h_ => hr w_ (h_.unpull hq)) hp (hS.pull hq)).mono ?_
 rintro e w' ⟨v, rfl, hr_, h⟩
 exact ⟨v, rfl, hr_, h.unpull hq⟩
theorem l18Skip_c {W : World} {s : Sl.State} {cs : List Value} {p n kind : Int} (hm : stateEK.K W s cs) (hg : Good s) (hp0 : int64 p) (hn : n ≤ 1000) : Calls Tryz.prog 104 #[.agg cs.toArray, vi p, vi n, vi kind] W (Ret (Mk W (fun z : {z : Sl.State × List Slv × Int // Good z.1} => .tuple #[.agg (stateEK.cells z.1.1 z.1.2.1).toArray, vi z.1.2.2]) (fun z => [Part stateEK z.1.1 z.1.2.1]))) := by
 refine calls_fr Tryz.func104 rfl Tryz.ntmps104 rfl ?_
 intro a hF
 have hS := Sep.refl W
 obtain ⟨v0, v1, v2, rfl, r0, r1, r2⟩ := hm
 have hm : stateEK.K W s (s.encv v0 v1 v2) := ⟨_, _, _, rfl, r0, r1, r2⟩
 obtain ⟨A_a, q_a, rfl, hq_a, hn_a⟩ := r0.sl; unfold maxLen at hn_a
 obtain ⟨A_b, q_b, rfl, hq_b, hn_b⟩ := r1.sl; unfold maxLen at hn_b
 obtain ⟨A_c, q_c, rfl, hq_c, hn_c⟩ := r2.sl; unfold maxLen at hn_c
 have hzg : s.size ≤ 2200 := hg.sz
 refine ws fun K1 hK1 => ?_
 refine wl_box (cs := [_, _, _, _, _, _, _, _, _, _, _, _, _]) hF hS rfl (hF.ev rfl) rfl fun g1 w1 a hS _ hF => ?_
 refine wl_alloc hF hS rfl zr29 fun g2 w2 a hS _ hF => ?_
 refine ge hK1 hF rfl fun a hF => ?_
 refine ws fun K2 hK2 => ?_
 refine gb 1 1 hF hS rfl rfl rfl fun a hF => ?_
 refine wl_mk hF hS rfl rfl rfl (r_call1 en44 (hF.ev rfl)) (l8Copy_c (hS.k hm) (by omega)) ?_; rintro vs15 w3 a hS_ hF; replace hS := hS_; clear hS_; dsimp only [List.cons_append, List.nil_append] at hS
 refine wl_alloc hF hS rfl zr29 fun g3 w4 a hS _ hF => ?_
 refine ww 0 hF hS rfl rfl rfl rfl rfl rfl fun w5 hS => ?_
 refine wl_nil (hK2 _ _ ?_)
 refine rg hF rfl fun a hF => ?_
 refine wp_seq_k fun K4 hK4 => ?_
 refine wp_block ?_
 replace hS := hS.pull (p := 1) rfl; dsimp only [List.eraseIdx] at hS
 replace hS := hS.pull (p := 1) rfl; dsimp only [List.eraseIdx] at hS
 have hL_ := ((((((hF.nil.keep hF (t := 10) rfl).keep hF (t := 9) rfl).keep hF (t := 8) rfl).keep hF (t := 3) rfl).keep hF (t := 2) rfl).keep hF (t := 1) rfl)
 refine wp_loop_m (σ := Nat × Sl.State × List Slv) (fun z L_ => (11, vi z.1) :: L_) (fun z l_ => (Box g3 (stateEK.cells z.2.1 z.2.2)) :: (Part stateEK z.2.1 z.2.2) :: l_) (fun z => (Good z.2.1) ∧ (z.1 = 0 ∨ (z.1 : Int) ≤ n)) (fun z => (n - (z.1 : Int)).toNat) (0, s, vs15) (hS) (hL_.keepE hF (t := 11) rfl rfl) ?_ ?_
 · exact ⟨hg, .inl rfl⟩
 rintro ⟨k, x, vs⟩ a w6 ⟨hgx, hk⟩ hS hF; try dsimp only at hF; try dsimp only at hS; try dsimp only at hgx; try dsimp only at hk
 refine wp_seq_k fun K5 hK5 => ?_
 refine ws fun K6 hK6 => ?_
 refine ga 4 hF rfl fun a hF => ?_
 apply wa 4 19 23 hF hS
 ·
  intro hg19 a hF
  refine gb 2 0 hF hS rfl rfl rfl fun a hF => ?_
  refine ckr hF hS rfl (specIsRunning_c (hS.part_k (i := 1) rfl) hgx.wf (by have := hgx.sz; omega) hp0) fun w7 a hS hF => ?_
  exact je 4 hF hS rfl rfl rfl rfl
 intro a w8 hF hS
 refine wl_nil (hK6 _ _ ?_)
 refine cx 23 hF rfl (fun c23 hF => ?_) fun c23 hF => ?_
 ·
  refine wp_skip ?_
  refine hK5 _ _ ?_
  refine wp_block ?_
  refine ws fun K7 hK7 => ?_
  refine gb 2 0 hF hS rfl rfl rfl fun a hF => ?_
  refine wl_mk hF hS rfl rfl rfl (r_call2 en25 (hF.ev rfl) (hF.ev rfl)) (specStep_c (hS.part_k (i := 1) rfl) hgx.wf (by have := hgx.sz; omega) hp0) ?_; rintro vs27 w9 a hS_ hF; replace hS := hS_; clear hS_; dsimp only [List.cons_append, List.nil_append] at hS
  replace hF : Fr _ ((27, .tuple #[.agg (stateEK.cells (stepAll x p).1 vs27).toArray, .bool (stepAll x p).2]) :: _) _ := hF
  replace hS := hS.pull (p := 0) rfl; dsimp only [List.eraseIdx] at hS
  replace hS : Sep W (Own intEK (sv (vs27.getD 0 (none, 0, 0))) (stepAll x p).1.cells :: Own intEK (sv (vs27.getD 1 (none, 0, 0))) (stepAll x p).1.generations :: Own threadEK (sv (vs27.getD 2 (none, 0, 0))) (stepAll x p).1.threads :: _) _ := hS.part_open
  have hF0 : Fr _ ((27, .tuple #[.agg ((stepAll x p).1.encv (sv (vs27.getD 0 (none, 0, 0))) (sv (vs27.getD 1 (none, 0, 0))) (sv (vs27.getD 2 (none, 0, 0)))).toArray, .bool (stepAll x p).2]) :: _) _ := hF
  have hF := hF0; clear hF0
  generalize vs27.getD 0 (none, 0, 0) = z0 at hS hF
  generalize vs27.getD 1 (none, 0, 0) = z1 at hS hF
  generalize vs27.getD 2 (none, 0, 0) = z2 at hS hF
  have hl2_ := hS.own_len (q := 2) rfl
  have hgn := good_all (p := p) hgx
  have hal := all_len (s := x) (p := p)
  have hpr := (running_of c23.2).2
  refine ga 3 hF rfl fun a hF => ?_
  refine wl_alloc hF hS rfl zr29 fun g4 w10 a hS _ hF => ?_
  refine ww 0 hF hS rfl rfl rfl rfl rfl rfl fun w11 hS => ?_
  refine ge hK7 hF rfl fun a hF => ?_
  refine wp_seq_k fun K8 hK8 => ?_
  refine ws fun K9 hK9 => ?_
  refine gb 3 0 hF hS rfl rfl rfl fun a hF => ?_
  obtain ⟨g33, o33, m33, q33, cs33, hv33, hm33, hl33, hk33, hz33, hc33⟩ := Rd.at ((hS.own_rd (i := 3) rfl)) (a := a) (X := .tmp 32) (hF.ev rfl) (by omega) (by omega)
  have hkk33 := hk33; obtain ⟨v33_0, v33_1, v33_2, v33_3, v33_4, rfl, r33_0, r33_1, r33_2, r33_3, r33_4⟩ := hk33
  refine wl hF rfl rfl rfl (r_index sl27 ((hF.ev rfl).trans hv33) (hF.ev rfl) (by omega) (by first | omega | (simp at hm33; omega))) fun a hF => ?_
  refine ga 1 hF rfl fun a hF => ?_
  refine wl hF rfl rfl rfl (r_load1 sc3 (hF.ev rfl) (hc33 0 _ rfl)) fun a hF => ?_
  refine ga 1 hF rfl fun a hF => ?_
  refine ck hF rfl (l18Is_c) ?_; rintro v w12 a ⟨⟨b37, rfl⟩, hB_⟩ hF; have hS := hS.ext hB_
  refine ge hK9 hF rfl fun a hF => ?_
  refine cx 38 hF rfl (fun c38 hF => ?_) fun c38 hF => ?_
  ·
   refine ws fun K10 hK10 => ?_
   refine gb 2 4 hF hS rfl rfl rfl fun a hF => ?_
   refine ww 6 hF hS rfl rfl rfl rfl rfl rfl fun w13 hS => ?_
   refine ge hK10 hF rfl fun a hF => ?_
   refine wp_ret ?_
   refine xt ?_
   exact ret2c rfl ag29 hF hS (i := 6) rfl sz29 rfl rfl ⟨⟨(x, vs, _), hgx⟩, rfl, hS.pick [5] (by decide) rfl⟩
  refine wp_skip ?_
  refine hK8 _ _ ?_
  refine ws fun K11 hK11 => ?_
  refine gb 1 0 hF hS rfl rfl rfl fun a hF => ?_
  refine ww 4 hF hS rfl rfl rfl rfl rfl rfl fun w14 hS => ?_
  refine wl_nil (hK11 _ _ ?_)
  refine rl hF rfl fun a hF => ?_
  refine xt ?_
  try dsimp only [List.append] at hS
  replace hS := hS.pull (p := 3) rfl; dsimp only [List.eraseIdx] at hS
  replace hS := hS.pull (p := 3) rfl; dsimp only [List.eraseIdx] at hS
  replace hS := hS.pull (p := 3) rfl; dsimp only [List.eraseIdx] at hS
  replace hS := Sep.part_mk (ek := stateEK) (x := (stepAll x p).1) (vs := [z0, z1, z2]) hS rfl
  refine ⟨(k + 1, (stepAll x p).1, [z0, z1, z2]), ⟨good_all hgx, .inr (by dsimp only; omega)⟩, (hS.pick [2, 0, 4, 5] (by decide) rfl), (((((((hF.nil.keep hF (t := 10) rfl).keep hF (t := 9) rfl).keep hF (t := 8) rfl).keep hF (t := 3) rfl).keep hF (t := 2) rfl).keep hF (t := 1) rfl).keepE hF (t := 11) rfl (wk (by omega))), by dsimp only; omega⟩
 refine wp_exit ?_
 refine xt ?_
 refine hK4 _ _ ?_
 refine ws fun K12 hK12 => ?_
 refine gb 2 0 hF hS rfl rfl rfl fun a hF => ?_
 refine ww 2 hF hS rfl rfl rfl rfl rfl rfl fun w15 hS => ?_
 refine ge hK12 hF rfl fun a hF => ?_
 refine wp_ret ?_
 refine xt ?_
 exact ret2c rfl ag29 hF hS (i := 2) rfl sz29 rfl rfl ⟨⟨(x, vs, _), hgx⟩, rfl, hS.pick [1] (by decide) rfl⟩
end Go.Proofs.YtgofolgogfmhgaaGreat.Wk
namespace Go.Proofs.YtgofolgogfmhgaaGreat.Wk
open Go Go.RowKit Sl
theorem en103 : enterB Tryz.prog 103 = true := by kernel_rfl
theorem en104 : enterB Tryz.prog 104 = true := by kernel_rfl
end Go.Proofs.YtgofolgogfmhgaaGreat.Wk
namespace Go.Proofs.YtgofolgogfmhgaaGreat.Wk
open Go Go.RowKit Sl
set_option linter.unusedVariables false
set_option linter.unusedSimpArgs false
set_option maxRecDepth 20000
theorem l18At_h {W : World} {g : Nat} {vb : Value} {bs : List Int} (hbs : byteEK.Rd W vb bs) {l : List Res} {w : World} {kind : Int} (hS : Sep W (Cur g vb bs.length :: l) w) : Calls Tryz.prog 57 #[.pointer (some ⟨g, 0, none⟩), vi kind] w (Ret fun v w' => ∃ z : Sl.State × List Slv × Int, (v = .tuple #[.agg (stateEK.cells z.1 z.2.1).toArray, vi z.2.2] ∧ Drawn z.1 ∧ int64 z.2.2) ∧ Sep W (Part stateEK z.1 z.2.1 :: Cur g vb bs.length :: l) w') := by
 refine calls_fr Tryz.func57 rfl Tryz.ntmps57 rfl ?_
 intro a hF
 refine ws fun K1 hK1 => ?_
 refine wl_alloc hF hS rfl zr29 fun g1 w1 a hS _ hF => ?_
 refine ge hK1 hF rfl fun a hF => ?_
 refine ws fun K2 hK2 => ?_
 refine ga 1 hF rfl fun a hF => ?_
 replace hS := hS.pull (p := 1) rfl; dsimp only [List.eraseIdx] at hS
 refine ck hF rfl (l18Run_h hbs (by omega) hS) ?_; rintro v w2 a ⟨⟨x16, vs16⟩, ⟨rfl, hg16⟩, hS⟩ hF
 try dsimp only at hz16
 try dsimp only at hg16
 replace hS := hS.pull (p := 0) rfl; dsimp only [List.eraseIdx] at hS
 replace hS : Sep W (Own intEK (sv (vs16.getD 0 (none, 0, 0))) x16.cells :: Own intEK (sv (vs16.getD 1 (none, 0, 0))) x16.generations :: Own threadEK (sv (vs16.getD 2 (none, 0, 0))) x16.threads :: _) _ := hS.part_open
 dsimp only [stateEK] at hS hF
 generalize vs16.getD 0 (none, 0, 0) = z0 at hS hF
 generalize vs16.getD 1 (none, 0, 0) = z1 at hS hF
 generalize vs16.getD 2 (none, 0, 0) = z2 at hS hF
 have hl0_ := hS.own_len (q := 0) rfl
 have hl1_ := hS.own_len (q := 1) rfl
 have hl2_ := hS.own_len (q := 2) rfl
 obtain ⟨ho_, hc_, hgl_, ht_⟩ := hg16.sh
 have hb_ := ho_; unfold Config.ok at hb_
 have hz_ := hg16.sz
 refine wl_alloc hF hS rfl zr29 fun g2 w3 a hS _ hF => ?_
 refine ww 0 hF hS rfl rfl rfl rfl rfl rfl fun w4 hS => ?_
 refine wl_nil (hK2 _ _ ?_)
 refine ws fun K3 hK3 => ?_
 refine gb 5 0 hF hS rfl rfl rfl fun a hF => ?_
 refine ck hF rfl (l1Below_c hbs (q := 4) _ hS rfl) ?_; rintro v w5 a ⟨⟨x22, rfl, h22⟩, hS⟩ hF
 refine ga 1 hF rfl fun a hF => ?_
 refine ck hF rfl (l1Below_c hbs (q := 4) _ hS rfl) ?_; rintro v w6 a ⟨⟨x24, rfl, h24⟩, hS⟩ hF
 refine ge hK3 hF rfl fun a hF => ?_
 refine wp_seq_k fun K4 hK4 => ?_
 refine ws fun K5 hK5 => ?_
 refine gb 5 0 hF hS rfl rfl rfl fun a hF => ?_
 refine ckr hF hS rfl (l1In_c _ _ _) fun w7 a hS hF => ?_
 refine ga 2 hF rfl fun a hF => ?_
 revert hF; intro hF0; refine bsplit (t := 33) hF0 rfl (fun b33 hF => ?_) (fun b33 hF => ?_)
 ·
  clear hF0
  try simp only [decide_eq_true_eq, decide_eq_false_iff_not, Bool.not_eq_true', Bool.not_eq_false'] at b33
  refine ge hK5 hF rfl fun a hF => ?_
  refine wc_true (hF.ev rfl) ?_
  refine ws fun K6 hK6 => ?_
  refine ga 1 hF rfl fun a hF => ?_
  replace hS := hS.pull (p := 4) rfl; dsimp only [List.eraseIdx] at hS
  refine ck hF rfl (l18Any_h hbs hS) ?_; rintro v w8 a ⟨⟨x38, vs38⟩, ⟨rfl, hg38⟩, hS⟩ hF
  try dsimp only at hz38
  refine ga 1 hF rfl fun a hF => ?_
  refine ww 6 hF hS rfl rfl rfl rfl rfl rfl fun w9 hS => ?_
  refine ge hK6 hF rfl fun a hF => ?_
  refine wp_ret ?_
  refine xt ?_
  exact ret2c rfl ag29 hF hS (i := 6) rfl sz29 rfl rfl ⟨(x38, vs38, _), ⟨rfl, hg38, int64_wrap _⟩, (Sep.headp (A := [_, _, _, _, _, _, _]) (B := [_, _]) hS [0, 1] (by decide) rfl rfl)⟩
 clear hF0
 try simp only [decide_eq_true_eq, decide_eq_false_iff_not, Bool.not_eq_true', Bool.not_eq_false'] at b33
 refine ga 1 hF rfl fun a hF => ?_
 refine ck hF rfl (l1Once_c hbs (q := 4) _ hS rfl) ?_; rintro v w10 a ⟨⟨b35, rfl⟩, hS⟩ hF
 refine ge hK5 hF rfl fun a hF => ?_
 refine cx 36 hF rfl (fun c36 hF => ?_) fun c36 hF => ?_
 ·
  refine ws fun K7 hK7 => ?_
  refine ga 1 hF rfl fun a hF => ?_
  replace hS := hS.pull (p := 4) rfl; dsimp only [List.eraseIdx] at hS
  refine ck hF rfl (l18Any_h hbs hS) ?_; rintro v w11 a ⟨⟨x38, vs38⟩, ⟨rfl, hg38⟩, hS⟩ hF
  try dsimp only at hz38
  refine ga 1 hF rfl fun a hF => ?_
  refine ww 6 hF hS rfl rfl rfl rfl rfl rfl fun w12 hS => ?_
  refine ge hK7 hF rfl fun a hF => ?_
  refine wp_ret ?_
  refine xt ?_
  exact ret2c rfl ag29 hF hS (i := 6) rfl sz29 rfl rfl ⟨(x38, vs38, _), ⟨rfl, hg38, int64_wrap _⟩, (Sep.headp (A := [_, _, _, _, _, _, _]) (B := [_, _]) hS [0, 1] (by decide) rfl rfl)⟩
 have hw_ : IntKind.i64.wrap ((z2.2.1 : Int) - 1) = (z2.2.1 : Int) - 1 := w64_id (by omega) (by omega)
 rw [hw_] at b33
 generalize hq_ : IntKind.i64.wrap (x22 - x24) = q at hF b33
 obtain ⟨p, rfl⟩ : ∃ p : Nat, q = (p : Int) := ⟨q.toNat, by omega⟩
 have hpn0 : p < x16.threads.length := by omega
 have hp0 : int64 (p : Int) := by unfold int64; omega
 refine wp_skip ?_
 refine hK4 _ _ ?_
 refine wp_seq_k fun K8 hK8 => ?_
 refine rg hF rfl fun a hF => ?_
 refine wp_block ?_
 replace hS := Sep.headp (A := [_, _, _, _, _, _]) (B := [_, _, _, _, _, _]) hS [1, 2, 3, 0, 4, 5] (by decide) rfl rfl
 replace hS := Sep.part_mk (ek := stateEK) (x := x16) (vs := [z0, z1, z2]) hS rfl
 replace hS := hS.pull (p := 0) rfl; dsimp only [List.eraseIdx] at hS
 replace hS := hS.pull (p := 1) rfl; dsimp only [List.eraseIdx] at hS
 have hL_ := ((((((hF.nil.keep hF (t := 7) rfl).keep hF (t := 6) rfl).keep hF (t := 5) rfl).keep hF (t := 4) rfl).keep hF (t := 1) rfl).keep hF (t := 0) rfl)
 refine wp_loop_m (σ := Nat × Sl.State × List Slv) (fun z L_ => (8, vi z.1) :: L_) (fun z l_ => (Box g2 (stateEK.cells z.2.1 z.2.2)) :: (Part stateEK z.2.1 z.2.2) :: l_) (fun z => (Good z.2.1) ∧ (p < z.2.1.threads.length) ∧ (z.1 ≤ 60)) (fun z => 60 - z.1) (0, x16, [z0, z1, z2]) (hS) (hL_.keepE hF (t := 8) rfl rfl) ?_ ?_
 · exact ⟨hg16, hpn0, by dsimp only; omega⟩
 rintro ⟨k, x, vs⟩ a w13 ⟨hgx, hpn, hk⟩ hS hF; try dsimp only at hF; try dsimp only at hS; try dsimp only at hgx; try dsimp only at hpn; try dsimp only at hk
 refine wp_seq_k fun K10 hK10 => ?_
 refine rg hF rfl fun a hF => ?_
 refine cx 41 hF rfl (fun c41 hF => ?_) fun c41 hF => ?_
 ·
  obtain ⟨ho_, hc_, hgl_, ht_⟩ := hgx.sh
  have hb_ := ho_; unfold Config.ok at hb_
  have hz_ := hgx.sz
  replace hS := hS.pull (p := 1) rfl; dsimp only [List.eraseIdx] at hS
  replace hS : Sep W (Own intEK (sv (vs.getD 0 (none, 0, 0))) (x).cells :: Own intEK (sv (vs.getD 1 (none, 0, 0))) (x).generations :: Own threadEK (sv (vs.getD 2 (none, 0, 0))) (x).threads :: _) _ := hS.part_open
  dsimp only [stateEK] at hS
  generalize vs.getD 0 (none, 0, 0) = z0 at hS
  generalize vs.getD 1 (none, 0, 0) = z1 at hS
  generalize vs.getD 2 (none, 0, 0) = z2 at hS
  have hcap_ : (x).cells.length ≤ z0.2.2 := by
    obtain ⟨A_, c_, e_, h1_, _⟩ := (hS.own_rd (i := 0) rfl).sl
    have e2_ : z0.2.2 = c_ := by injection e_
    rw [e2_]; exact h1_
  have hl0_ := hS.own_len (q := 0) rfl
  have hl1_ := hS.own_len (q := 1) rfl
  have hl2_ := hS.own_len (q := 2) rfl
  refine wp_skip ?_
  refine hK10 _ _ ?_
  refine wp_seq_k fun K12 hK12 => ?_
  refine wp_block ?_
  refine wp_seq_k fun K13 hK13 => ?_
  refine ws fun K14 hK14 => ?_
  refine gb 3 3 hF hS rfl rfl rfl fun a hF => ?_
  obtain ⟨g47, o47, m47, q47, cs47, hv47, hm47, hl47, hk47, hz47, hc47⟩ := Rd.at ((hS.own_rd (i := 2) rfl)) (a := a) (X := .tmp 46) (hF.ev rfl) (by omega) (by omega)
  have hkk47 := hk47; obtain ⟨v47_0, v47_1, v47_2, v47_3, v47_4, rfl, r47_0, r47_1, r47_2, r47_3, r47_4⟩ := hk47
  refine wl hF rfl rfl rfl (r_index sl27 ((hF.ev rfl).trans hv47) (hF.ev rfl) (by omega) (by first | omega | (simp at hm47; omega))) fun a hF => ?_
  refine ga 1 hF rfl fun a hF => ?_
  refine wl hF rfl rfl rfl (r_load1 sc3 (hF.ev rfl) (hc47 0 _ rfl)) fun a hF => ?_
  refine ga 1 hF rfl fun a hF => ?_
  refine ck hF rfl (l18Is_c) ?_; rintro v w14 a ⟨⟨b51, rfl⟩, hB_⟩ hF; have hS := hS.ext hB_
  refine wl_nil (hK14 _ _ ?_)
  refine cx 51 hF rfl (fun c51 hF => ?_) fun c51 hF => ?_
  ·
   refine wp_exit ?_
   refine xt ?_
   refine hK8 _ _ ?_
   refine wp_seq_k fun K15 hK15 => ?_
   refine wp_region_todo (is := [1, 2, 4, 3, 0, 5, 6, 7, 8, 10, 11]) [(9, 13, [.int .i64 0, .int .i64 0, .int .i64 0, .int .i64 0, .int .i64 0, .int .i64 0, .slice none 0 0, .slice none 0 0, .slice none 0 0, .int .i64 0, .int .i64 0, .int .i64 0, .int .i64 0])] [3, 10, 11] (by kernel_rfl) hF hS ⟨⟨⟨_, _, _, rfl, zr29⟩, trivial⟩, by decide, by decide, by decide⟩ (by kernel_rfl) ?_; intro hl_ wd hSd
   refine todo_pure hl_ (by kernel_rfl) rfl (gw0 rfl) rfl rfl rfl (fun a w_ hF => r_move (hF.ev rfl)) ?_
   refine todo_pure hl_ (by kernel_rfl) rfl (gw0 rfl) rfl rfl rfl (fun a w_ hF => r_move (hF.ev rfl)) ?_
   refine todo_pure hl_ (by kernel_rfl) rfl (gw0 rfl) rfl rfl rfl (fun a w_ hF => r_move (hF.ev rfl)) ?_
   refine todo_fork [(3, [0, 5, 6, 7, 8, 10, 11]), (0, [3, 5, 6, 7, 8, 10, 11])] hl_ rfl (by kernel_rfl) (List.forall_mem_cons.2 ⟨?_, List.forall_mem_cons.2 ⟨?_, fun _ h_ => nomatch h_⟩⟩)
   ·
    refine op_dw (m' := [10, 11]) (val := fun x : Int => vi x) (R := fun x => 0 ≤ x ∧ (x < 4 ∨ (4 ≤ 0 ∧ x = 0))) rfl rfl (gw0 rfl) rfl rfl rfl rfl (fun a w_ hF => r_call2 en83 (hF.ev rfl) ec) (fun M_ w_ hS => l1Below_c hbs (q := 5) _ hS rfl) ?_; intro x82 h82; try clear hSd; try clear wd; intro wd hSd
    refine todo_load [5, 6, 7, 8, 10, 11] hl_ (by kernel_rfl) rfl (gw0 rfl) rfl rfl rfl (fun a w_ hF hB_ => r_loadn ag29 (hF.ev rfl) ((hSd.ext hB_).box_rd (i := 3) rfl) sz29) ?_
    refine todo_mk hl_ rfl (by kernel_rfl) rfl rfl rfl rfl rfl (fun a w_ hF => r_call4 en104 (hF.ev rfl) (hF.ev rfl) (hF.ev rfl) (hF.ev rfl)) (fun w_ hS => l18Skip_c (stateK_of (hS.own_rd (i := 0) rfl) (hS.own_rd (i := 1) rfl) (hS.own_rd (i := 2) rfl)) hgx hp0 (by omega)) ?_; rintro ⟨⟨x84, vs84, k84⟩, hg84⟩
    refine todo_pure hl_ (by kernel_rfl) rfl (gw0 rfl) rfl rfl rfl (fun a w_ hF => r_move (hF.ev rfl)) ?_
    refine todo_pure hl_ (by kernel_rfl) rfl (gw0 rfl) rfl rfl rfl (fun a w_ hF => r_extract (hF.ev rfl) rfl) ?_
    refine todo_pure hl_ (by kernel_rfl) rfl (gw0 rfl) rfl rfl rfl (fun a w_ hF => r_extract (hF.ev rfl) rfl) ?_
    refine todo_fin hl_ rfl (by kernel_rfl) (tl := [_, _]) rfl ?_; intro a w15 hF hA_
    obtain ⟨g3, hS, he_0⟩ := hA_.open1; clear hA_
    replace hF := hF.more he_0; clear he_0
    clear hl_; try clear hSd
    try dsimp only [List.cons_append, List.nil_append, List.set] at hS
    try clear wd
    refine ww 0 hF hS rfl rfl rfl rfl rfl rfl fun w16 hS => ?_
    refine ga 1 hF rfl fun a hF => ?_
    refine wl_nil ⟨rfl, ?_⟩
    refine hK15 _ _ ?_
    refine ws fun K16 hK16 => ?_
    refine gb 2 0 hF hS rfl rfl rfl fun a hF => ?_
    refine ww 7 hF hS rfl rfl rfl rfl rfl rfl fun w17 hS => ?_
    refine ge hK16 hF rfl fun a hF => ?_
    refine wp_ret ?_
    refine xt ?_
    exact ret2c rfl ag29 hF hS (i := 7) rfl sz29 rfl rfl ⟨(x84, vs84, (p : Int)), ⟨rfl, Good.drawn hg84, hp0⟩, (Sep.headp (A := [_, _, _, _, _, _, _, _]) (B := [_, _]) hS [1, 6] (by decide) rfl rfl)⟩
   ·
    refine op_ld rfl rfl (gw0 rfl) rfl rfl rfl (fun a w_ hF hS => r_loadn ag29 (hF.ev rfl) (hS.box_rd (i := 3) rfl) sz29) ?_
    refine todo_fork [(3, [5, 6, 7, 8, 10, 11])] hl_ rfl (by kernel_rfl) (List.forall_mem_cons.2 ⟨?_, fun _ h_ => nomatch h_⟩)
    ·
     refine op_dw (m' := [10, 11]) (val := fun x : Int => vi x) (R := fun x => 0 ≤ x ∧ (x < 4 ∨ (4 ≤ 0 ∧ x = 0))) rfl rfl (gw0 rfl) rfl rfl rfl rfl (fun a w_ hF => r_call2 en83 (hF.ev rfl) ec) (fun M_ w_ hS => l1Below_c hbs (q := 5) _ hS rfl) ?_; intro x82 h82; try clear hSd; try clear wd; intro wd hSd
     refine todo_mk hl_ rfl (by kernel_rfl) rfl rfl rfl rfl rfl (fun a w_ hF => r_call4 en104 (hF.ev rfl) (hF.ev rfl) (hF.ev rfl) (hF.ev rfl)) (fun w_ hS => l18Skip_c (stateK_of (hS.own_rd (i := 0) rfl) (hS.own_rd (i := 1) rfl) (hS.own_rd (i := 2) rfl)) hgx hp0 (by omega)) ?_; rintro ⟨⟨x84, vs84, k84⟩, hg84⟩
     refine todo_pure hl_ (by kernel_rfl) rfl (gw0 rfl) rfl rfl rfl (fun a w_ hF => r_move (hF.ev rfl)) ?_
     refine todo_pure hl_ (by kernel_rfl) rfl (gw0 rfl) rfl rfl rfl (fun a w_ hF => r_extract (hF.ev rfl) rfl) ?_
     refine todo_pure hl_ (by kernel_rfl) rfl (gw0 rfl) rfl rfl rfl (fun a w_ hF => r_extract (hF.ev rfl) rfl) ?_
     refine todo_fin hl_ rfl (by kernel_rfl) (tl := [_, _]) rfl ?_; intro a w18 hF hA_
     obtain ⟨g3, hS, he_0⟩ := hA_.open1; clear hA_
     replace hF := hF.more he_0; clear he_0
     clear hl_; try clear hSd
     try dsimp only [List.cons_append, List.nil_append, List.set] at hS
     try clear wd
     refine ww 0 hF hS rfl rfl rfl rfl rfl rfl fun w19 hS => ?_
     refine ga 1 hF rfl fun a hF => ?_
     refine wl_nil ⟨rfl, ?_⟩
     refine hK15 _ _ ?_
     refine ws fun K17 hK17 => ?_
     refine gb 2 0 hF hS rfl rfl rfl fun a hF => ?_
     refine ww 7 hF hS rfl rfl rfl rfl rfl rfl fun w20 hS => ?_
     refine ge hK17 hF rfl fun a hF => ?_
     refine wp_ret ?_
     refine xt ?_
     exact ret2c rfl ag29 hF hS (i := 7) rfl sz29 rfl rfl ⟨(x84, vs84, (p : Int)), ⟨rfl, Good.drawn hg84, hp0⟩, (Sep.headp (A := [_, _, _, _, _, _, _, _]) (B := [_, _]) hS [1, 6] (by decide) rfl rfl)⟩
  refine wp_skip ?_
  refine hK13 _ _ ?_
  refine ws fun K18 hK18 => ?_
  refine gb 3 3 hF hS rfl rfl rfl fun a hF => ?_
  obtain ⟨g55, o55, m55, q55, cs55, hv55, hm55, hl55, hk55, hz55, hc55⟩ := Rd.at ((hS.own_rd (i := 2) rfl)) (a := a) (X := .tmp 54) (hF.ev rfl) (by omega) (by omega)
  have hkk55 := hk55; obtain ⟨v55_0, v55_1, v55_2, v55_3, v55_4, rfl, r55_0, r55_1, r55_2, r55_3, r55_4⟩ := hk55
  refine wl hF rfl rfl rfl (r_index sl27 ((hF.ev rfl).trans hv55) (hF.ev rfl) (by omega) (by first | omega | (simp at hm55; omega))) fun a hF => ?_
  refine ga 1 hF rfl fun a hF => ?_
  refine wl hF rfl rfl rfl (r_load1 sc3 (hF.ev rfl) (hc55 0 _ rfl)) fun a hF => ?_
  refine ge hK18 hF rfl fun a hF => ?_
  refine cx 58 hF rfl (fun c58 hF => ?_) fun c58 hF => ?_
  ·
   refine wp_seq_k fun K19 hK19 => ?_
   refine wp_region_todo (is := [1, 2, 3, 4, 5, 6, 0, 7, 8, 9, 10, 12, 13]) [(11, 9, [.int .i64 0, .int .i64 0, .int .i64 0, .int .i64 0, .int .i64 0, .int .i64 0, .slice none 0 0, .slice none 0 0, .slice none 0 0, .int .i64 0, .int .i64 0, .int .i64 0, .int .i64 0])] [6, 12, 13] (by kernel_rfl) hF hS ⟨⟨⟨_, _, _, rfl, zr29⟩, trivial⟩, by decide, by decide, by decide⟩ (by kernel_rfl) ?_; intro hl_ wd hSd
   refine todo_pure hl_ (by kernel_rfl) rfl (gw0 rfl) rfl rfl rfl (fun a w_ hF => r_move (hF.ev rfl)) ?_
   refine todo_pure hl_ (by kernel_rfl) rfl (gw0 rfl) rfl rfl rfl (fun a w_ hF => r_move (hF.ev rfl)) ?_
   refine todo_load [6, 7, 8, 9, 10, 12, 13] hl_ (by kernel_rfl) rfl (gw0 rfl) rfl rfl rfl (fun a w_ hF hB_ => r_loadn ag29 (hF.ev rfl) ((hSd.ext hB_).box_rd (i := 3) rfl) sz29) ?_
   refine todo_pure hl_ (by kernel_rfl) rfl (gw0 rfl) rfl rfl rfl (fun a w_ hF => r_move (hF.ev rfl)) ?_
   refine todo_pure hl_ (by kernel_rfl) rfl (gw0 rfl) rfl rfl rfl (fun a w_ hF => r_move (hF.ev rfl)) ?_
   refine todo_fork [(6, [0, 7, 8, 9, 10, 12, 13]), (0, [6, 7, 8, 9, 10, 12, 13])] hl_ rfl (by kernel_rfl) (List.forall_mem_cons.2 ⟨?_, List.forall_mem_cons.2 ⟨?_, fun _ h_ => nomatch h_⟩⟩)
   ·
    refine op_dw (m' := [12, 13]) (val := fun o : Sl.Op => .agg o.enc.toArray) (R := fun o : Sl.Op => o.wf) rfl rfl (gw0 rfl) rfl rfl rfl rfl (fun a w_ hF => r_call4 en103 (hF.ev rfl) (hF.ev rfl) (hF.ev rfl) (hF.ev rfl)) (fun M_ w_ hS => l18Op_c hbs (q := 5) (s := x) (by omega) (fun w_ hS => hS.own_rd (i := 3) rfl) hpn hS rfl) ?_; intro o66 h66; try clear hSd; try clear wd; intro wd hSd
    refine todo_load [7, 8, 9, 10, 12, 13] hl_ (by kernel_rfl) rfl (gw0 rfl) rfl rfl rfl (fun a w_ hF hB_ => r_loadn ag29 (hF.ev rfl) ((hSd.ext hB_).box_rd (i := 3) rfl) sz29) ?_
    refine todo_mk hl_ rfl (by kernel_rfl) rfl rfl rfl rfl rfl (fun a w_ hF => r_call3 en10 (hF.ev rfl) (hF.ev rfl) (hF.ev rfl)) (fun w_ hS => specStartOp_c (stateK_of (hS.own_rd (i := 0) rfl) (hS.own_rd (i := 1) rfl) (hS.own_rd (i := 2) rfl)) hgx.wf (by have := hgx.sz; omega) hp0) ?_; rintro vs67
    refine todo_pure hl_ (by kernel_rfl) rfl (gw0 rfl) rfl rfl rfl (fun a w_ hF => r_move (hF.ev rfl)) ?_
    refine todo_pure hl_ (by kernel_rfl) rfl (gw0 rfl) rfl rfl rfl (fun a w_ hF => r_extract (hF.ev rfl) rfl) ?_
    refine todo_pure hl_ (by kernel_rfl) rfl (gw0 rfl) rfl rfl rfl (fun a w_ hF => r_extract (hF.ev rfl) rfl) ?_
    refine todo_fin hl_ rfl (by kernel_rfl) (tl := [_, _]) rfl ?_; intro a w21 hF hA_
    obtain ⟨g4, hS, he_0⟩ := hA_.open1; clear hA_
    replace hF := hF.more he_0; clear he_0
    clear hl_; try clear hSd
    try dsimp only [List.cons_append, List.nil_append, List.set] at hS
    try clear wd
    refine ww 0 hF hS rfl rfl rfl rfl rfl rfl fun w22 hS => ?_
    refine ga 1 hF rfl fun a hF => ?_
    refine wl_nil ⟨rfl, ?_⟩
    refine hK19 _ _ ?_
    refine wp_region_lit ?_
    refine gb 1 0 hF hS rfl rfl rfl fun a hF => ?_
    refine ww 5 hF hS rfl rfl rfl rfl rfl rfl fun w23 hS => ?_
    refine wl_nil ?_
    refine xt ?_
    refine hK12 _ _ ?_
    refine rl hF rfl fun a hF => ?_
    refine xt ?_
    refine ⟨(k + 1, _, _), ⟨(by first | exact good_start hgx h66 | exact good_all hgx), (by first | (rw [start_len]; exact hpn) | (rw [all_len]; exact hpn)), by dsimp only; omega⟩, (Sep.headp (A := [_, _, _, _, _, _, _, _]) (B := [_, _, _, _]) hS [5, 1, 6, 7] (by decide) rfl rfl), (((((((hF.nil.keep hF (t := 7) rfl).keep hF (t := 6) rfl).keep hF (t := 5) rfl).keep hF (t := 4) rfl).keep hF (t := 1) rfl).keep hF (t := 0) rfl).keepE hF (t := 8) rfl (wk (by omega))), by dsimp only; omega⟩
   ·
    refine op_ld rfl rfl (gw0 rfl) rfl rfl rfl (fun a w_ hF hS => r_loadn ag29 (hF.ev rfl) (hS.box_rd (i := 3) rfl) sz29) ?_
    refine todo_fork [(6, [7, 8, 9, 10, 12, 13])] hl_ rfl (by kernel_rfl) (List.forall_mem_cons.2 ⟨?_, fun _ h_ => nomatch h_⟩)
    ·
     refine op_dw (m' := [12, 13]) (val := fun o : Sl.Op => .agg o.enc.toArray) (R := fun o : Sl.Op => o.wf) rfl rfl (gw0 rfl) rfl rfl rfl rfl (fun a w_ hF => r_call4 en103 (hF.ev rfl) (hF.ev rfl) (hF.ev rfl) (hF.ev rfl)) (fun M_ w_ hS => l18Op_c hbs (q := 5) (s := x) (by omega) (fun w_ hS => hS.own_rd (i := 3) rfl) hpn hS rfl) ?_; intro o66 h66; try clear hSd; try clear wd; intro wd hSd
     refine todo_mk hl_ rfl (by kernel_rfl) rfl rfl rfl rfl rfl (fun a w_ hF => r_call3 en10 (hF.ev rfl) (hF.ev rfl) (hF.ev rfl)) (fun w_ hS => specStartOp_c (stateK_of (hS.own_rd (i := 0) rfl) (hS.own_rd (i := 1) rfl) (hS.own_rd (i := 2) rfl)) hgx.wf (by have := hgx.sz; omega) hp0) ?_; rintro vs67
     refine todo_pure hl_ (by kernel_rfl) rfl (gw0 rfl) rfl rfl rfl (fun a w_ hF => r_move (hF.ev rfl)) ?_
     refine todo_pure hl_ (by kernel_rfl) rfl (gw0 rfl) rfl rfl rfl (fun a w_ hF => r_extract (hF.ev rfl) rfl) ?_
     refine todo_pure hl_ (by kernel_rfl) rfl (gw0 rfl) rfl rfl rfl (fun a w_ hF => r_extract (hF.ev rfl) rfl) ?_
     refine todo_fin hl_ rfl (by kernel_rfl) (tl := [_, _]) rfl ?_; intro a w24 hF hA_
     obtain ⟨g4, hS, he_0⟩ := hA_.open1; clear hA_
     replace hF := hF.more he_0; clear he_0
     clear hl_; try clear hSd
     try dsimp only [List.cons_append, List.nil_append, List.set] at hS
     try clear wd
     refine ww 0 hF hS rfl rfl rfl rfl rfl rfl fun w25 hS => ?_
     refine ga 1 hF rfl fun a hF => ?_
     refine wl_nil ⟨rfl, ?_⟩
     refine hK19 _ _ ?_
     refine wp_region_lit ?_
     refine gb 1 0 hF hS rfl rfl rfl fun a hF => ?_
     refine ww 5 hF hS rfl rfl rfl rfl rfl rfl fun w26 hS => ?_
     refine wl_nil ?_
     refine xt ?_
     refine hK12 _ _ ?_
     refine rl hF rfl fun a hF => ?_
     refine xt ?_
     refine ⟨(k + 1, _, _), ⟨(by first | exact good_start hgx h66 | exact good_all hgx), (by first | (rw [start_len]; exact hpn) | (rw [all_len]; exact hpn)), by dsimp only; omega⟩, (Sep.headp (A := [_, _, _, _, _, _, _, _]) (B := [_, _, _, _]) hS [5, 1, 6, 7] (by decide) rfl rfl), (((((((hF.nil.keep hF (t := 7) rfl).keep hF (t := 6) rfl).keep hF (t := 5) rfl).keep hF (t := 4) rfl).keep hF (t := 1) rfl).keep hF (t := 0) rfl).keepE hF (t := 8) rfl (wk (by omega))), by dsimp only; omega⟩
  refine ws fun K20 hK20 => ?_
  refine gb 2 3 hF hS rfl rfl rfl fun a hF => ?_
  refine wl_mk hF hS rfl rfl rfl (r_call2 en25 (hF.ev rfl) (hF.ev rfl)) (specStep_c (stateK_of (hS.own_rd (i := 0) rfl) (hS.own_rd (i := 1) rfl) (hS.own_rd (i := 2) rfl)) hgx.wf (by have := hgx.sz; omega) hp0) ?_; rintro vs74 w27 a hS_ hF; replace hS := hS_; clear hS_; dsimp only [List.cons_append, List.nil_append] at hS
  refine ga 3 hF rfl fun a hF => ?_
  refine wl_alloc hF hS rfl zr29 fun g5 w28 a hS _ hF => ?_
  refine ww 0 hF hS rfl rfl rfl rfl rfl rfl fun w29 hS => ?_
  refine ge hK20 hF rfl fun a hF => ?_
  refine wp_region_lit ?_
  refine gb 1 0 hF hS rfl rfl rfl fun a hF => ?_
  refine ww 5 hF hS rfl rfl rfl rfl rfl rfl fun w30 hS => ?_
  refine wl_nil ?_
  refine xt ?_
  refine hK12 _ _ ?_
  refine rl hF rfl fun a hF => ?_
  refine xt ?_
  refine ⟨(k + 1, _, _), ⟨(by first | exact good_start hgx h66 | exact good_all hgx), (by first | (rw [start_len]; exact hpn) | (rw [all_len]; exact hpn)), by dsimp only; omega⟩, (Sep.headp (A := [_, _, _, _, _, _, _, _]) (B := [_, _, _, _]) hS [5, 1, 6, 7] (by decide) rfl rfl), (((((((hF.nil.keep hF (t := 7) rfl).keep hF (t := 6) rfl).keep hF (t := 5) rfl).keep hF (t := 4) rfl).keep hF (t := 1) rfl).keep hF (t := 0) rfl).keepE hF (t := 8) rfl (wk (by omega))), by dsimp only; omega⟩
 refine wp_exit ?_
 refine xt ?_
 refine hK8 _ _ ?_
 refine wp_seq_k fun K21 hK21 => ?_
 refine wp_region_todo (is := [1, 2, 4, 3, 0, 5, 6, 7, 8, 10, 11]) [(9, 13, [.int .i64 0, .int .i64 0, .int .i64 0, .int .i64 0, .int .i64 0, .int .i64 0, .slice none 0 0, .slice none 0 0, .slice none 0 0, .int .i64 0, .int .i64 0, .int .i64 0, .int .i64 0])] [3, 10, 11] (by kernel_rfl) hF hS ⟨⟨⟨_, _, _, rfl, zr29⟩, trivial⟩, by decide, by decide, by decide⟩ (by kernel_rfl) ?_; intro hl_ wd hSd
 refine todo_pure hl_ (by kernel_rfl) rfl (gw0 rfl) rfl rfl rfl (fun a w_ hF => r_move (hF.ev rfl)) ?_
 refine todo_pure hl_ (by kernel_rfl) rfl (gw0 rfl) rfl rfl rfl (fun a w_ hF => r_move (hF.ev rfl)) ?_
 refine todo_pure hl_ (by kernel_rfl) rfl (gw0 rfl) rfl rfl rfl (fun a w_ hF => r_move (hF.ev rfl)) ?_
 refine todo_fork [(3, [0, 5, 6, 7, 8, 10, 11]), (0, [3, 5, 6, 7, 8, 10, 11])] hl_ rfl (by kernel_rfl) (List.forall_mem_cons.2 ⟨?_, List.forall_mem_cons.2 ⟨?_, fun _ h_ => nomatch h_⟩⟩)
 ·
  refine op_dw (m' := [10, 11]) (val := fun x : Int => vi x) (R := fun x => 0 ≤ x ∧ (x < 4 ∨ (4 ≤ 0 ∧ x = 0))) rfl rfl (gw0 rfl) rfl rfl rfl rfl (fun a w_ hF => r_call2 en83 (hF.ev rfl) ec) (fun M_ w_ hS => l1Below_c hbs (q := 3) _ hS rfl) ?_; intro x82 h82; try clear hSd; try clear wd; intro wd hSd
  refine todo_load [5, 6, 7, 8, 10, 11] hl_ (by kernel_rfl) rfl (gw0 rfl) rfl rfl rfl (fun a w_ hF hB_ => r_loadn ag29 (hF.ev rfl) ((hSd.ext hB_).box_rd (i := 0) rfl) sz29) ?_
  refine todo_mk hl_ rfl (by kernel_rfl) rfl rfl rfl rfl rfl (fun a w_ hF => r_call4 en104 (hF.ev rfl) (hF.ev rfl) (hF.ev rfl) (hF.ev rfl)) (fun w_ hS => l18Skip_c (hS.part_k (i := 1) rfl) hgx hp0 (by omega)) ?_; rintro ⟨⟨x84, vs84, k84⟩, hg84⟩
  refine todo_pure hl_ (by kernel_rfl) rfl (gw0 rfl) rfl rfl rfl (fun a w_ hF => r_move (hF.ev rfl)) ?_
  refine todo_pure hl_ (by kernel_rfl) rfl (gw0 rfl) rfl rfl rfl (fun a w_ hF => r_extract (hF.ev rfl) rfl) ?_
  refine todo_pure hl_ (by kernel_rfl) rfl (gw0 rfl) rfl rfl rfl (fun a w_ hF => r_extract (hF.ev rfl) rfl) ?_
  refine todo_fin hl_ rfl (by kernel_rfl) (tl := [_, _]) rfl ?_; intro a w31 hF hA_
  obtain ⟨g6, hS, he_0⟩ := hA_.open1; clear hA_
  replace hF := hF.more he_0; clear he_0
  clear hl_; try clear hSd
  try dsimp only [List.cons_append, List.nil_append, List.set] at hS
  try clear wd
  refine ww 0 hF hS rfl rfl rfl rfl rfl rfl fun w32 hS => ?_
  refine ga 1 hF rfl fun a hF => ?_
  refine wl_nil ⟨rfl, ?_⟩
  refine hK21 _ _ ?_
  refine ws fun K22 hK22 => ?_
  refine gb 2 0 hF hS rfl rfl rfl fun a hF => ?_
  refine ww 5 hF hS rfl rfl rfl rfl rfl rfl fun w33 hS => ?_
  refine ge hK22 hF rfl fun a hF => ?_
  refine wp_ret ?_
  refine xt ?_
  exact ret2c rfl ag29 hF hS (i := 5) rfl sz29 rfl rfl ⟨(x84, vs84, (p : Int)), ⟨rfl, Good.drawn hg84, hp0⟩, (Sep.headp (A := [_, _, _, _, _, _]) (B := [_, _]) hS [1, 4] (by decide) rfl rfl)⟩
 ·
  refine op_ld rfl rfl (gw0 rfl) rfl rfl rfl (fun a w_ hF hS => r_loadn ag29 (hF.ev rfl) (hS.box_rd (i := 0) rfl) sz29) ?_
  refine todo_fork [(3, [5, 6, 7, 8, 10, 11])] hl_ rfl (by kernel_rfl) (List.forall_mem_cons.2 ⟨?_, fun _ h_ => nomatch h_⟩)
  ·
   refine op_dw (m' := [10, 11]) (val := fun x : Int => vi x) (R := fun x => 0 ≤ x ∧ (x < 4 ∨ (4 ≤ 0 ∧ x = 0))) rfl rfl (gw0 rfl) rfl rfl rfl rfl (fun a w_ hF => r_call2 en83 (hF.ev rfl) ec) (fun M_ w_ hS => l1Below_c hbs (q := 3) _ hS rfl) ?_; intro x82 h82; try clear hSd; try clear wd; intro wd hSd
   refine todo_mk hl_ rfl (by kernel_rfl) rfl rfl rfl rfl rfl (fun a w_ hF => r_call4 en104 (hF.ev rfl) (hF.ev rfl) (hF.ev rfl) (hF.ev rfl)) (fun w_ hS => l18Skip_c (hS.part_k (i := 1) rfl) hgx hp0 (by omega)) ?_; rintro ⟨⟨x84, vs84, k84⟩, hg84⟩
   refine todo_pure hl_ (by kernel_rfl) rfl (gw0 rfl) rfl rfl rfl (fun a w_ hF => r_move (hF.ev rfl)) ?_
   refine todo_pure hl_ (by kernel_rfl) rfl (gw0 rfl) rfl rfl rfl (fun a w_ hF => r_extract (hF.ev rfl) rfl) ?_
   refine todo_pure hl_ (by kernel_rfl) rfl (gw0 rfl) rfl rfl rfl (fun a w_ hF => r_extract (hF.ev rfl) rfl) ?_
   refine todo_fin hl_ rfl (by kernel_rfl) (tl := [_, _]) rfl ?_; intro a w34 hF hA_
   obtain ⟨g6, hS, he_0⟩ := hA_.open1; clear hA_
   replace hF := hF.more he_0; clear he_0
   clear hl_; try clear hSd
   try dsimp only [List.cons_append, List.nil_append, List.set] at hS
   try clear wd
   refine ww 0 hF hS rfl rfl rfl rfl rfl rfl fun w35 hS => ?_
   refine ga 1 hF rfl fun a hF => ?_
   refine wl_nil ⟨rfl, ?_⟩
   refine hK21 _ _ ?_
   refine ws fun K23 hK23 => ?_
   refine gb 2 0 hF hS rfl rfl rfl fun a hF => ?_
   refine ww 5 hF hS rfl rfl rfl rfl rfl rfl fun w36 hS => ?_
   refine ge hK23 hF rfl fun a hF => ?_
   refine wp_ret ?_
   refine xt ?_
   exact ret2c rfl ag29 hF hS (i := 5) rfl sz29 rfl rfl ⟨(x84, vs84, (p : Int)), ⟨rfl, Good.drawn hg84, hp0⟩, (Sep.headp (A := [_, _, _, _, _, _]) (B := [_, _]) hS [1, 4] (by decide) rfl rfl)⟩
end Go.Proofs.YtgofolgogfmhgaaGreat.Wk
namespace Go.Proofs.YtgofolgogfmhgaaGreat.Wk
open Go Go.RowKit Sl
set_option linter.unusedVariables false
set_option linter.unusedSimpArgs false
set_option maxRecDepth 20000
section
variable {P : Program} {a : Act} {w w0 : World} {n : Nat} {L : List (Nat × Value)} {l : List Res}
end
end Go.Proofs.YtgofolgogfmhgaaGreat.Wk
namespace Go.Proofs.YtgofolgogfmhgaaGreat.Wk
open Go Go.RowKit Sl
end Go.Proofs.YtgofolgogfmhgaaGreat.Wk
namespace Go.Proofs.YtgofolgogfmhgaaGreat.Wk
open Go Go.RowKit Sl
set_option linter.unusedVariables false
set_option linter.unusedSimpArgs false
set_option maxRecDepth 20000
theorem drawStepReclaim_c {W : World} {vb : Value} {bs : List Int} (hb : byteEK.Rd W vb bs) (hz : bs.length ≤ 1048576) : Calls Tryz.prog 21 #[vb] W (Ret (Mk W (fun z : {z : Sl.State × List Slv × Int // Drawn z.1 ∧ int64 z.2.2} => .tuple #[.agg (stateEK.cells z.1.1 z.1.2.1).toArray, vi z.1.2.2]) (fun z => [Part stateEK z.1.1 z.1.2.1]))) := by
 refine calls_fr Tryz.func21 rfl Tryz.ntmps21 rfl ?_
 intro a hF
 have hS := Sep.refl W
 refine ws fun K1 hK1 => ?_
 refine wl_alloc hF hS rfl zr29 fun g1 w1 a hS _ hF => ?_
 refine ge hK1 hF rfl fun a hF => ?_
 refine ws fun K2 hK2 => ?_
 refine ga 1 hF rfl fun a hF => ?_
 refine wl_mk hF hS rfl rfl rfl (r_call1 en53 (hF.ev rfl)) (l1New_c (hS.rd hb) (by omega)) ?_; rintro g8 w2 a hS_ hF; replace hS := hS_; clear hS_; dsimp only [List.cons_append, List.nil_append] at hS
 have hbs := hb
 refine ge hK2 hF rfl fun a hF => ?_
 refine ws fun K3 hK3 => ?_
 refine ga 1 hF rfl fun a hF => ?_
 refine ck hF rfl (l18At_h hbs hS) ?_; rintro v w3 a ⟨⟨x11, vs11, p11⟩, ⟨rfl, hg11, hp11⟩, hS⟩ hF
 try dsimp only at hz11
 refine ga 3 hF rfl fun a hF => ?_
 refine wl_alloc hF hS rfl zr29 fun g2 w4 a hS _ hF => ?_
 refine ww 0 hF hS rfl rfl rfl rfl rfl rfl fun w5 hS => ?_
 refine ge hK3 hF rfl fun a hF => ?_
 refine ws fun K4 hK4 => ?_
 refine gb 2 0 hF hS rfl rfl rfl fun a hF => ?_
 refine ww 3 hF hS rfl rfl rfl rfl rfl rfl fun w6 hS => ?_
 refine ge hK4 hF rfl fun a hF => ?_
 refine wp_ret ?_
 refine xt ?_
 exact ret2c rfl ag29 hF hS (i := 3) rfl sz29 rfl rfl ⟨⟨(x11, vs11, _), hg11, hp11⟩, rfl, hS.pick [1] (by decide) rfl⟩
theorem drawSplitLimbo_c {W : World} {vb : Value} {bs : List Int} (hb : byteEK.Rd W vb bs) (hz : bs.length ≤ 1048576) : Calls Tryz.prog 17 #[vb] W (Ret (Mk W (fun z : {z : (List Int × Slv) × (List Int × Slv) // ((∀ x ∈ z.1.1, int64 x) ∧ z.1.1.length ≤ 10) ∧ ((∀ x ∈ z.2.1, int64 x) ∧ z.2.1.length ≤ 10)} => .tuple #[sv z.1.1.2, sv z.1.2.2]) (fun z => [Own intEK (sv z.1.1.2) z.1.1.1, Own intEK (sv z.1.2.2) z.1.2.1]))) := by
 refine calls_fr Tryz.func17 rfl Tryz.ntmps17 rfl ?_
 intro a hF
 have hS := Sep.refl W
 refine rg hF rfl fun a hF => ?_
 refine ws fun K2 hK2 => ?_
 refine ga 1 hF rfl fun a hF => ?_
 refine wl_mk hF hS rfl rfl rfl (r_call1 en53 (hF.ev rfl)) (l1New_c (hS.rd hb) (by omega)) ?_; rintro g7 w1 a hS_ hF; replace hS := hS_; clear hS_; dsimp only [List.cons_append, List.nil_append] at hS
 have hbs := hb
 refine ge hK2 hF rfl fun a hF => ?_
 refine ws fun K3 hK3 => ?_
 refine ga 1 hF rfl fun a hF => ?_
 refine ck hF rfl (l6Stamps_h hbs hS) ?_; rintro v w2 a ⟨⟨xs9, q9⟩, ⟨rfl, hx9, hn9⟩, hS⟩ hF
 try dsimp only at hz9
 refine ge hK3 hF rfl fun a hF => ?_
 refine ws fun K4 hK4 => ?_
 refine ga 2 hF rfl fun a hF => ?_
 replace hS := hS.pull (p := 1) rfl; dsimp only [List.eraseIdx] at hS
 refine ck hF rfl (l6Stamps_h hbs hS) ?_; rintro v w3 a ⟨⟨xs12, q12⟩, ⟨rfl, hx12, hn12⟩, hS⟩ hF
 try dsimp only at hz12
 refine ge hK4 hF rfl fun a hF => ?_
 refine wp_ret ?_
 refine xt ?_
 exact ret2 rfl hF rfl rfl ⟨⟨((xs9, q9), (xs12, q12)), ⟨hx9, hn9⟩, ⟨hx12, hn12⟩⟩, rfl, hS.pick [2, 0] (by decide) rfl⟩
end Go.Proofs.YtgofolgogfmhgaaGreat.Wk
namespace Go.Proofs.YtgofolgogfmhgaaGreat.Wk
open Go Go.RowKit Sl
set_option linter.unusedVariables false
set_option linter.unusedSimpArgs false
set_option maxRecDepth 20000
section
variable {x y : Entry}
theorem entry_ext (h : [x.handle, x.key, x.low, x.high] = [y.handle, y.key, y.low, y.high]) : x = y := by
 cases x; cases y; simpa using h
end
theorem op_ext {x y : Sl.Op} (h : [x.kind, x.key, x.value] = [y.kind, y.key, y.value]) : x = y := by
 cases x; cases y; simpa using h
theorem result_ext {x y : Sl.Result} (h : [x.code, x.value] = [y.code, y.value]) : x = y := by
 cases x; cases y; simpa using h
theorem config_ext {x y : Config} (h : [x.threads, x.keys, x.capacity, x.batch, x.policy, x.clockMax] = [y.threads, y.keys, y.capacity, y.batch, y.policy, y.clockMax]) : x = y := by
 cases x; cases y; simpa using h
theorem thread_eq {x y : Sl.Thread} : x = y ↔ (x.pc = y.pc ∧ [x.op.kind, x.op.key, x.op.value] = [y.op.kind, y.op.key, y.op.value] ∧ [x.result.code, x.result.value] = [y.result.code, y.result.value] ∧ x.snapshot = y.snapshot ∧ x.node = y.node ∧ x.prev = y.prev ∧ x.curr = y.curr ∧ x.next = y.next ∧ x.seen = y.seen ∧ x.stamp = y.stamp ∧ x.at_ = y.at_) ∧ x.found = y.found ∧ x.free = y.free ∧ x.buffer = y.buffer ∧ x.work = y.work ∧ x.limbo = y.limbo := by
 constructor
 · intro e; subst e; simp
 · rintro ⟨⟨h1, h2, h3, h4, h5, h6, h7, h8, h9, h10, h11⟩, g1, g2, g3, g4, g5⟩
   have e1 := op_ext h2
   have e2 := result_ext h3
   cases x; cases y
   simp only [Sl.Thread.mk.injEq]
   exact ⟨h1, e1, e2, h4, h5, h6, h7, h8, h9, h10, h11, g1, g2, g3, g4, g5⟩
theorem state_eq {x y : Sl.State} : x = y ↔ [x.config.threads, x.config.keys, x.config.capacity, x.config.batch, x.config.policy, x.config.clockMax] = [y.config.threads, y.config.keys, y.config.capacity, y.config.batch, y.config.policy, y.config.clockMax] ∧ x.cells = y.cells ∧ x.generations = y.generations ∧ x.steps = y.steps ∧ x.changes = y.changes ∧ x.retries = y.retries ∧ x.faults = y.faults ∧ x.threads = y.threads := by
 constructor
 · intro e; subst e; simp
 · rintro ⟨h1, h2, h3, h4, h5, h6, h7, h8⟩
   have e1 := config_ext h1
   cases x; cases y
   simp only [Sl.State.mk.injEq]
   exact ⟨e1, h2, h3, h8, h4, h5, h6, h7⟩
theorem equalI_c {W : World} {va vb : Value} {xs ys : List Int} (ha : intEK.Rd W va xs) (hb : intEK.Rd W vb ys) : Calls Tryz.prog 51 #[va, vb] W (Ret fun v w' => v = .bool (decide (xs = ys)) ∧ Below W.heap.size W w') := by
 refine calls_fr Tryz.func51 rfl Tryz.ntmps51 rfl ?_
 intro a hF
 obtain ⟨A_a, q_a, rfl, hq_a, hn_a⟩ := ha.sl; unfold maxLen at hn_a
 obtain ⟨A_b, q_b, rfl, hq_b, hn_b⟩ := hb.sl; unfold maxLen at hn_b
 have hS := Sep.refl W
 refine rg hF rfl fun a hF => ?_
 refine wp_seq_k fun K2 hK2 => ?_
 refine rg hF rfl fun a hF => ?_
 refine cx 10 hF rfl (fun c10 hF => ?_) fun c10 hF => ?_
 ·
  refine rg hF rfl fun a hF => ?_
  refine wp_ret ?_
  refine xt ?_
  refine ret1 rfl hF rfl ⟨?_, hS.old⟩
  first | exact eq_len c10 | exact eq_at hx hy c24 | exact eq_all htk hk hlen (by omega)
 refine wp_skip ?_
 refine hK2 _ _ ?_
 refine wp_seq_k fun K5 hK5 => ?_
 refine rg hF rfl fun a hF => ?_
 refine wp_block ?_
 have hL_ := ((((hF.nil.keep hF (t := 12) rfl).keep hF (t := 4) rfl).keep hF (t := 1) rfl).keep hF (t := 0) rfl)
 refine wp_loop_r (σ := Nat) (fun k L_ => (13, vi k) :: L_) (fun k => (k ≤ xs.length) ∧ (xs.length = ys.length) ∧ (xs.take k = ys.take k)) (fun k => xs.length - k) 0 hS (hL_.keepE hF (t := 13) rfl rfl) ?_ ?_
 · exact ⟨Nat.zero_le _, by omega, rfl⟩
 rintro k a w1 ⟨hk, hlen, htk⟩ hS hF; try dsimp only at hF; try dsimp only at hS
 refine rg hF rfl fun a hF => ?_
 refine wp_seq_k fun K8 hK8 => ?_
 refine cx 14 hF rfl (fun c14 hF => ?_) fun c14 hF => ?_
 ·
  have hlt : k < xs.length := by omega
  have hx := at0_nat hlt
  have hy := at0_nat (xs := ys) (k := k) (by omega)
  refine wp_skip ?_
  refine hK8 _ _ ?_
  refine wp_seq_k fun K9 hK9 => ?_
  refine wp_block ?_
  refine rg hF rfl fun a hF => ?_
  refine wp_seq_k fun K11 hK11 => ?_
  refine wp_region_calm (by kernel_rfl) (by kernel_rfl) ?_
  refine qa 2 hF tk rfl fun a hF => ?_
  obtain ⟨g18, o18, m18, q18, hv18, hm18, hl18, hc18⟩ := Rd.atF (ha) (a := a) (X := .tmp 17) (hF.ev rfl) (by omega) (by omega)
  refine wq hF rfl rfl rfl (fun w_ hB_ => r_index sl26 ((hF.ev rfl).trans hv18) (hF.ev rfl) (by omega) (by first | omega | (simp at hm18; omega))) fun a hF => ?_
  refine wq hF rfl rfl rfl (fun w_ hB_ => r_load1 sc3 (hF.ev rfl) (cellB (hS.ext hB_).old (hc18 0 _ rfl))) fun a hF => ?_
  refine qa 2 hF tk rfl fun a hF => ?_
  obtain ⟨g22, o22, m22, q22, hv22, hm22, hl22, hc22⟩ := Rd.atF (hb) (a := a) (X := .tmp 21) (hF.ev rfl) (by omega) (by omega)
  refine wq hF rfl rfl rfl (fun w_ hB_ => r_index sl26 ((hF.ev rfl).trans hv22) (hF.ev rfl) (by omega) (by first | omega | (simp at hm22; omega))) fun a hF => ?_
  refine wq hF rfl rfl rfl (fun w_ hB_ => r_load1 sc3 (hF.ev rfl) (cellB (hS.ext hB_).old (hc22 0 _ rfl))) fun a hF => ?_
  refine qa 1 hF tk rfl fun a hF => ?_
  refine wpQuiet_nil ?_; intro w2 hB_; have hS := hS.ext hB_
  refine hK11 _ _ ?_
  refine cx 24 hF rfl (fun c24 hF => ?_) fun c24 hF => ?_
  ·
   refine rg hF rfl fun a hF => ?_
   refine wp_ret ?_
   refine xt ?_
   refine ret1 rfl hF rfl ⟨?_, hS.old⟩
   first | exact eq_len c10 | exact eq_at hx hy c24 | exact eq_all htk hk hlen (by omega)
  refine wp_skip ?_
  refine xt ?_
  refine hK9 _ _ ?_
  refine rl hF rfl fun a hF => ?_
  refine xt ?_
  refine ⟨k + 1, ⟨by omega, hlen, take_next htk hx hy c24⟩, hS, (((((hF.nil.keep hF (t := 12) rfl).keep hF (t := 4) rfl).keep hF (t := 1) rfl).keep hF (t := 0) rfl).keepE hF (t := 13) rfl (wk (by omega))), by omega⟩
 refine wp_exit ?_
 refine xt ?_
 refine hK5 _ _ ?_
 refine rg hF rfl fun a hF => ?_
 refine wp_ret ?_
 refine xt ?_
 refine ret1 rfl hF rfl ⟨?_, hS.old⟩
 first | exact eq_len c10 | exact eq_at hx hy c24 | exact eq_all htk hk hlen (by omega)
theorem equalN_c {W : World} {va vb : Value} {xs ys : List Entry} (ha : entryEK.Rd W va xs) (hb : entryEK.Rd W vb ys) : Calls Tryz.prog 81 #[va, vb] W (Ret fun v w' => v = .bool (decide (xs = ys)) ∧ Below W.heap.size W w') := by
 refine calls_fr Tryz.func81 rfl Tryz.ntmps81 rfl ?_
 intro a hF
 obtain ⟨A_a, q_a, rfl, hq_a, hn_a⟩ := ha.sl; unfold maxLen at hn_a
 obtain ⟨A_b, q_b, rfl, hq_b, hn_b⟩ := hb.sl; unfold maxLen at hn_b
 have hS := Sep.refl W
 refine rg hF rfl fun a hF => ?_
 refine wp_seq_k fun K2 hK2 => ?_
 refine rg hF rfl fun a hF => ?_
 refine cx 10 hF rfl (fun c10 hF => ?_) fun c10 hF => ?_
 ·
  refine rg hF rfl fun a hF => ?_
  refine wp_ret ?_
  refine xt ?_
  refine ret1 rfl hF rfl ⟨?_, hS.old⟩
  first | exact eq_len c10 | exact eq_at hx hy c24 | exact eq_all htk hk hlen (by omega)
 refine wp_skip ?_
 refine hK2 _ _ ?_
 refine wp_seq_k fun K5 hK5 => ?_
 refine rg hF rfl fun a hF => ?_
 refine wp_block ?_
 have hL_ := ((((hF.nil.keep hF (t := 12) rfl).keep hF (t := 4) rfl).keep hF (t := 1) rfl).keep hF (t := 0) rfl)
 refine wp_loop_r (σ := Nat) (fun k L_ => (13, vi k) :: L_) (fun k => (k ≤ xs.length) ∧ (xs.length = ys.length) ∧ (xs.take k = ys.take k)) (fun k => xs.length - k) 0 hS (hL_.keepE hF (t := 13) rfl rfl) ?_ ?_
 · exact ⟨Nat.zero_le _, by omega, rfl⟩
 rintro k a w1 ⟨hk, hlen, htk⟩ hS hF; try dsimp only at hF; try dsimp only at hS
 refine rg hF rfl fun a hF => ?_
 refine wp_seq_k fun K8 hK8 => ?_
 refine cx 14 hF rfl (fun c14 hF => ?_) fun c14 hF => ?_
 ·
  have hlt : k < xs.length := by omega
  have hx := at0_nat hlt
  have hy := at0_nat (xs := ys) (k := k) (by omega)
  refine wp_skip ?_
  refine hK8 _ _ ?_
  refine wp_seq_k fun K9 hK9 => ?_
  refine wp_block ?_
  refine rg hF rfl fun a hF => ?_
  refine wp_seq_k fun K11 hK11 => ?_
  refine wp_region_calm (by kernel_rfl) (by kernel_rfl) ?_
  refine qa 2 hF tk rfl fun a hF => ?_
  obtain ⟨g18, o18, m18, q18, hv18, hm18, hl18, hc18⟩ := Rd.atF (ha) (a := a) (X := .tmp 17) (hF.ev rfl) (by omega) (by omega)
  refine wq hF rfl rfl rfl (fun w_ hB_ => r_index sl40 ((hF.ev rfl).trans hv18) (hF.ev rfl) (by omega) (by first | omega | (simp at hm18; omega))) fun a hF => ?_
  refine wq hF rfl rfl rfl (fun w_ hB_ => r_loadn ag83 (hF.ev rfl) (fun j_ u_ hu_ => cellB (hS.ext hB_).old (hc18 j_ u_ hu_)) sz83) fun a hF => ?_
  refine qa 2 hF tk rfl fun a hF => ?_
  obtain ⟨g22, o22, m22, q22, hv22, hm22, hl22, hc22⟩ := Rd.atF (hb) (a := a) (X := .tmp 21) (hF.ev rfl) (by omega) (by omega)
  refine wq hF rfl rfl rfl (fun w_ hB_ => r_index sl40 ((hF.ev rfl).trans hv22) (hF.ev rfl) (by omega) (by first | omega | (simp at hm22; omega))) fun a hF => ?_
  refine wq hF rfl rfl rfl (fun w_ hB_ => r_loadn ag83 (hF.ev rfl) (fun j_ u_ hu_ => cellB (hS.ext hB_).old (hc22 j_ u_ hu_)) sz83) fun a hF => ?_
  refine wq hF rfl rfl rfl (fun w_ hB_ => r_neqF [_, _, _, _] [_, _, _, _] fl83 ag83 eg83 rfl rfl ((hF.ev rfl).trans rfl) ((hF.ev rfl).trans rfl)) fun a hF => ?_
  refine wpQuiet_nil ?_; intro w2 hB_; have hS := hS.ext hB_
  refine hK11 _ _ ?_
  refine cx 24 hF rfl (fun c24 hF => ?_) fun c24 hF => ?_
  ·
   have c24 : ¬ at0 xs (k : Int) = at0 ys (k : Int) := fun e => c24 (by rw [e])
   refine rg hF rfl fun a hF => ?_
   refine wp_ret ?_
   refine xt ?_
   refine ret1 rfl hF rfl ⟨?_, hS.old⟩
   first | exact eq_len c10 | exact eq_at hx hy c24 | exact eq_all htk hk hlen (by omega)
  replace c24 := entry_ext c24
  refine wp_skip ?_
  refine xt ?_
  refine hK9 _ _ ?_
  refine rl hF rfl fun a hF => ?_
  refine xt ?_
  refine ⟨k + 1, ⟨by omega, hlen, take_next htk hx hy c24⟩, hS, (((((hF.nil.keep hF (t := 12) rfl).keep hF (t := 4) rfl).keep hF (t := 1) rfl).keep hF (t := 0) rfl).keepE hF (t := 13) rfl (wk (by omega))), by omega⟩
 refine wp_exit ?_
 refine xt ?_
 refine hK5 _ _ ?_
 refine rg hF rfl fun a hF => ?_
 refine wp_ret ?_
 refine xt ?_
 refine ret1 rfl hF rfl ⟨?_, hS.old⟩
 first | exact eq_len c10 | exact eq_at hx hy c24 | exact eq_all htk hk hlen (by omega)
theorem implEqThread_c {W : World} {x y : Sl.Thread} {cs ds : List Value} (hx : threadEK.K W x cs) (hy : threadEK.K W y ds) : Calls Tryz.prog 33 #[.agg cs.toArray, .agg ds.toArray] W (Ret fun v w' => v = .bool (decide (x = y)) ∧ Below W.heap.size W w') := by
 refine calls_fr Tryz.func33 rfl Tryz.ntmps33 rfl ?_
 intro a hF
 obtain ⟨v0, v1, v2, v3, v4, rfl, r0, r1, r2, r3, r4⟩ := hx
 obtain ⟨u0, u1, u2, u3, u4, rfl, q0, q1, q2, q3, q4⟩ := hy
 have hS := Sep.refl W
 refine ws fun K1 hK1 => ?_
 refine wl_box (cs := [_, _, _, _, _, _, _, _, _, _, _, _, _, _, _, _, _, _, _]) hF hS rfl (hF.ev rfl) rfl fun g1 w1 a hS _ hF => ?_
 refine wl_box (cs := [_, _, _, _, _, _, _, _, _, _, _, _, _, _, _, _, _, _, _]) hF hS rfl (hF.ev rfl) rfl fun g2 w2 a hS _ hF => ?_
 refine ge hK1 hF rfl fun a hF => ?_
 refine wp_seq_k fun K2 hK2 => ?_
 refine ws fun K3 hK3 => ?_
 refine gb 3 1 hF hS rfl rfl rfl fun a hF => ?_
 refine gb 1 0 hF hS rfl rfl rfl fun a hF => ?_
 refine ckr hF hS rfl (equalI_c (hS.rd r0) (hS.rd q0)) fun w3 a hS hF => ?_
 refine ga 2 hF rfl fun a hF => ?_
 apply wo 7 11 18 hF hS
 ·
  intro hg11 a hF
  refine gb 3 1 hF hS rfl rfl rfl fun a hF => ?_
  refine wl_take hF rfl rfl rfl rfl ?_
  refine gb 1 0 hF hS rfl rfl rfl fun a hF => ?_
  refine ckr hF hS rfl (equalI_c (hS.rd r1) (hS.rd q1)) fun w4 a hS hF => ?_
  exact je 7 hF hS rfl rfl rfl rfl
 intro a w5 hF hS
 refine ga 1 hF rfl fun a hF => ?_
 apply wo 7 19 26 hF hS
 ·
  intro hg19 a hF
  refine gb 3 1 hF hS rfl rfl rfl fun a hF => ?_
  refine wl_take hF rfl rfl rfl rfl ?_
  refine gb 1 0 hF hS rfl rfl rfl fun a hF => ?_
  refine ckr hF hS rfl (equalN_c (hS.rd r2) (hS.rd q2)) fun w6 a hS hF => ?_
  exact je 7 hF hS rfl rfl rfl rfl
 intro a w7 hF hS
 refine ga 1 hF rfl fun a hF => ?_
 apply wo 7 27 34 hF hS
 ·
  intro hg27 a hF
  refine gb 3 1 hF hS rfl rfl rfl fun a hF => ?_
  refine wl_take hF rfl rfl rfl rfl ?_
  refine gb 1 0 hF hS rfl rfl rfl fun a hF => ?_
  refine ckr hF hS rfl (equalN_c (hS.rd r3) (hS.rd q3)) fun w8 a hS hF => ?_
  exact je 7 hF hS rfl rfl rfl rfl
 intro a w9 hF hS
 refine ga 1 hF rfl fun a hF => ?_
 apply wo 7 35 42 hF hS
 ·
  intro hg35 a hF
  refine gb 3 1 hF hS rfl rfl rfl fun a hF => ?_
  refine wl_take hF rfl rfl rfl rfl ?_
  refine gb 1 0 hF hS rfl rfl rfl fun a hF => ?_
  refine ckr hF hS rfl (equalI_c (hS.rd r4) (hS.rd q4)) fun w10 a hS hF => ?_
  exact je 7 hF hS rfl rfl rfl rfl
 intro a w11 hF hS
 refine wl_nil (hK3 _ _ ?_)
 refine cx 42 hF rfl (fun c42 hF => ?_) fun c42 hF => ?_
 ·
  refine rg hF rfl fun a hF => ?_
  refine wp_ret ?_
  refine xt ?_
  refine ret1 rfl hF rfl ⟨congrArg Value.bool (Eq.symm ?_), hS.old⟩
  first
    | exact decide_eq_false fun e => by subst e; simp at c42
    | (rw [Bool.eq_iff_iff]; simp only [zb3, zb4, zb7, and_assoc] at c42 ⊢; rw [thread_eq]; exact ⟨fun h => h.1, fun h => ⟨h, c42⟩⟩)
 refine wp_skip ?_
 refine hK2 _ _ ?_
 refine ws fun K5 hK5 => ?_
 refine gb 3 1 hF hS rfl rfl rfl fun a hF => ?_
 refine gb 3 0 hF hS rfl rfl rfl fun a hF => ?_
 apply wa 6 48 54 hF hS
 ·
  intro hg48 a hF
  refine ga 1 hF rfl fun a hF => ?_
  refine wl_take hF rfl rfl rfl rfl ?_
  refine wl hF rfl rfl rfl (r_loadn ag31 (hF.ev rfl) (hS.boxn (vs := [_, _, _]) (i := 1) (m := 3) rfl rfl) sz31) fun a hF => ?_
  refine ga 1 hF rfl fun a hF => ?_
  refine wl_take hF rfl rfl rfl rfl ?_
  refine wl hF rfl rfl rfl (r_loadn ag31 (hF.ev rfl) (hS.boxn (vs := [_, _, _]) (i := 0) (m := 3) rfl rfl) sz31) fun a hF => ?_
  refine wl_take hF rfl rfl rfl rfl ?_
  refine wl hF rfl rfl rfl (r_eqlF [_, _, _] [_, _, _] fl31 ag31 eg31 rfl rfl ((hF.ev rfl).trans rfl) ((hF.ev rfl).trans rfl)) fun a hF => ?_
  exact je 6 hF hS rfl rfl rfl rfl
 intro a w12 hF hS
 refine ga 1 hF rfl fun a hF => ?_
 apply wa 6 55 61 hF hS
 ·
  intro hg55 a hF
  refine ga 1 hF rfl fun a hF => ?_
  refine wl_take hF rfl rfl rfl rfl ?_
  refine wl hF rfl rfl rfl (r_loadn ag39 (hF.ev rfl) (hS.boxn (vs := [_, _]) (i := 1) (m := 2) rfl rfl) sz39) fun a hF => ?_
  refine ga 1 hF rfl fun a hF => ?_
  refine wl_take hF rfl rfl rfl rfl ?_
  refine wl hF rfl rfl rfl (r_loadn ag39 (hF.ev rfl) (hS.boxn (vs := [_, _]) (i := 0) (m := 2) rfl rfl) sz39) fun a hF => ?_
  refine wl_take hF rfl rfl rfl rfl ?_
  refine wl hF rfl rfl rfl (r_eqlF [_, _] [_, _] fl39 ag39 eg39 rfl rfl ((hF.ev rfl).trans rfl) ((hF.ev rfl).trans rfl)) fun a hF => ?_
  exact je 6 hF hS rfl rfl rfl rfl
 intro a w13 hF hS
 refine ga 1 hF rfl fun a hF => ?_
 apply wa 6 62 68 hF hS
 ·
  intro hg62 a hF
  refine gb 3 1 hF hS rfl rfl rfl fun a hF => ?_
  refine wl_take hF rfl rfl rfl rfl ?_
  exact jf 6 0 hF hS rfl rfl rfl rfl rfl rfl
 intro a w14 hF hS
 refine ga 1 hF rfl fun a hF => ?_
 apply wa 6 69 75 hF hS
 ·
  intro hg69 a hF
  refine gb 3 1 hF hS rfl rfl rfl fun a hF => ?_
  refine wl_take hF rfl rfl rfl rfl ?_
  exact jf 6 0 hF hS rfl rfl rfl rfl rfl rfl
 intro a w15 hF hS
 refine ga 1 hF rfl fun a hF => ?_
 apply wa 6 76 82 hF hS
 ·
  intro hg76 a hF
  refine gb 3 1 hF hS rfl rfl rfl fun a hF => ?_
  refine wl_take hF rfl rfl rfl rfl ?_
  exact jf 6 0 hF hS rfl rfl rfl rfl rfl rfl
 intro a w16 hF hS
 refine ga 1 hF rfl fun a hF => ?_
 apply wa 6 83 89 hF hS
 ·
  intro hg83 a hF
  refine gb 3 1 hF hS rfl rfl rfl fun a hF => ?_
  refine wl_take hF rfl rfl rfl rfl ?_
  exact jf 6 0 hF hS rfl rfl rfl rfl rfl rfl
 intro a w17 hF hS
 refine ga 1 hF rfl fun a hF => ?_
 apply wa 6 90 96 hF hS
 ·
  intro hg90 a hF
  refine gb 3 1 hF hS rfl rfl rfl fun a hF => ?_
  refine wl_take hF rfl rfl rfl rfl ?_
  exact jf 6 0 hF hS rfl rfl rfl rfl rfl rfl
 intro a w18 hF hS
 refine ga 1 hF rfl fun a hF => ?_
 apply wa 6 97 103 hF hS
 ·
  intro hg97 a hF
  refine gb 3 1 hF hS rfl rfl rfl fun a hF => ?_
  refine wl_take hF rfl rfl rfl rfl ?_
  exact jf 6 0 hF hS rfl rfl rfl rfl rfl rfl
 intro a w19 hF hS
 refine ga 1 hF rfl fun a hF => ?_
 apply wa 6 104 110 hF hS
 ·
  intro hg104 a hF
  refine gb 3 1 hF hS rfl rfl rfl fun a hF => ?_
  refine wl_take hF rfl rfl rfl rfl ?_
  exact jf 6 0 hF hS rfl rfl rfl rfl rfl rfl
 intro a w20 hF hS
 refine ga 1 hF rfl fun a hF => ?_
 apply wa 6 111 117 hF hS
 ·
  intro hg111 a hF
  refine gb 3 1 hF hS rfl rfl rfl fun a hF => ?_
  refine wl_take hF rfl rfl rfl rfl ?_
  exact jf 6 0 hF hS rfl rfl rfl rfl rfl rfl
 intro a w21 hF hS
 refine ge hK5 hF rfl fun a hF => ?_
 refine wp_ret ?_
 refine xt ?_
 refine ret1 rfl hF rfl ⟨congrArg Value.bool (Eq.symm ?_), hS.old⟩
 first
   | exact decide_eq_false fun e => by subst e; simp at c42
   | (rw [Bool.eq_iff_iff]; simp only [zb3, zb4, zb7, and_assoc] at c42 ⊢; rw [thread_eq]; exact ⟨fun h => h.1, fun h => ⟨h, c42⟩⟩)
theorem equalFuncT_c {W : World} {va vb : Value} {xs ys : List Sl.Thread} (ha : threadEK.Rd W va xs) (hb : threadEK.Rd W vb ys) : Calls Tryz.prog 52 #[va, vb, .func (.func 33) #[] #[]] W (Ret fun v w' => v = .bool (decide (xs = ys)) ∧ Below W.heap.size W w') := by
 refine calls_fr Tryz.func52 rfl Tryz.ntmps52 rfl ?_
 intro a hF
 obtain ⟨A_a, q_a, rfl, hq_a, hn_a⟩ := ha.sl; unfold maxLen at hn_a
 obtain ⟨A_b, q_b, rfl, hq_b, hn_b⟩ := hb.sl; unfold maxLen at hn_b
 have hS := Sep.refl W
 refine rg hF rfl fun a hF => ?_
 refine wp_seq_k fun K2 hK2 => ?_
 refine rg hF rfl fun a hF => ?_
 refine cx 14 hF rfl (fun c14 hF => ?_) fun c14 hF => ?_
 ·
  refine rg hF rfl fun a hF => ?_
  refine wp_ret ?_
  refine xt ?_
  refine ret1 rfl hF rfl ⟨?_, hS.old⟩
  first | exact eq_len c14 | exact eq_at hx hy c30 | exact eq_all htk hk hlen (by omega)
 refine wp_skip ?_
 refine hK2 _ _ ?_
 refine wp_seq_k fun K5 hK5 => ?_
 refine rg hF rfl fun a hF => ?_
 refine wp_block ?_
 have hL_ := (((((hF.nil.keep hF (t := 16) rfl).keep hF (t := 15) rfl).keep hF (t := 6) rfl).keep hF (t := 2) rfl).keep hF (t := 1) rfl)
 refine wp_loop_r (σ := Nat) (fun k L_ => (17, vi k) :: L_) (fun k => (k ≤ xs.length) ∧ (xs.length = ys.length) ∧ (xs.take k = ys.take k)) (fun k => xs.length - k) 0 hS (hL_.keepE hF (t := 17) rfl rfl) ?_ ?_
 · exact ⟨Nat.zero_le _, by omega, rfl⟩
 rintro k a w1 ⟨hk, hlen, htk⟩ hS hF; try dsimp only at hF; try dsimp only at hS
 refine rg hF rfl fun a hF => ?_
 refine wp_seq_k fun K8 hK8 => ?_
 refine cx 18 hF rfl (fun c18 hF => ?_) fun c18 hF => ?_
 ·
  have hlt : k < xs.length := by omega
  have hx := at0_nat hlt
  have hy := at0_nat (xs := ys) (k := k) (by omega)
  refine wp_skip ?_
  refine hK8 _ _ ?_
  refine wp_seq_k fun K9 hK9 => ?_
  refine wp_block ?_
  refine ws fun K10 hK10 => ?_
  refine ga 1 hF rfl fun a hF => ?_
  obtain ⟨g20, o20, m20, q20, cs20, hv20, hm20, hl20, hk20, hz20, hc20⟩ := Rd.at (ha) (a := a) (X := .tmp 17) (hF.ev rfl) (by omega) (by omega)
  have hkk20 := hk20; obtain ⟨v20_0, v20_1, v20_2, v20_3, v20_4, rfl, r20_0, r20_1, r20_2, r20_3, r20_4⟩ := hk20
  obtain ⟨A20_0, q20_0, rfl, hq20_0, hn20_0⟩ := r20_0.sl; unfold maxLen at hn20_0
  obtain ⟨A20_1, q20_1, rfl, hq20_1, hn20_1⟩ := r20_1.sl; unfold maxLen at hn20_1
  obtain ⟨A20_2, q20_2, rfl, hq20_2, hn20_2⟩ := r20_2.sl; unfold maxLen at hn20_2
  obtain ⟨A20_3, q20_3, rfl, hq20_3, hn20_3⟩ := r20_3.sl; unfold maxLen at hn20_3
  obtain ⟨A20_4, q20_4, rfl, hq20_4, hn20_4⟩ := r20_4.sl; unfold maxLen at hn20_4
  refine wl hF rfl rfl rfl (r_index sl27 ((hF.ev rfl).trans hv20) (hF.ev rfl) (by omega) (by first | omega | (simp at hm20; omega))) fun a hF => ?_
  refine wl hF rfl rfl rfl (r_loadn ag42 (hF.ev rfl) (fun j_ u_ hu_ => cellB hS.old (hc20 j_ u_ hu_)) sz42) fun a hF => ?_
  refine wl_alloc hF hS rfl zr42 fun g1 w2 a hS _ hF => ?_
  refine ga 1 hF rfl fun a hF => ?_
  refine ww 0 hF hS rfl rfl rfl rfl rfl rfl fun w3 hS => ?_
  refine wl_nil (hK10 _ _ ?_)
  refine ws fun K11 hK11 => ?_
  refine ga 2 hF rfl fun a hF => ?_
  obtain ⟨g24, o24, m24, q24, cs24, hv24, hm24, hl24, hk24, hz24, hc24⟩ := Rd.at (hb) (a := a) (X := .tmp 23) (hF.ev rfl) (by omega) (by omega)
  have hkk24 := hk24; obtain ⟨v24_0, v24_1, v24_2, v24_3, v24_4, rfl, r24_0, r24_1, r24_2, r24_3, r24_4⟩ := hk24
  obtain ⟨A24_0, q24_0, rfl, hq24_0, hn24_0⟩ := r24_0.sl; unfold maxLen at hn24_0
  obtain ⟨A24_1, q24_1, rfl, hq24_1, hn24_1⟩ := r24_1.sl; unfold maxLen at hn24_1
  obtain ⟨A24_2, q24_2, rfl, hq24_2, hn24_2⟩ := r24_2.sl; unfold maxLen at hn24_2
  obtain ⟨A24_3, q24_3, rfl, hq24_3, hn24_3⟩ := r24_3.sl; unfold maxLen at hn24_3
  obtain ⟨A24_4, q24_4, rfl, hq24_4, hn24_4⟩ := r24_4.sl; unfold maxLen at hn24_4
  refine wl hF rfl rfl rfl (r_index sl27 ((hF.ev rfl).trans hv24) (hF.ev rfl) (by omega) (by first | omega | (simp at hm24; omega))) fun a hF => ?_
  refine wl hF rfl rfl rfl (r_loadn ag42 (hF.ev rfl) (fun j_ u_ hu_ => cellB hS.old (hc24 j_ u_ hu_)) sz42) fun a hF => ?_
  refine wl_alloc hF hS rfl zr42 fun g2 w4 a hS _ hF => ?_
  refine ww 0 hF hS rfl rfl rfl rfl rfl rfl fun w5 hS => ?_
  refine wl_nil (hK11 _ _ ?_)
  refine ws fun K12 hK12 => ?_
  refine gb 2 1 hF hS rfl rfl rfl fun a hF => ?_
  refine gb 1 0 hF hS rfl rfl rfl fun a hF => ?_
  refine wl_call hF rfl rfl rfl (r_callw2 en33 (hF.ev rfl) (hF.ev rfl) (hF.ev rfl)) (implEqThread_c (hS.k hkk20) (hS.k hkk24)) ?_; rintro v w6 a ⟨rfl, hB_⟩ hF; have hS := hS.ext hB_
  refine ge hK12 hF rfl fun a hF => ?_
  refine cx 30 hF rfl (fun c30 hF => ?_) fun c30 hF => ?_
  ·
   refine rg hF rfl fun a hF => ?_
   refine wp_ret ?_
   refine xt ?_
   refine ret1 rfl hF rfl ⟨?_, hS.old⟩
   first | exact eq_len c14 | exact eq_at hx hy c30 | exact eq_all htk hk hlen (by omega)
  refine wp_skip ?_
  refine xt ?_
  refine hK9 _ _ ?_
  refine rl hF rfl fun a hF => ?_
  refine xt ?_
  refine ⟨k + 1, ⟨by omega, hlen, take_next htk hx hy c30⟩, (hS.pick [] (by decide) rfl), ((((((hF.nil.keep hF (t := 16) rfl).keep hF (t := 15) rfl).keep hF (t := 6) rfl).keep hF (t := 2) rfl).keep hF (t := 1) rfl).keepE hF (t := 17) rfl (wk (by omega))), by omega⟩
 refine wp_exit ?_
 refine xt ?_
 refine hK5 _ _ ?_
 refine rg hF rfl fun a hF => ?_
 refine wp_ret ?_
 refine xt ?_
 refine ret1 rfl hF rfl ⟨?_, hS.old⟩
 first | exact eq_len c14 | exact eq_at hx hy c30 | exact eq_all htk hk hlen (by omega)
theorem implEqState_c {W : World} {x y : Sl.State} {cs ds : List Value} (hx : stateEK.K W x cs) (hy : stateEK.K W y ds) : Calls Tryz.prog 12 #[.agg cs.toArray, .agg ds.toArray] W (Ret fun v w' => v = .bool (decide (x = y)) ∧ Below W.heap.size W w') := by
 refine calls_fr Tryz.func12 rfl Tryz.ntmps12 rfl ?_
 intro a hF
 obtain ⟨v0, v1, v2, rfl, r0, r1, r2⟩ := hx
 obtain ⟨u0, u1, u2, rfl, q0, q1, q2⟩ := hy
 obtain ⟨A_a, q_a, rfl, hq_a, hn_a⟩ := r0.sl; unfold maxLen at hn_a
 obtain ⟨A_b, q_b, rfl, hq_b, hn_b⟩ := r1.sl; unfold maxLen at hn_b
 obtain ⟨A_c, q_c, rfl, hq_c, hn_c⟩ := r2.sl; unfold maxLen at hn_c
 obtain ⟨A_d, q_d, rfl, hq_d, hn_d⟩ := q0.sl; unfold maxLen at hn_d
 obtain ⟨A_e, q_e, rfl, hq_e, hn_e⟩ := q1.sl; unfold maxLen at hn_e
 obtain ⟨A_f, q_f, rfl, hq_f, hn_f⟩ := q2.sl; unfold maxLen at hn_f
 have hS := Sep.refl W
 refine ws fun K1 hK1 => ?_
 refine wl_box (cs := [_, _, _, _, _, _, _, _, _, _, _, _, _]) hF hS rfl (hF.ev rfl) rfl fun g1 w1 a hS _ hF => ?_
 refine wl_box (cs := [_, _, _, _, _, _, _, _, _, _, _, _, _]) hF hS rfl (hF.ev rfl) rfl fun g2 w2 a hS _ hF => ?_
 refine ge hK1 hF rfl fun a hF => ?_
 refine ws fun K2 hK2 => ?_
 refine ga 1 hF rfl fun a hF => ?_
 refine wl hF rfl rfl rfl (r_loadn ag25 (hF.ev rfl) (hS.boxn (vs := [_, _, _, _, _, _]) (i := 1) (m := 6) rfl rfl) sz25) fun a hF => ?_
 refine ga 1 hF rfl fun a hF => ?_
 refine wl hF rfl rfl rfl (r_loadn ag25 (hF.ev rfl) (hS.boxn (vs := [_, _, _, _, _, _]) (i := 0) (m := 6) rfl rfl) sz25) fun a hF => ?_
 refine wl hF rfl rfl rfl (r_eqlF [_, _, _, _, _, _] [_, _, _, _, _, _] fl25 ag25 eg25 rfl rfl ((hF.ev rfl).trans rfl) ((hF.ev rfl).trans rfl)) fun a hF => ?_
 refine ga 1 hF rfl fun a hF => ?_
 apply wa 6 10 16 hF hS
 ·
  intro hg10 a hF
  refine gb 3 1 hF hS rfl rfl rfl fun a hF => ?_
  refine wl_take hF rfl rfl rfl rfl ?_
  refine gb 1 0 hF hS rfl rfl rfl fun a hF => ?_
  refine ckr hF hS rfl (equalI_c (hS.rd r0) (hS.rd q0)) fun w3 a hS hF => ?_
  exact je 6 hF hS rfl rfl rfl rfl
 intro a w4 hF hS
 refine ga 1 hF rfl fun a hF => ?_
 apply wa 6 17 23 hF hS
 ·
  intro hg17 a hF
  refine gb 3 1 hF hS rfl rfl rfl fun a hF => ?_
  refine wl_take hF rfl rfl rfl rfl ?_
  refine gb 1 0 hF hS rfl rfl rfl fun a hF => ?_
  refine ckr hF hS rfl (equalI_c (hS.rd r1) (hS.rd q1)) fun w5 a hS hF => ?_
  exact je 6 hF hS rfl rfl rfl rfl
 intro a w6 hF hS
 refine ga 1 hF rfl fun a hF => ?_
 apply wa 6 24 30 hF hS
 ·
  intro hg24 a hF
  refine gb 3 1 hF hS rfl rfl rfl fun a hF => ?_
  refine wl_take hF rfl rfl rfl rfl ?_
  refine gb 1 0 hF hS rfl rfl rfl fun a hF => ?_
  refine wl_take hF rfl rfl rfl rfl ?_
  refine wl_call hF rfl rfl rfl (r_call3 en52 (hF.ev rfl) (hF.ev rfl) ef) (equalFuncT_c (hS.rd r2) (hS.rd q2)) ?_; rintro v w7 a ⟨rfl, hB_⟩ hF; have hS := hS.ext hB_
  exact je 6 hF hS rfl rfl rfl rfl
 intro a w8 hF hS
 refine ga 1 hF rfl fun a hF => ?_
 apply wa 6 31 37 hF hS
 ·
  intro hg31 a hF
  refine gb 3 1 hF hS rfl rfl rfl fun a hF => ?_
  refine wl_take hF rfl rfl rfl rfl ?_
  exact jf 6 0 hF hS rfl rfl rfl rfl rfl rfl
 intro a w9 hF hS
 refine ga 1 hF rfl fun a hF => ?_
 apply wa 6 38 44 hF hS
 ·
  intro hg38 a hF
  refine gb 3 1 hF hS rfl rfl rfl fun a hF => ?_
  refine wl_take hF rfl rfl rfl rfl ?_
  exact jf 6 0 hF hS rfl rfl rfl rfl rfl rfl
 intro a w10 hF hS
 refine ga 1 hF rfl fun a hF => ?_
 apply wa 6 45 51 hF hS
 ·
  intro hg45 a hF
  refine gb 3 1 hF hS rfl rfl rfl fun a hF => ?_
  refine wl_take hF rfl rfl rfl rfl ?_
  exact jf 6 0 hF hS rfl rfl rfl rfl rfl rfl
 intro a w11 hF hS
 refine ga 1 hF rfl fun a hF => ?_
 apply wa 6 52 58 hF hS
 ·
  intro hg52 a hF
  refine gb 3 1 hF hS rfl rfl rfl fun a hF => ?_
  refine wl_take hF rfl rfl rfl rfl ?_
  exact jf 6 0 hF hS rfl rfl rfl rfl rfl rfl
 intro a w12 hF hS
 refine ge hK2 hF rfl fun a hF => ?_
 refine wp_ret ?_
 refine xt ?_
 refine ret1 rfl hF rfl ⟨congrArg Value.bool (Eq.symm ?_), hS.old⟩
 rw [Bool.eq_iff_iff]; simp only [zb3, zb4, zb7, and_assoc]; rw [state_eq]
 exact ⟨fun ⟨h1, h2, h3, h4, h5, h6, h7, h8⟩ => ⟨h1, h2, h3, h8, h4, h5, h6, h7⟩, fun ⟨h1, h2, h3, h8, h4, h5, h6, h7⟩ => ⟨h1, h2, h3, h4, h5, h6, h7, h8⟩⟩
theorem big_c {W : World} {vb : Value} {bs : List Int} (hb : byteEK.Rd W vb bs) : Calls Tryz.prog 7 #[vb] W (Ret fun v w' => v = .bool (decide (1048576 < bs.length)) ∧ Below W.heap.size W w') := by
 refine calls_fr Tryz.func7 rfl Tryz.ntmps7 rfl ?_
 intro a hF
 have hS := Sep.refl W
 obtain ⟨A_b, q_b, rfl, hq_b, hn_b⟩ := hb.sl; unfold maxLen at hn_b
 refine rg hF rfl fun a hF => ?_
 refine rg hF rfl fun a hF => ?_
 refine wp_ret ?_
 refine xt ?_
 refine ret1 rfl hF rfl ⟨congrArg Value.bool (decide_eq_decide.2 (by omega)), hS.old⟩
theorem sameInts_c {W : World} {va vb : Value} {xs ys : List Int} (ha : intEK.Rd W va xs) (hb : intEK.Rd W vb ys) : Calls Tryz.prog 15 #[va, vb] W (Ret fun v w' => v = .bool (decide (xs = ys)) ∧ Below W.heap.size W w') := by
 refine calls_fr Tryz.func15 rfl Tryz.ntmps15 rfl ?_
 intro a hF
 obtain ⟨A_a, q_a, rfl, hq_a, hn_a⟩ := ha.sl; unfold maxLen at hn_a
 obtain ⟨A_b, q_b, rfl, hq_b, hn_b⟩ := hb.sl; unfold maxLen at hn_b
 have hS := Sep.refl W
 refine rg hF rfl fun a hF => ?_
 refine wp_seq_k fun K2 hK2 => ?_
 refine rg hF rfl fun a hF => ?_
 first | refine wc_dec (hF.ev rfl) (fun c10 => ?_) (fun c10 => ?_) | refine wc_ndec (hF.ev rfl) (fun c10 => ?_) (fun c10 => ?_) | refine wc_b (hF.ev rfl) (fun c10 => ?_) (fun c10 => ?_)
 ·
  refine rg hF rfl fun a hF => ?_
  refine wp_ret ?_
  refine xt ?_
  refine ret1 rfl hF rfl ⟨?_, hS.old⟩
  first | exact eq_len c10 | exact eq_at hx hy c25 | exact eq_all htk hk hlen (by omega)
 refine wp_skip ?_
 refine hK2 _ _ ?_
 refine wp_seq_k fun K5 hK5 => ?_
 refine rg hF rfl fun a hF => ?_
 refine wp_block ?_
 refine wp_loop_g (σ := Nat) (fun k a w => k ≤ xs.length ∧ xs.length = ys.length ∧ xs.take k = ys.take k ∧ Sep W [] w ∧ Fr 26 [(5, vi k), (0, .slice A_a xs.length q_a), (1, .slice A_b ys.length q_b)] a) (fun k => xs.length - k) 0 ?_ ?_
 · exact ⟨Nat.zero_le _, by omega, rfl, hS, (((hF.nil.keep hF (t := 1) rfl).keep hF (t := 0) rfl).keep hF (t := 5) rfl)⟩
 rintro k a w ⟨hk, hlen, htk, hS, hF⟩
 refine wp_seq_k fun K7 hK7 => ?_
 refine rg hF rfl fun a hF => ?_
 first | refine wc_dec (hF.ev rfl) (fun c14 => ?_) (fun c14 => ?_) | refine wc_ndec (hF.ev rfl) (fun c14 => ?_) (fun c14 => ?_) | refine wc_b (hF.ev rfl) (fun c14 => ?_) (fun c14 => ?_)
 ·
  have hlt : k < xs.length := by omega
  obtain ⟨x, hx⟩ : ∃ x, xs[k]? = some x := ⟨_, List.getElem?_eq_getElem hlt⟩
  obtain ⟨y, hy⟩ : ∃ y, ys[k]? = some y := ⟨_, List.getElem?_eq_getElem (by omega)⟩
  refine wp_skip ?_
  refine hK7 _ _ ?_
  refine wp_seq_k fun K9 hK9 => ?_
  refine wp_block ?_
  refine wp_seq_k fun K10 hK10 => ?_
  refine wp_region_calm (by kernel_rfl) (by kernel_rfl) ?_
  refine qa 2 hF tk rfl fun a hF => ?_
  obtain ⟨g19, o19, m19, q19, hv19, hm19, hl19, hc19⟩ := Rd.idxF (hS.rd ha) hx
  refine wq hF rfl rfl rfl (fun w_ hB_ => r_index sl26 ((hF.ev rfl).trans hv19) (hF.ev rfl) (by omega) (by omega)) fun a hF => ?_
  refine wq hF rfl rfl rfl (fun w_ hB_ => r_load1 sc3 (hF.ev rfl) (cellB hB_ (hc19 0 _ rfl))) fun a hF => ?_
  refine qa 2 hF tk rfl fun a hF => ?_
  obtain ⟨g23, o23, m23, q23, hv23, hm23, hl23, hc23⟩ := Rd.idxF (hS.rd hb) hy
  refine wq hF rfl rfl rfl (fun w_ hB_ => r_index sl26 ((hF.ev rfl).trans hv23) (hF.ev rfl) (by omega) (by omega)) fun a hF => ?_
  refine wq hF rfl rfl rfl (fun w_ hB_ => r_load1 sc3 (hF.ev rfl) (cellB hB_ (hc23 0 _ rfl))) fun a hF => ?_
  refine qa 1 hF tk rfl fun a hF => ?_
  refine wpQuiet_nil ?_; intro w1 hB_; have hS := hS.ext hB_
  refine hK10 _ _ ?_
  first | refine wc_dec (hF.ev rfl) (fun c25 => ?_) (fun c25 => ?_) | refine wc_ndec (hF.ev rfl) (fun c25 => ?_) (fun c25 => ?_) | refine wc_b (hF.ev rfl) (fun c25 => ?_) (fun c25 => ?_)
  ·
   refine rg hF rfl fun a hF => ?_
   refine wp_ret ?_
   refine xt ?_
   refine ret1 rfl hF rfl ⟨?_, hS.old⟩
   first | exact eq_len c10 | exact eq_at hx hy c25 | exact eq_all htk hk hlen (by omega)
  refine wp_skip ?_
  refine xt ?_
  refine hK9 _ _ ?_
  refine rl hF rfl fun a hF => ?_
  refine xt ?_
  exact ⟨k + 1, ⟨by omega, hlen, take_next htk hx hy c25, hS, (((hF.nil.keep hF (t := 1) rfl).keep hF (t := 0) rfl).keepE hF (t := 5) rfl (wk (by omega)))⟩, by omega⟩
 refine wp_exit ?_
 refine xt ?_
 refine hK5 _ _ ?_
 refine rg hF rfl fun a hF => ?_
 refine wp_ret ?_
 refine xt ?_
 refine ret1 rfl hF rfl ⟨?_, hS.old⟩
 first | exact eq_len c10 | exact eq_at hx hy c25 | exact eq_all htk hk hlen (by omega)
end Go.Proofs.YtgofolgogfmhgaaGreat.Wk
namespace Go.Proofs.YtgofolgogfmhgaaGreat.Wk
open Go Go.RowKit Sl
set_option linter.unusedVariables false
set_option linter.unusedSimpArgs false
set_option maxRecDepth 20000
theorem reclaim1_c {W : World} {n : Int} : Calls Tryz.prog 59 #[vi n] W (Ret fun v w' => v = .bool (isC n) ∧ Below W.heap.size W w') := by
 refine calls_fr Tryz.func59 rfl Tryz.ntmps59 rfl ?_
 intro a hF
 have hS := Sep.refl W
 refine rg hF rfl fun a hF => ?_
 refine rg hF rfl fun a hF => ?_
 refine wp_ret ?_
 refine xt ?_
 exact ret1 rfl hF rfl ⟨rfl, hS.old⟩
theorem stpReclaim_c {W w : World} {l : List Res} {g gt ot mt ct p : Nat} {z0 z1 : Slv} {s : Sl.State} {t : Sl.Thread} (hp : p < s.threads.length) (hf : Fit s t) (hS : Sep W (Box g ((s).encv (sv z0) (sv z1) (.slice (some ⟨gt, ot, none⟩) mt ct)) :: Own intEK (sv z0) (s).cells :: Own intEK (sv z1) (s).generations :: Own threadEK (.slice (some ⟨gt, ot, none⟩) mt ct) (s.threads.set p t) :: l) w) : Calls Tryz.prog 60 #[.agg #[.pointer (some ⟨g, 0, none⟩), .pointer (some ⟨gt, ot + p * 19, none⟩), vi (p : Int)]] w (Ret fun v w' => v = .tuple #[] ∧ Sep W (Box g (((reclaimS s t (p : Int)).1).encv (sv z0) (sv z1) (.slice (some ⟨gt, ot, none⟩) mt ct)) :: Own intEK (sv z0) ((reclaimS s t (p : Int)).1).cells :: Own intEK (sv z1) ((reclaimS s t (p : Int)).1).generations :: Own threadEK (.slice (some ⟨gt, ot, none⟩) mt ct) (s.threads.set p (reclaimS s t (p : Int)).2) :: l) w') := by
 refine calls_fr Tryz.func60 rfl Tryz.ntmps60 rfl ?_
 intro a hF
 have hl0 := hS.own_len (q := 1) rfl
 have hl1 := hS.own_len (q := 2) rfl
 have hmt : mt = s.threads.length := by have := hS.own_len (q := 3) (s := (some ⟨gt, ot, none⟩, mt, ct)) rfl; simpa using this
 have hz1 := hf.sizes; unfold sizesOk at hz1
 refine ws fun K1 hK1 => ?_
 refine wl_box (cs := [_, _, _]) hF hS rfl (hF.ev rfl) rfl fun g1 w1 a hS _ hF => ?_
 refine wl_nil (hK1 _ _ ?_)
 refine rh 0 hF hS rfl rfl rfl fun a hF => ?_
 refine wp_cut (fun a w => Sep W (Box g1 [.pointer (some ⟨g, 0, none⟩), .pointer (some ⟨gt, ot + p * 19, none⟩), vi (p : Int)] :: Box g (s.encv (sv z0) (sv z1) (.slice (some ⟨gt, ot, none⟩) mt ct)) :: Own intEK (sv z0) s.cells :: Own intEK (sv z1) s.generations :: Own threadEK (.slice (some ⟨gt, ot, none⟩) mt ct) (s.threads.set p ({ t with found := (foundN t (scanN s t)) })) :: l) w ∧ Fr 125 [(1, .pointer (some ⟨g1, 0, none⟩)), (2, .pointer (some ⟨gt, ot + p * 19, none⟩))] a) ?_ ?_
 ·
  refine wp_seq_k fun K3 hK3 => ?_
  refine wp_region_calm (by kernel_rfl) (by kernel_rfl) ?_
  refine qb 5 0 hF tk hS rfl rfl rfl fun a hF => ?_
  refine wq hF rfl rfl rfl (fun w_ hB_ => r_loadn ag25 (hF.ev rfl) ((hS.ext hB_).boxn (vs := [_, _, _, _, _, _]) (i := 1) (m := 6) rfl rfl) sz25) fun a hF => ?_
  refine qa 3 hF tk rfl fun a hF => ?_
  refine wq hF rfl rfl rfl (fun w_ hB_ => r_load1 sc3 (hF.ev rfl) ((hS.ext hB_).elt1 (q := 4) (j := 13) hp rfl (fun _ => rfl))) fun a hF => ?_
  refine wq hF rfl rfl rfl (fun w_ hB_ => r_quo (by first | decide | omega) (hF.ev rfl) ec) fun a hF => ?_
  refine qa 3 hF tk rfl fun a hF => ?_
  refine wq hF rfl rfl rfl (fun w_ hB_ => r_load1 sc3 (hF.ev rfl) ((hS.ext hB_).elt1 (q := 4) (j := 13) hp rfl (fun _ => rfl))) fun a hF => ?_
  refine wq hF rfl rfl rfl (fun w_ hB_ => r_rem (by first | decide | omega) (hF.ev rfl) ec) fun a hF => ?_
  refine qk hF rfl (fun w_ hB_ => implHazardCell_c _ _ _) fun a hF => ?_
  refine qk hF rfl (fun w_ hB_ => stpLoad_c (fun j u hu => (hS.ext hB_).box7 (i := 1) rfl j u hu) ((hS.ext hB_).own_rd (i := 2) rfl)) fun a hF => ?_
  refine qa 1 hF tk rfl fun a hF => ?_
  refine wpQuiet_nil ?_; intro w2 hB_; have hS := hS.ext hB_
  refine hK3 _ _ ?_
  refine rg hF rfl fun a hF => ?_
  refine cx 30 hF rfl (fun c30 hF => ?_) fun c30 hF => ?_
  ·
   obtain ⟨A0_, A1_, A2_, A3_, A4_, k0_, k1_, k2_, k3_, k4_, ⟨n0_, n1_, n2_, n3_, n4_⟩, ⟨q0_, q1_, q2_, q3_, q4_⟩, hS_⟩ := Sep.thr_lend (t := t) (Sep.headp (A := [_, _, _, _, _]) (B := [_, _, _, _, _]) hS [4, 0, 1, 2, 3] (by decide) rfl rfl) hp; replace hS := hS_; clear hS_; unfold maxLen at n0_ n1_ n2_ n3_ n4_; try dsimp only at n0_ n1_ n2_ n3_ n4_ q0_ q1_ q2_ q3_ q4_
   dsimp only [Thread.encv] at hS
   refine wp_region_lit ?_
   refine ga 4 hF rfl fun a hF => ?_
   refine wl hF rfl rfl rfl (r_load1 sc26 (hF.ev rfl) (hS.but1 (q := 5) (j := 14) rfl rfl)) fun a hF => ?_
   refine ga 1 hF rfl fun a hF => ?_
   refine wl_bslice intEK [vi (scanN s t)] [scanN s t] rfl hF hS rfl mk26 rfl ⟨rfl, (hF.ev rfl), trivial⟩ rfl rfl rfl rfl fun gl_37 w3 a hS hF => ?_
   refine wl_append (q := 1) hF hS rfl rfl (hS.own_rd (i := 0) rfl) mk26 rfl (hF.ev rfl) (hF.ev rfl) (by simp; omega) (by unfold maxLen; simp; omega) ?_; intro A_38 c_38 w4 a hS_ hF; replace hS := hS_; clear hS_; dsimp only [List.set, List.length_cons, List.length_nil] at hS hF
   refine ga 2 hF rfl fun a hF => ?_
   refine wl_bstore (q := 6) (j := 14) hF hS rfl sz26 (hF.ev rfl) rfl (hF.ev rfl) rfl rfl fun w5 hS => ?_; dsimp only [List.set] at hS
   refine wl_nil ?_
   refine xt ?_
   have e0 : (foundN t (scanN s t)) = t.found ++ [scanN s t] := if_neg c30
   replace hS := Sep.thr_back (t' := { t with found := t.found ++ [scanN s t] }) (y0 := (_, _, _)) (y1 := (_, _, _)) (y2 := (_, _, _)) (y3 := (_, _, _)) (y4 := (_, _, _)) (Sep.headp (A := [_, _, _, _, _, _, _, _, _, _, _]) (B := [_, _, _, _, _, _, _, _, _, _, _]) hS [1, 2, 3, 4, 5, 6, 0, 7, 8, 9, 10] (by decide) rfl rfl) rfl
   rw [e0]
   exact ⟨(Sep.headp (A := [_, _, _, _, _, _]) (B := [_, _, _, _, _]) hS [2, 3, 4, 5, 0] (by decide) rfl rfl), ((hF.nil.keepE hF (t := 2) rfl rfl).keepE hF (t := 1) rfl rfl)⟩
  refine wp_skip ?_
  refine xt ?_
  have e0 : (foundN t (scanN s t)) = t.found := if_pos c30
  rw [e0]
  exact ⟨hS, ((hF.nil.keepE hF (t := 2) rfl rfl).keepE hF (t := 1) rfl rfl)⟩
 rintro a w6 ⟨hS, hF⟩
 refine wp_seq_k fun K5 hK5 => ?_
 refine ws fun K6 hK6 => ?_
 refine ga 3 hF rfl fun a hF => ?_
 refine wl hF rfl rfl rfl (r_load1 sc3 (hF.ev rfl) (hS.elt1 (q := 4) (j := 13) hp rfl (fun _ => rfl))) fun a hF => ?_
 refine ga 3 hF rfl fun a hF => ?_
 refine wl_estore (q := 4) (j := 13) (⟨_, ⟨_, _, _⟩, ⟨_, _⟩, _, _, _, _, _, _, _, _, _, _, _, _, _⟩ : Sl.Thread) hF hS hp rfl sz3 (hF.ev rfl) rfl (hF.ev rfl) rfl (fun _ => rfl) (fun _ => by dsimp only [threadEK, Thread.encv, List.set] <;> rfl) (by intro _; rfl) fun w7 hS => ?_; dsimp only [List.set] at hS
 refine wl_nil (hK6 _ _ ?_)
 refine wp_seq_k fun K7 hK7 => ?_
 refine wp_region_calm (by kernel_rfl) (by kernel_rfl) ?_
 refine qa 3 hF tk rfl fun a hF => ?_
 refine wq hF rfl rfl rfl (fun w_ hB_ => r_load1 sc3 (hF.ev rfl) ((hS.ext hB_).elt1 (q := 4) (j := 13) hp rfl (fun _ => rfl))) fun a hF => ?_
 refine qb 5 0 hF tk hS rfl rfl rfl fun a hF => ?_
 refine qb 3 1 hF tk hS rfl rfl rfl fun a hF => ?_
 refine wpQuiet_nil ?_; intro w8 hB_; have hS := hS.ext hB_
 refine hK7 _ _ ?_
 refine cx 59 hF rfl (fun c59 hF => ?_) fun c59 hF => ?_
 ·
  refine wp_ret ?_
  refine xt ?_
  refine ret0 rfl hF ⟨rfl, ?_⟩
  unfold reclaimS
  rw [if_pos c59]
  exact (Sep.headp (A := [_, _, _, _, _]) (B := [_, _, _, _]) hS [1, 2, 3, 4] (by decide) rfl rfl)
 obtain ⟨A0_, A1_, A2_, A3_, A4_, k0_, k1_, k2_, k3_, k4_, ⟨n0_, n1_, n2_, n3_, n4_⟩, ⟨q0_, q1_, q2_, q3_, q4_⟩, hS_⟩ := Sep.thr_lend (t := { t with found := (foundN t (scanN s t)), at_ := IntKind.i64.wrap (t.at_ + 1) }) (Sep.headp (A := [_, _, _, _, _]) (B := [_, _, _, _, _]) hS [4, 0, 1, 2, 3] (by decide) rfl rfl) hp; replace hS := hS_; clear hS_; unfold maxLen at n0_ n1_ n2_ n3_ n4_; try dsimp only at n0_ n1_ n2_ n3_ n4_ q0_ q1_ q2_ q3_ q4_
 dsimp only [Thread.encv] at hS
 have hgl0 := hf.lg
 refine wp_skip ?_
 refine hK5 _ _ ?_
 refine wp_seq_k fun K8 hK8 => ?_
 refine wp_region_todo (is := [0, 1, 2, 3, 4, 5, 6, 7, 8, 9, 10, 11, 12, 13]) [] [] (by kernel_rfl) hF hS ⟨trivial, by decide, by decide, by decide⟩ (by kernel_rfl) ?_; intro hl_ wd hSd
 refine todo_pure hl_ (by kernel_rfl) rfl (gw0 rfl) rfl rfl rfl (fun a w_ hF => r_move (hF.ev rfl)) ?_
 refine todo_pure hl_ (by kernel_rfl) rfl (gw0 rfl) rfl rfl rfl (fun a w_ hF => r_nilCheck (hF.ev rfl)) ?_
 refine todo_pure hl_ (by kernel_rfl) rfl (gw0 rfl) rfl rfl rfl (fun a w_ hF => r_field fo42_15 (hF.ev rfl)) ?_
 refine todo_load [8, 9, 10, 11, 12, 13] hl_ (by kernel_rfl) rfl (gw0 rfl) rfl rfl rfl (fun a w_ hF hB_ => r_load1 sc26 (hF.ev rfl) ((hSd.ext hB_).but1 (q := 5) (j := 18) rfl rfl)) ?_
 refine todo_pure hl_ (by kernel_rfl) rfl (gw0 rfl) rfl rfl rfl (fun a w_ hF => r_move (hF.ev rfl)) ?_
 refine todo_pure hl_ (by kernel_rfl) rfl (gw0 rfl) rfl rfl rfl (fun a w_ hF => r_nilCheck (hF.ev rfl)) ?_
 refine todo_pure hl_ (by kernel_rfl) rfl (gw0 rfl) rfl rfl rfl (fun a w_ hF => r_field fo42_11 (hF.ev rfl)) ?_
 refine todo_load [8, 9, 10, 11, 12, 13] hl_ (by kernel_rfl) rfl (gw0 rfl) rfl rfl rfl (fun a w_ hF hB_ => r_load1 sc26 (hF.ev rfl) ((hSd.ext hB_).but1 (q := 5) (j := 14) rfl rfl)) ?_
 refine todo_mk hl_ rfl (by kernel_rfl) rfl rfl rfl rfl rfl (fun a w_ hF => r_call2 en18 (hF.ev rfl) (hF.ev rfl)) (fun w_ hS => implSplit_c (hS.own_rd (i := 4) rfl) (hS.own_rd (i := 0) rfl) (by omega)) ?_; rintro ⟨p69, q69⟩
 refine todo_pure hl_ (by kernel_rfl) rfl (gw0 rfl) rfl rfl rfl (fun a w_ hF => r_move (hF.ev rfl)) ?_
 refine todo_pure hl_ (by kernel_rfl) rfl (gw0 rfl) rfl rfl rfl (fun a w_ hF => r_extract (hF.ev rfl) rfl) ?_
 refine todo_pure hl_ (by kernel_rfl) rfl (gw0 rfl) rfl rfl rfl (fun a w_ hF => r_extract (hF.ev rfl) rfl) ?_
 refine todo_pure hl_ (by kernel_rfl) rfl (gw0 rfl) rfl rfl rfl (fun a w_ hF => r_assign (hF.ev rfl)) ?_
 refine todo_pure hl_ (by kernel_rfl) rfl (gw0 rfl) rfl rfl rfl (fun a w_ hF => r_assign (hF.ev rfl)) ?_
 refine todo_fin hl_ rfl (by kernel_rfl) (tl := []) rfl ?_; intro a w9 hF hA_
 have hS := hA_.sep; clear hA_
 clear hl_; try clear hSd
 try dsimp only [List.cons_append, List.nil_append, List.set] at hS
 try clear wd
 refine wl_nil ⟨rfl, ?_⟩
 refine hK8 _ _ ?_
 refine ws fun K9 hK9 => ?_
 refine wl hF rfl rfl rfl (r_move (hF.ev rfl)) fun a hF => ?_
 obtain ⟨⟨Ap, np, cp⟩, rfl⟩ := hS.own_sv (q := 0) rfl; obtain rfl : np = _ := hS.own_len (q := 0) (s := (Ap, np, cp)) rfl
 obtain ⟨⟨Aq, nq, cq⟩, rfl⟩ := hS.own_sv (q := 1) rfl; obtain rfl : nq = _ := hS.own_len (q := 1) (s := (Aq, nq, cq)) rfl
 have hq1 := out_le' t.limbo (foundN t (scanN s t))
 replace hS : Sep W (Own intEK (.slice Ap _ cp) _ :: Own intEK (.slice Aq _ cq) _ :: _) _ := hS
 try dsimp only at hF
 refine ga 3 hF rfl fun a hF => ?_
 refine wl_bstore (q := 7) (j := 18) hF hS rfl sz26 (hF.ev rfl) rfl (hF.ev rfl) rfl rfl fun w10 hS => ?_; dsimp only [List.set] at hS
 refine wl_nil (hK9 _ _ ?_)
 refine wp_seq_k fun K10 hK10 => ?_
 refine rg hF rfl fun a hF => ?_
 refine wp_block ?_
 replace hS := hS.pull (p := 7) rfl; dsimp only [List.eraseIdx] at hS
 replace hS := hS.pull (p := 11) rfl; dsimp only [List.eraseIdx] at hS
 replace hS := hS.pull (p := 5) rfl; dsimp only [List.eraseIdx] at hS
 have hL_ := ((((hF.nil.keep hF (t := 77) rfl).keep hF (t := 76) rfl).keep hF (t := 2) rfl).keep hF (t := 1) rfl)
 refine wp_loop_m (σ := Nat × Slv) (fun z L_ => (78, vi z.1) :: L_) (fun z l_ => (Own intEK (sv z.2) (freeAll s.generations t.free ((splitOut t.limbo (foundN t (scanN s t))).take z.1)).2) :: (Own intEK (sv z1) (freeAll s.generations t.free ((splitOut t.limbo (foundN t (scanN s t))).take z.1)).1) :: (OwnBut threadEK (.slice (some ⟨gt, ot, none⟩) mt ct) (s.threads.set p ({ t with found := (foundN t (scanN s t)), at_ := IntKind.i64.wrap (t.at_ + 1) })) p (Thread.encv ({ t with found := (foundN t (scanN s t)), at_ := IntKind.i64.wrap (t.at_ + 1) }) (.slice A0_ (foundN t (scanN s t)).length k0_) (sv z.2) (.slice A2_ t.buffer.length k2_) (.slice A3_ t.work.length k3_) (.slice Ap (splitIn t.limbo (foundN t (scanN s t))).length cp))) :: l_) (fun z => (z.1 ≤ (splitOut t.limbo (foundN t (scanN s t))).length)) (fun z => (splitOut t.limbo (foundN t (scanN s t))).length - z.1) (0, (A1_, t.free.length, k1_)) (hS) (hL_.keepE hF (t := 78) rfl rfl) ?_ ?_
 · exact Nat.zero_le _
 rintro ⟨k, Af, nf, cf⟩ a w11 hk hS hF; try dsimp only at hF; try dsimp only at hS; try dsimp only at hk
 obtain rfl : nf = _ := hS.own_len (q := 0) (s := (Af, nf, cf)) rfl
 replace hS : Sep W (Own intEK (.slice Af _ cf) _ :: _) _ := hS
 refine rg hF rfl fun a hF => ?_
 refine wp_seq_k fun K13 hK13 => ?_
 refine cx 79 hF rfl (fun c79 hF => ?_) fun c79 hF => ?_
 ·
  have hlt : k < (splitOut t.limbo (foundN t (scanN s t))).length := by omega
  have hx := at0_nat hlt
  have hm_ : at0 (splitOut t.limbo (foundN t (scanN s t))) (k : Int) ∈ splitOut t.limbo (foundN t (scanN s t)) := at0_mem (by omega) (by omega)
  obtain ⟨hh1, hi0, hi1⟩ := hf.nodes hm_
  have hgl := freeAll_len (gs := s.generations) (fr := t.free) (hs := (splitOut t.limbo (foundN t (scanN s t))).take k)
  refine wp_skip ?_
  refine hK13 _ _ ?_
  refine wp_seq_k fun K14 hK14 => ?_
  refine wp_block ?_
  refine ws fun K15 hK15 => ?_
  obtain ⟨g80, o80, m80, q80, hv80, hm80, hl80, hc80⟩ := Rd.atF ((hS.own_rd (i := 4) rfl)) (a := a) (X := .tmp 78) (hF.ev rfl) (by omega) (by omega)
  refine wl hF rfl rfl rfl (r_index sl26 ((hF.ev rfl).trans hv80) (hF.ev rfl) (by omega) (by first | omega | (simp at hm80; omega))) fun a hF => ?_
  refine wl hF rfl rfl rfl (r_load1 sc3 (hF.ev rfl) (hc80 0 _ rfl)) fun a hF => ?_
  refine ge hK15 hF rfl fun a hF => ?_
  refine ws fun K16 hK16 => ?_
  refine ga 1 hF rfl fun a hF => ?_
  refine ckr hF hS rfl (implIndexOf_c hh1) fun w12 a hS hF => ?_
  refine ge hK16 hF rfl fun a hF => ?_
  refine ws fun K17 hK17 => ?_
  refine gb 4 9 hF hS rfl rfl rfl fun a hF => ?_
  refine gb 2 10 hF hS rfl rfl rfl fun a hF => ?_
  obtain ⟨g90, o90, m90, q90, hv90, hm90, hl90, hc90⟩ := Rd.atF ((hS.own_rd (i := 1) rfl)) (a := a) (X := .tmp 89) (hF.ev rfl) (by omega) (by omega)
  refine wl hF rfl rfl rfl (r_index sl26 ((hF.ev rfl).trans hv90) (hF.ev rfl) (by omega) (by first | omega | (simp at hm90; omega))) fun a hF => ?_
  refine wl hF rfl rfl rfl (r_load1 sc3 (hF.ev rfl) (hc90 0 _ rfl)) fun a hF => ?_
  refine ga 2 hF rfl fun a hF => ?_
  apply wa 7 93 100 hF hS
  ·
   intro hg93 a hF
   refine ga 3 hF rfl fun a hF => ?_
   refine wl_take hF rfl rfl rfl rfl ?_
   refine wl hF rfl rfl rfl (r_load1 sc26 (hF.ev rfl) (hS.but1 (q := 2) (j := 15) rfl rfl)) fun a hF => ?_
   exact je 7 hF hS rfl rfl rfl rfl
  intro a w13 hF hS
  refine wl_nil (hK17 _ _ ?_)
  refine cx 100 hF rfl (fun c100 hF => ?_) fun c100 hF => ?_
  ·
   refine ws fun K18 hK18 => ?_
   refine gb 4 9 hF hS rfl rfl rfl fun a hF => ?_
   refine gb 2 10 hF hS rfl rfl rfl fun a hF => ?_
   obtain ⟨g107, o107, m107, q107, hv107, hm107, hl107, hc107⟩ := Rd.atF ((hS.own_rd (i := 1) rfl)) (a := a) (X := .tmp 106) (hF.ev rfl) (by omega) (by omega)
   refine wl hF rfl rfl rfl (r_index sl26 ((hF.ev rfl).trans hv107) (hF.ev rfl) (by omega) (by first | omega | (simp at hm107; omega))) fun a hF => ?_
   refine wl hF rfl rfl rfl (r_load1 sc3 (hF.ev rfl) (hc107 0 _ rfl)) fun a hF => ?_
   refine ga 1 hF rfl fun a hF => ?_
   obtain ⟨g110, o110, m110, q110, hv110, hm110, hl110, hc110⟩ := Rd.atF ((hS.own_rd (i := 1) rfl)) (a := a) (X := .tmp 106) (hF.ev rfl) (by omega) (by omega)
   refine wl hF rfl rfl rfl (r_index sl26 ((hF.ev rfl).trans hv110) (hF.ev rfl) (by omega) (by first | omega | (simp at hm110; omega))) fun a hF => ?_
   refine wl_istore (q := 1) hF hS rfl hv110 (by omega) (by omega) sz3 (hF.ev rfl) rfl (hF.ev rfl) fun w14 hS => ?_; dsimp only [List.set] at hS
   refine wl_nil (hK18 _ _ ?_)
   refine wp_region_lit ?_
   refine ga 4 hF rfl fun a hF => ?_
   refine wl hF rfl rfl rfl (r_load1 sc26 (hF.ev rfl) (hS.but1 (q := 2) (j := 15) rfl rfl)) fun a hF => ?_
   refine ga 1 hF rfl fun a hF => ?_
   refine wl_bslice intEK [vi (indexOf (at0 (splitOut t.limbo (foundN t (scanN s t))) (k : Int)))] [indexOf (at0 (splitOut t.limbo (foundN t (scanN s t))) (k : Int))] rfl hF hS rfl mk26 rfl ⟨rfl, (hF.ev rfl), trivial⟩ rfl rfl rfl rfl fun gl_117 w15 a hS hF => ?_
   refine wl_append (q := 1) hF hS rfl rfl (hS.own_rd (i := 0) rfl) mk26 rfl (hF.ev rfl) (hF.ev rfl) (by simp; omega) (by unfold maxLen; simp; omega) ?_; intro A_118 c_118 w16 a hS_ hF; replace hS := hS_; clear hS_; dsimp only [List.set, List.length_cons, List.length_nil] at hS hF
   refine ga 2 hF rfl fun a hF => ?_
   refine wl_bstore (q := 3) (j := 15) hF hS rfl sz26 (hF.ev rfl) rfl (hF.ev rfl) rfl rfl fun w17 hS => ?_; dsimp only [List.set] at hS
   refine wl_nil ?_
   refine xt ?_
   refine hK14 _ _ ?_
   refine rl hF rfl fun a hF => ?_
   refine xt ?_
   have e_ := freeAll_yes (gs := s.generations) (fr := t.free) hx c100; have e1 := congrArg Prod.fst e_; have e2 := congrArg Prod.snd e_; dsimp only at e1 e2; rw [← e1, ← e2] at hS
   refine ⟨(k + 1, (_, _, _)), (by dsimp only; omega), (Sep.headp (A := [_, _, _, _, _, _, _, _, _, _, _, _, _]) (B := [_, _, _, _, _, _, _, _, _, _, _, _]) hS [1, 2, 3, 4, 5, 6, 7, 8, 9, 10, 11, 12] (by decide) rfl rfl), (((((hF.nil.keep hF (t := 77) rfl).keep hF (t := 76) rfl).keep hF (t := 2) rfl).keep hF (t := 1) rfl).keepE hF (t := 78) rfl (wk (by omega))), by dsimp only; omega⟩
  refine wp_skip ?_
  refine xt ?_
  refine hK14 _ _ ?_
  refine rl hF rfl fun a hF => ?_
  refine xt ?_
  have e_ := freeAll_no (gs := s.generations) (fr := t.free) hx (by omega); rw [← e_] at hS
  refine ⟨(k + 1, (_, _, _)), (by dsimp only; omega), hS, (((((hF.nil.keep hF (t := 77) rfl).keep hF (t := 76) rfl).keep hF (t := 2) rfl).keep hF (t := 1) rfl).keepE hF (t := 78) rfl (wk (by omega))), by dsimp only; omega⟩
 obtain rfl : k = (splitOut t.limbo (foundN t (scanN s t))).length := by omega
 rw [List.take_length] at hS
 replace hS := Sep.thr_back (t' := { t with found := (foundN t (scanN s t)), at_ := IntKind.i64.wrap (t.at_ + 1), limbo := splitIn t.limbo (foundN t (scanN s t)), free := (freeAll s.generations t.free (splitOut t.limbo (foundN t (scanN s t)))).2 }) (y0 := (_, _, _)) (y1 := (_, _, _)) (y2 := (_, _, _)) (y3 := (_, _, _)) (y4 := (_, _, _)) (Sep.headp (A := [_, _, _, _, _, _, _, _, _, _, _, _]) (B := [_, _, _, _, _, _, _, _, _, _, _, _]) hS [5, 0, 6, 7, 3, 2, 1, 4, 8, 9, 10, 11] (by decide) rfl rfl) rfl
 refine wp_exit ?_
 refine xt ?_
 refine hK10 _ _ ?_
 refine wp_region_lit ?_
 refine ga 1 hF rfl fun a hF => ?_
 refine wl hF rfl rfl rfl (r_build (bd39) trivial) fun a hF => ?_
 refine ck hF rfl (thEnd_c (r := ⟨0, 0⟩) hp hS) ?_; rintro v w18 a ⟨rfl, hS⟩ hF
 refine wl_nil ?_
 refine xt ?_
 refine ret0n rfl hF ⟨rfl, ?_⟩
 unfold reclaimS
 rw [if_neg c59]
 exact (Sep.headp (A := [_, _, _, _, _, _, _]) (B := [_, _, _, _]) hS [5, 6, 1, 0] (by decide) rfl rfl)
theorem implStepReclaim_c {W : World} {s : Sl.State} {cs : List Value} {p : Int} (hm : stateEK.K W s cs) (hw : s.wf) (hz : (s.size : Int) ≤ 1048576) (hp0 : int64 p) : Calls Tryz.prog 22 #[.agg cs.toArray, vi p] W (Ret (Mk W (fun vs => .tuple #[.agg (stateEK.cells (stepOf isC reclaimS s p).1 vs).toArray, .bool (stepOf isC reclaimS s p).2]) (fun vs => [Part stateEK (stepOf isC reclaimS s p).1 vs]))) := by
 refine calls_fr Tryz.func22 rfl Tryz.ntmps22 rfl ?_
 intro a hF
 have hS := Sep.refl W
 obtain ⟨v0, v1, v2, rfl, r0, r1, r2⟩ := hm
 have hm : stateEK.K W s (s.encv v0 v1 v2) := ⟨_, _, _, rfl, r0, r1, r2⟩
 obtain ⟨A_a, q_a, rfl, hq_a, hn_a⟩ := r0.sl; unfold maxLen at hn_a
 obtain ⟨A_b, q_b, rfl, hq_b, hn_b⟩ := r1.sl; unfold maxLen at hn_b
 obtain ⟨A_c, q_c, rfl, hq_c, hn_c⟩ := r2.sl; unfold maxLen at hn_c
 refine ws fun K1 hK1 => ?_
 refine wl_box (cs := [_, _, _, _, _, _, _, _, _, _, _, _, _]) hF hS rfl (hF.ev rfl) rfl fun g1 w1 a hS _ hF => ?_
 refine wl_alloc hF hS rfl zr29 fun g2 w2 a hS _ hF => ?_
 refine ge hK1 hF rfl fun a hF => ?_
 refine ws fun K2 hK2 => ?_
 refine gb 2 1 hF hS rfl rfl rfl fun a hF => ?_
 refine wl_mk hF hS rfl rfl rfl (r_call4 en58 (hF.ev rfl) (hF.ev rfl) ef ef) (stepIf_c (isf := isC) (stf := stepBy reclaimS) (hS.k hm) hw hz hp0 (by kernel_rfl) (by kernel_rfl) (fun w_ n hB_ => by rw [app_0]; exact reclaim1_c) (fun p' z0 z1 gt ot mt ct g l w_ hso hpe hp hmt hpc hS_ => by subst hpe; rw [app_0]; exact stpReclaim_c hp (Fit.of hso hw hp) hS_)) ?_; rintro vs8 w3 a hS_ hF; replace hS := hS_; clear hS_; dsimp only [List.cons_append, List.nil_append] at hS
 refine ga 2 hF rfl fun a hF => ?_
 refine ww 1 hF hS rfl rfl rfl rfl rfl rfl fun w4 hS => ?_
 refine ge hK2 hF rfl fun a hF => ?_
 refine wp_ret ?_
 refine xt ?_
 refine ret2c rfl ag29 hF hS (i := 1) rfl sz29 rfl rfl ⟨vs8, ?_, ?_⟩
 · rw [← stepI_of reclaim_steps] <;> rfl
 · rw [← stepI_of reclaim_steps]; exact hS.pick [0] (by decide) rfl
end Go.Proofs.YtgofolgogfmhgaaGreat.Wk
namespace Go.Proofs.YtgofolgogfmhgaaGreat.Wk
open Go Go.RowKit Sl
end Go.Proofs.YtgofolgogfmhgaaGreat.Wk
namespace Go.Proofs.YtgofolgogfmhgaaGreat.Wk
open Go Go.RowKit Sl
set_option linter.unusedVariables false
set_option linter.unusedSimpArgs false
set_option maxRecDepth 20000
theorem freeAll_more {gs fr hs : List Int} : fr.length ≤ (freeAll gs fr hs).2.length := by
 unfold freeAll
 induction hs generalizing gs fr with
 | nil => exact Nat.le_refl _
 | cons h hs ih =>
   simp only [List.foldl_cons]
   unfold freeStep
   split
   · exact Nat.le_trans (by simp) (ih (gs := _) (fr := fr ++ [indexOf h]))
   · exact ih
theorem out_not {xs ys : List Int} {x : Int} (h : x ∈ splitOut xs ys) : ¬ x ∈ ys := by
 have := (List.mem_filter.1 h).2
 simpa using this
theorem reclaim_free {s : Sl.State} {t : Sl.Thread} {p : Int} : t.free.length ≤ (reclaimS s t p).2.free.length ∧ (reclaimS s t p).2.limbo.length ≤ t.limbo.length := by
 unfold reclaimS
 split
 · exact ⟨Nat.le_refl _, Nat.le_refl _⟩
 · refine ⟨freeAll_more, ?_⟩
   have := split_len t.limbo (foundN t (scanN s t))
   show (splitIn t.limbo (foundN t (scanN s t))).length ≤ _
   omega
theorem of_some {isf : Int → Bool} {f : Sl.State → Sl.Thread → Int → Sl.State × Sl.Thread} {s : Sl.State} {p : Int} (h : (stepOf isf f s p).2 = true) (hw : s.wf) : (0 ≤ p ∧ p < s.threads.length) ∧ (stepOf isf f s p).1.threads.length = s.threads.length ∧ at0 (stepOf isf f s p).1.threads p = (f (stepped s) (at0 s.threads p) p).2 := by
 unfold stepOf at h ⊢
 split at h
 · rename_i hc
   have hr := running_of hc.1
   have h0 := hr.2.1
   have h1 := hr.2.2
   rw [if_pos hc]
   obtain ⟨k, rfl⟩ : ∃ k : Nat, p = (k : Int) := ⟨p.toNat, by omega⟩
   have hk : k < s.threads.length := by first | omega | exact_mod_cast h1
   refine ⟨by omega, ?_, ?_⟩
   · simp [stepBy, stepped, setT]
   · simp [stepBy, stepped, setT, at0, hk]
 · cases h
theorem limbo_ret {s : Sl.State} {p : Int} (hw : s.wf) : (!(stepOf isC reclaimS s p).2 || decide (((at0 s.threads p).free.length : Int) ≤ ((at0 (stepOf isC reclaimS s p).1.threads p).free.length : Int)) && decide (((at0 (stepOf isC reclaimS s p).1.threads p).limbo.length : Int) ≤ ((at0 s.threads p).limbo.length : Int))) = true := by
 cases h : (stepOf isC reclaimS s p).2 with
 | false => rfl
 | true =>
   obtain ⟨_, _, e⟩ := of_some h hw
   have hr := reclaim_free (s := stepped s) (t := at0 s.threads p) (p := p)
   rw [e, decide_eq_true (by omega), decide_eq_true (by omega)]
   rfl
theorem has_c {W : World} {va : Value} {xs : List Int} {x : Int} (ha : intEK.Rd W va xs) : Calls Tryz.prog 20 #[va, vi x] W (Ret fun v w' => v = .bool (decide (x ∈ xs)) ∧ Below W.heap.size W w') := by
 refine calls_fr Tryz.func20 rfl Tryz.ntmps20 rfl ?_
 intro a hF
 have hS := Sep.refl W
 obtain ⟨A_a, q_a, rfl, hq_a, hn_a⟩ := ha.sl; unfold maxLen at hn_a
 refine rg hF rfl fun a hF => ?_
 refine wp_seq_k fun K2 hK2 => ?_
 refine rg hF rfl fun a hF => ?_
 refine wp_block ?_
 refine wp_loop_g (σ := Nat) (fun k a w => k ≤ xs.length ∧ ¬ x ∈ xs.take k ∧ Sep W [] w ∧ Fr 18 [(5, vi k), (1, vi x), (0, .slice A_a xs.length q_a)] a) (fun k => xs.length - k) 0 ?_ ?_
 · exact ⟨Nat.zero_le _, by simp, hS, (((hF.nil.keep hF (t := 0) rfl).keep hF (t := 1) rfl).keep hF (t := 5) rfl)⟩
 rintro k a w ⟨hk, hn, hS, hF⟩
 refine wp_seq_k fun K4 hK4 => ?_
 refine rg hF rfl fun a hF => ?_
 first | refine wc_dec (hF.ev rfl) (fun c9 => ?_) (fun c9 => ?_) | refine wc_ndec (hF.ev rfl) (fun c9 => ?_) (fun c9 => ?_) | refine wc_b (hF.ev rfl) (fun c9 => ?_) (fun c9 => ?_)
 ·
  have hlt : k < xs.length := by omega
  obtain ⟨y, hy⟩ : ∃ y, xs[k]? = some y := ⟨_, List.getElem?_eq_getElem hlt⟩
  refine wp_skip ?_
  refine hK4 _ _ ?_
  refine wp_seq_k fun K6 hK6 => ?_
  refine wp_block ?_
  refine ws fun K7 hK7 => ?_
  refine ga 2 hF rfl fun a hF => ?_
  obtain ⟨g14, o14, m14, q14, hv14, hm14, hl14, hc14⟩ := Rd.idxF (hS.rd ha) hy
  refine wl hF rfl rfl rfl (r_index sl26 ((hF.ev rfl).trans hv14) (hF.ev rfl) (by omega) (by omega)) fun a hF => ?_
  refine wl hF rfl rfl rfl (r_load1 sc3 (hF.ev rfl) (hc14 0 _ rfl)) fun a hF => ?_
  refine ge hK7 hF rfl fun a hF => ?_
  first | refine wc_dec (hF.ev rfl) (fun c17 => ?_) (fun c17 => ?_) | refine wc_ndec (hF.ev rfl) (fun c17 => ?_) (fun c17 => ?_) | refine wc_b (hF.ev rfl) (fun c17 => ?_) (fun c17 => ?_)
  ·
   refine rg hF rfl fun a hF => ?_
   refine wp_ret ?_
   refine xt ?_
   refine ret1 rfl hF rfl ⟨congrArg Value.bool (Eq.symm ?_), hS.old⟩
   first | exact decide_eq_true (mem_at hy c17) | exact decide_eq_false (notin_all hn hk (by assumption))
  refine wp_skip ?_
  refine xt ?_
  refine hK6 _ _ ?_
  refine rl hF rfl fun a hF => ?_
  refine xt ?_
  exact ⟨k + 1, ⟨by omega, notin_next hn hy c17, hS, (((hF.nil.keep hF (t := 0) rfl).keep hF (t := 1) rfl).keepE hF (t := 5) rfl (wk (by omega)))⟩, by omega⟩
 refine wp_exit ?_
 refine xt ?_
 refine hK2 _ _ ?_
 refine rg hF rfl fun a hF => ?_
 refine wp_ret ?_
 refine xt ?_
 refine ret1 rfl hF rfl ⟨congrArg Value.bool (Eq.symm ?_), hS.old⟩
 first | exact decide_eq_true (mem_at hy c17) | exact decide_eq_false (notin_all hn hk (by assumption))
end Go.Proofs.YtgofolgogfmhgaaGreat.Wk
namespace Go.Proofs.YtgofolgogfmhgaaGreat.Wk
open Go Go.RowKit Sl
theorem bl4 : Tryz.prog.underlying 4 = some .bool := by kernel_rfl
theorem en17 : enterB Tryz.prog 17 = true := by kernel_rfl
theorem en21 : enterB Tryz.prog 21 = true := by kernel_rfl
theorem en22 : enterB Tryz.prog 22 = true := by kernel_rfl
theorem en23 : enterB Tryz.prog 23 = true := by kernel_rfl
end Go.Proofs.YtgofolgogfmhgaaGreat.Wk
namespace Go.Proofs.YtgofolgogfmhgaaGreat.Wk
open Go Go.RowKit Sl
set_option linter.unusedVariables false
set_option linter.unusedSimpArgs false
set_option maxRecDepth 20000
theorem law_FnLimbo {W : World} {vb : Value} {bs : List Int} (hb : byteEK.Rd W vb bs) : Calls Tryz.prog 4 #[vb] W (Ret fun v w' => v = .bool true ∧ Below W.heap.size W w') := by
 refine calls_fr Tryz.func4 rfl Tryz.ntmps4 rfl ?_
 intro a hF
 have hS := Sep.refl W
 refine rg hF rfl fun a hF => ?_
 refine wp_seq_k fun K2 hK2 => ?_
 refine ws fun K3 hK3 => ?_
 refine ga 1 hF rfl fun a hF => ?_
 refine ckr hF hS rfl (big_c (hS.rd hb)) fun w1 a hS hF => ?_
 refine wl_nil (hK3 _ _ ?_)
 refine cx 17 hF rfl (fun c17 hF => ?_) fun c17 hF => ?_
 ·
  refine rg hF rfl fun a hF => ?_
  refine wp_ret ?_
  refine xt ?_
  refine ret1 rfl hF rfl ⟨congrArg Value.bool ?_, hS.old⟩
  rfl
 refine wp_skip ?_
 refine hK2 _ _ ?_
 refine ws fun K5 hK5 => ?_
 refine ga 1 hF rfl fun a hF => ?_
 refine wl_mk hF hS rfl rfl rfl (r_call1 en17 (hF.ev rfl)) (drawSplitLimbo_c (hS.rd hb) (by omega)) ?_; rintro ⟨⟨⟨xs20, q20⟩, ⟨ys20, p20⟩⟩, ⟨hx20, hn20⟩, ⟨hy20, hm20⟩⟩ w2 a hS_ hF; replace hS := hS_; clear hS_; dsimp only [List.cons_append, List.nil_append] at hS
 replace hF : Fr _ ((20, .tuple #[sv q20, sv p20]) :: _) _ := hF
 replace hx20 : ∀ x ∈ xs20, int64 x := hx20
 replace hy20 : ∀ x ∈ ys20, int64 x := hy20
 replace hn20 : xs20.length ≤ 10 := hn20
 replace hm20 : ys20.length ≤ 10 := hm20
 have hlx20 := hS.own_len (q := 0) rfl
 have hly20 := hS.own_len (q := 1) rfl
 refine ge hK5 hF rfl fun a hF => ?_
 refine ws fun K6 hK6 => ?_
 refine ga 2 hF rfl fun a hF => ?_
 refine wl_mk hF hS rfl rfl rfl (r_call2 en18 (hF.ev rfl) (hF.ev rfl)) (implSplit_c (hS.own_rd (i := 0) rfl) (hS.own_rd (i := 1) rfl) (by omega)) ?_; rintro ⟨p26, q26⟩ w3 a hS_ hF; replace hS := hS_; clear hS_; dsimp only [List.cons_append, List.nil_append] at hS
 obtain ⟨⟨Aa26, na26, ca26⟩, rfl⟩ := hS.own_sv (q := 0) rfl; obtain rfl : na26 = _ := hS.own_len (q := 0) (s := (Aa26, na26, ca26)) rfl
 obtain ⟨⟨Ab26, nb26, cb26⟩, rfl⟩ := hS.own_sv (q := 1) rfl; obtain rfl : nb26 = _ := hS.own_len (q := 1) (s := (Ab26, nb26, cb26)) rfl
 try dsimp only at hF
 refine ge hK6 hF rfl fun a hF => ?_
 refine ws fun K7 hK7 => ?_
 refine ga 2 hF rfl fun a hF => ?_
 refine wl_mk hF hS rfl rfl rfl (r_call2 en19 (hF.ev rfl) (hF.ev rfl)) (specSplit_c (hS.own_rd (i := 2) rfl) (hS.own_rd (i := 3) rfl) (by omega)) ?_; rintro ⟨p32, q32⟩ w4 a hS_ hF; replace hS := hS_; clear hS_; dsimp only [List.cons_append, List.nil_append] at hS
 obtain ⟨⟨Aa32, na32, ca32⟩, rfl⟩ := hS.own_sv (q := 0) rfl; obtain rfl : na32 = _ := hS.own_len (q := 0) (s := (Aa32, na32, ca32)) rfl
 obtain ⟨⟨Ab32, nb32, cb32⟩, rfl⟩ := hS.own_sv (q := 1) rfl; obtain rfl : nb32 = _ := hS.own_len (q := 1) (s := (Ab32, nb32, cb32)) rfl
 try dsimp only at hF
 have hsl := split_len xs20 ys20
 refine ge hK7 hF rfl fun a hF => ?_
 refine wp_seq_k fun K8 hK8 => ?_
 refine ws fun K9 hK9 => ?_
 refine ga 2 hF rfl fun a hF => ?_
 refine ckr hF hS rfl (sameInts_c (hS.own_rd (i := 2) rfl) (hS.own_rd (i := 0) rfl)) fun w5 a hS hF => ?_
 refine ga 2 hF rfl fun a hF => ?_
 apply wo 5 39 44 hF hS
 ·
  intro hg39 a hF
  refine ga 2 hF rfl fun a hF => ?_
  refine ckr hF hS rfl (sameInts_c (hS.own_rd (i := 3) rfl) (hS.own_rd (i := 1) rfl)) fun w6 a hS hF => ?_
  exact je 5 hF hS rfl rfl rfl rfl
 intro a w7 hF hS
 refine ga 1 hF rfl fun a hF => ?_
 apply wo 9 45 54 hF hS
 ·
  intro hg45 a hF
  exact je 9 hF hS rfl rfl rfl rfl
 intro a w8 hF hS
 refine wl_nil (hK9 _ _ ?_)
 refine cx 54 hF rfl (fun c54 hF => ?_) fun c54 hF => ?_
 ·
  exfalso; have hw_ : IntKind.i64.wrap (((splitIn xs20 ys20).length : Int) + ((splitOut xs20 ys20).length : Int)) = (xs20.length : Int) := by rw [w64_id (by omega) (by omega)]; omega
  simp [hw_] at c54; omega
 refine wp_skip ?_
 refine hK8 _ _ ?_
 refine wp_seq_k fun K10 hK10 => ?_
 refine rg hF rfl fun a hF => ?_
 refine wp_block ?_
 have hL_ := ((((hF.nil.keep hF (t := 6) rfl).keep hF (t := 4) rfl).keep hF (t := 2) rfl).keep hF (t := 0) rfl)
 refine wp_loop_r (σ := Nat) (fun k L_ => (9, vi k) :: L_) (fun k => (k ≤ (splitOut xs20 ys20).length)) (fun k => (splitOut xs20 ys20).length - k) 0 hS (hL_.keepE hF (t := 9) rfl rfl) ?_ ?_
 · exact Nat.zero_le _
 rintro k a w9 hk hS hF; try dsimp only at hF; try dsimp only at hS
 refine wp_seq_k fun K12 hK12 => ?_
 refine rg hF rfl fun a hF => ?_
 refine cx 58 hF rfl (fun c58 hF => ?_) fun c58 hF => ?_
 ·
  refine wp_skip ?_
  refine hK12 _ _ ?_
  refine wp_seq_k fun K14 hK14 => ?_
  refine wp_block ?_
  refine ws fun K15 hK15 => ?_
  refine ga 3 hF rfl fun a hF => ?_
  obtain ⟨g64, o64, m64, q64, hv64, hm64, hl64, hc64⟩ := Rd.atF ((hS.own_rd (i := 3) rfl)) (a := a) (X := .tmp 63) (hF.ev rfl) (by omega) (by omega)
  refine wl hF rfl rfl rfl (r_index sl26 ((hF.ev rfl).trans hv64) (hF.ev rfl) (by omega) (by first | omega | (simp at hm64; omega))) fun a hF => ?_
  refine wl hF rfl rfl rfl (r_load1 sc3 (hF.ev rfl) (hc64 0 _ rfl)) fun a hF => ?_
  refine ckr hF hS rfl (has_c (hS.own_rd (i := 5) rfl)) fun w10 a hS hF => ?_
  refine wl_nil (hK15 _ _ ?_)
  refine cx 66 hF rfl (fun c66 hF => ?_) fun c66 hF => ?_
  ·
   exfalso; exact out_not (at0_mem (by omega) (by omega)) c66
  refine wp_skip ?_
  refine xt ?_
  refine hK14 _ _ ?_
  refine rl hF rfl fun a hF => ?_
  refine xt ?_
  refine ⟨k + 1, (by omega), hS, (((((hF.nil.keep hF (t := 6) rfl).keep hF (t := 4) rfl).keep hF (t := 2) rfl).keep hF (t := 0) rfl).keepE hF (t := 9) rfl (wk (by omega))), by omega⟩
 refine wp_exit ?_
 refine xt ?_
 refine hK10 _ _ ?_
 refine ws fun K16 hK16 => ?_
 refine ga 1 hF rfl fun a hF => ?_
 refine wl_mk hF hS rfl rfl rfl (r_call1 en21 (hF.ev rfl)) (drawStepReclaim_c (hS.rd hb) (by omega)) ?_; rintro ⟨⟨x69, vs69, p69⟩, hg69, hp69⟩ w11 a hS_ hF; replace hS := hS_; clear hS_; dsimp only [List.cons_append, List.nil_append] at hS
 replace hF : Fr _ ((69, .tuple #[.agg (stateEK.cells x69 vs69).toArray, vi p69]) :: _) _ := hF
 replace hg69 : Drawn x69 := hg69
 replace hp69 : int64 p69 := hp69
 refine ga 3 hF rfl fun a hF => ?_
 refine wl_alloc hF hS rfl zr29 fun g1 w12 a hS _ hF => ?_
 refine ww 0 hF hS rfl rfl rfl rfl rfl rfl fun w13 hS => ?_
 refine ge hK16 hF rfl fun a hF => ?_
 refine ws fun K17 hK17 => ?_
 refine gb 2 0 hF hS rfl rfl rfl fun a hF => ?_
 refine wl_mk hF hS rfl rfl rfl (r_call2 en22 (hF.ev rfl) (hF.ev rfl)) (implStepReclaim_c (hS.part_k (i := 1) rfl) hg69.wf (by have := hg69.sz; omega) hp69) ?_; rintro vs75 w14 a hS_ hF; replace hS := hS_; clear hS_; dsimp only [List.cons_append, List.nil_append] at hS
 refine ga 3 hF rfl fun a hF => ?_
 refine wl_alloc hF hS rfl zr29 fun g2 w15 a hS _ hF => ?_
 refine ww 0 hF hS rfl rfl rfl rfl rfl rfl fun w16 hS => ?_
 refine ge hK17 hF rfl fun a hF => ?_
 refine ws fun K18 hK18 => ?_
 refine gb 2 2 hF hS rfl rfl rfl fun a hF => ?_
 refine wl_mk hF hS rfl rfl rfl (r_call2 en23 (hF.ev rfl) (hF.ev rfl)) (specStepReclaim_c (hS.part_k (i := 3) rfl) hg69.wf (by have := hg69.sz; omega) hp69) ?_; rintro vs81 w17 a hS_ hF; replace hS := hS_; clear hS_; dsimp only [List.cons_append, List.nil_append] at hS
 refine ga 3 hF rfl fun a hF => ?_
 refine wl_alloc hF hS rfl zr29 fun g3 w18 a hS _ hF => ?_
 refine ww 0 hF hS rfl rfl rfl rfl rfl rfl fun w19 hS => ?_
 refine ge hK18 hF rfl fun a hF => ?_
 refine wp_seq_k fun K19 hK19 => ?_
 refine ws fun K20 hK20 => ?_
 refine ga 2 hF rfl fun a hF => ?_
 refine wl hF rfl rfl rfl (r_neqb bl4 (hF.ev rfl) (hF.ev rfl)) fun a hF => ?_
 refine ga 1 hF rfl fun a hF => ?_
 apply wo 5 87 92 hF hS
 ·
  intro hg87 a hF
  refine gb 1 2 hF hS rfl rfl rfl fun a hF => ?_
  refine wl_take hF rfl rfl rfl rfl ?_
  refine gb 1 0 hF hS rfl rfl rfl fun a hF => ?_
  refine ckr hF hS rfl (implEqState_c (hS.part_k (i := 3) rfl) (hS.part_k (i := 1) rfl)) fun w20 a hS hF => ?_
  exact je 5 hF hS rfl rfl rfl rfl
 intro a w21 hF hS
 refine wl_nil (hK20 _ _ ?_)
 refine cx 92 hF rfl (fun c92 hF => ?_) fun c92 hF => ?_
 ·
  exfalso; simp at c92
 replace hS := hS.pull (p := 5) rfl; dsimp only [List.eraseIdx] at hS
 replace hS : Sep W (Own intEK (sv (vs69.getD 0 (none, 0, 0))) x69.cells :: Own intEK (sv (vs69.getD 1 (none, 0, 0))) x69.generations :: Own threadEK (sv (vs69.getD 2 (none, 0, 0))) x69.threads :: _) _ := hS.part_open
 try dsimp only [stateEK] at hS
 generalize vs69.getD 0 (none, 0, 0) = z0 at hS
 generalize vs69.getD 1 (none, 0, 0) = z1 at hS
 generalize vs69.getD 2 (none, 0, 0) = z2 at hS
 have hl0_z0 := hS.own_len (q := 0) rfl
 have hl1_z1 := hS.own_len (q := 1) rfl
 have hl2_z2 := hS.own_len (q := 2) rfl
 replace hS := hS.pull (p := 6) rfl; dsimp only [List.eraseIdx] at hS
 replace hS : Sep W (Own intEK (sv (vs75.getD 0 (none, 0, 0))) (stepOf isC reclaimS x69 p69).1.cells :: Own intEK (sv (vs75.getD 1 (none, 0, 0))) (stepOf isC reclaimS x69 p69).1.generations :: Own threadEK (sv (vs75.getD 2 (none, 0, 0))) (stepOf isC reclaimS x69 p69).1.threads :: _) _ := hS.part_open
 try dsimp only [stateEK] at hS
 generalize vs75.getD 0 (none, 0, 0) = y0 at hS
 generalize vs75.getD 1 (none, 0, 0) = y1 at hS
 generalize vs75.getD 2 (none, 0, 0) = y2 at hS
 have hl0_y0 := hS.own_len (q := 0) rfl
 have hl1_y1 := hS.own_len (q := 1) rfl
 have hl2_y2 := hS.own_len (q := 2) rfl
 refine wp_skip ?_
 refine hK19 _ _ ?_
 refine wp_seq_k fun K21 hK21 => ?_
 refine wp_region_calm (by kernel_rfl) (by kernel_rfl) ?_
 refine qa 3 hF tk rfl fun a hF => ?_
 apply wq_or (A := [_, _, _, _, _, _, _, _, _, _, _, _, _, _, _, _, _, _, _, _, _, _, _, _, _, _, _, _, _, _, _, _, _]) (pk := 128) hF (tc := 95) rfl
 ·
  intro hg95 a hF; try simp only [zb] at hg95
  obtain ⟨⟨hq0, hq1⟩, hql, hqe⟩ := of_some (isf := isC) (f := reclaimS) (s := x69) (p := p69) (by simpa using hg95) hg69.wf
  refine qb 3 8 hF tk hS rfl rfl rfl fun a hF => ?_
  refine wq_take hF rfl rfl rfl rfl ?_
  obtain ⟨g99, o99, m99, q99, cs99, hv99, hm99, hl99, hk99, hz99, hc99⟩ := Rd.at ((hS.own_rd (i := 2) rfl)) (a := a) (X := .tmp 98) (hF.ev rfl) (by omega) (by omega)
  have hkk99 := hk99; obtain ⟨v99_0, v99_1, v99_2, v99_3, v99_4, rfl, r99_0, r99_1, r99_2, r99_3, r99_4⟩ := hk99
  refine wq hF rfl rfl rfl (fun w_ hB_ => r_index sl27 ((hF.ev rfl).trans hv99) (hF.ev rfl) (by omega) (by first | omega | (simp at hm99; omega))) fun a hF => ?_
  obtain ⟨Af99, qf99, rfl, hqf99, hnf99⟩ := r99_1.sl
  refine qa 1 hF tk rfl fun a hF => ?_
  refine wq_take hF rfl rfl rfl rfl ?_
  refine wq hF rfl rfl rfl (fun w_ hB_ => r_load1 sc26 (hF.ev rfl) (cellB hB_ (hc99 15 _ rfl))) fun a hF => ?_
  refine qb 4 9 hF tk hS rfl rfl rfl fun a hF => ?_
  refine wq_take hF rfl rfl rfl rfl ?_
  obtain ⟨g106, o106, m106, q106, cs106, hv106, hm106, hl106, hk106, hz106, hc106⟩ := Rd.at ((hS.own_rd (i := 5) rfl)) (a := a) (X := .tmp 105) (hF.ev rfl) (by omega) (by omega)
  have hkk106 := hk106; obtain ⟨v106_0, v106_1, v106_2, v106_3, v106_4, rfl, r106_0, r106_1, r106_2, r106_3, r106_4⟩ := hk106
  refine wq hF rfl rfl rfl (fun w_ hB_ => r_index sl27 ((hF.ev rfl).trans hv106) (hF.ev rfl) (by omega) (by first | omega | (simp at hm106; omega))) fun a hF => ?_
  obtain ⟨Af106, qf106, rfl, hqf106, hnf106⟩ := r106_1.sl
  refine qa 1 hF tk rfl fun a hF => ?_
  refine wq_take hF rfl rfl rfl rfl ?_
  refine wq hF rfl rfl rfl (fun w_ hB_ => r_load1 sc26 (hF.ev rfl) (cellB hB_ (hc106 15 _ rfl))) fun a hF => ?_
  refine qa 3 hF tk rfl fun a hF => ?_
  apply wq_and (A := [_, _, _, _, _, _, _, _, _, _, _, _, _, _, _, _]) (pk := 127) hF (tc := 111) rfl
  ·
   intro hg111 a hF; try simp only [zb] at hg111
   refine qb 3 8 hF tk hS rfl rfl rfl fun a hF => ?_
   refine wq_take hF rfl rfl rfl rfl ?_
   obtain ⟨g115, o115, m115, q115, cs115, hv115, hm115, hl115, hk115, hz115, hc115⟩ := Rd.at ((hS.own_rd (i := 2) rfl)) (a := a) (X := .tmp 114) (hF.ev rfl) (by omega) (by omega)
   have hkk115 := hk115; obtain ⟨v115_0, v115_1, v115_2, v115_3, v115_4, rfl, r115_0, r115_1, r115_2, r115_3, r115_4⟩ := hk115
   refine wq hF rfl rfl rfl (fun w_ hB_ => r_index sl27 ((hF.ev rfl).trans hv115) (hF.ev rfl) (by omega) (by first | omega | (simp at hm115; omega))) fun a hF => ?_
   obtain ⟨Af115, qf115, rfl, hqf115, hnf115⟩ := r115_4.sl
   refine qa 1 hF tk rfl fun a hF => ?_
   refine wq_take hF rfl rfl rfl rfl ?_
   refine wq hF rfl rfl rfl (fun w_ hB_ => r_load1 sc26 (hF.ev rfl) (cellB hB_ (hc115 18 _ rfl))) fun a hF => ?_
   refine qb 4 9 hF tk hS rfl rfl rfl fun a hF => ?_
   refine wq_take hF rfl rfl rfl rfl ?_
   obtain ⟨g122, o122, m122, q122, cs122, hv122, hm122, hl122, hk122, hz122, hc122⟩ := Rd.at ((hS.own_rd (i := 5) rfl)) (a := a) (X := .tmp 121) (hF.ev rfl) (by omega) (by omega)
   have hkk122 := hk122; obtain ⟨v122_0, v122_1, v122_2, v122_3, v122_4, rfl, r122_0, r122_1, r122_2, r122_3, r122_4⟩ := hk122
   refine wq hF rfl rfl rfl (fun w_ hB_ => r_index sl27 ((hF.ev rfl).trans hv122) (hF.ev rfl) (by omega) (by first | omega | (simp at hm122; omega))) fun a hF => ?_
   obtain ⟨Af122, qf122, rfl, hqf122, hnf122⟩ := r122_4.sl
   refine qa 1 hF tk rfl fun a hF => ?_
   refine wq_take hF rfl rfl rfl rfl ?_
   refine wq hF rfl rfl rfl (fun w_ hB_ => r_load1 sc26 (hF.ev rfl) (cellB hB_ (hc122 18 _ rfl))) fun a hF => ?_
   refine qa 3 hF tk rfl fun a hF => ?_
   exact wpQuiet_nil ((Fr.pre (A := [_, _, _, _, _, _, _, _, _, _, _, _, _, _, _, _]) hF rfl).keep hF (t := 127) rfl)
  ·
   intro hg111 a hF; try simp only [zb] at hg111
   refine qa 16 hF tk rfl fun a hF => ?_
   exact wpQuiet_nil ((Fr.pre (A := [_, _, _, _, _, _, _, _, _, _, _, _, _, _, _, _]) hF rfl).keep hF (t := 127) rfl)
  intro a hF
  refine qa 1 hF tk rfl fun a hF => ?_
  exact wpQuiet_nil ((Fr.pre (A := [_, _, _, _, _, _, _, _, _, _, _, _, _, _, _, _, _, _]) hF rfl).keep hF (t := 128) rfl)
 ·
  intro hg95 a hF; try simp only [zb] at hg95
  refine qa 33 hF tk rfl fun a hF => ?_
  exact wpQuiet_nil ((Fr.pre (A := [_, _, _, _, _, _, _, _, _, _, _, _, _, _, _, _, _, _, _, _, _, _, _, _, _, _, _, _, _, _, _, _, _]) hF rfl).keep hF (t := 128) rfl)
 intro a hF
 refine qa 1 hF tk rfl fun a hF => ?_
 refine wpQuiet_nil ?_; intro w24 hB_; have hS := hS.ext hB_
 refine hK21 _ _ ?_
 refine wp_ret ?_
 refine xt ?_
 refine ret1 rfl hF rfl ⟨congrArg Value.bool ?_, hS.old⟩
 exact limbo_ret hg69.wf
end Go.Proofs.YtgofolgogfmhgaaGreat.Wk
namespace Go.Proofs.YtgofolgogfmhgaaGreat.Sl
open Go
section
variable {P : Program} {h s : List Char} {X : List (List Char)}
/-- a row of signs, by their numbers -/
def ch (l : List Nat) : List Char := l.map Char.ofNat
/-- the blank -/
abbrev sp : Char := Char.ofNat 32
theorem words_sp : ∀ (w r : List Char), Sl.sp ∉ w → wordsSigns (w ++ Sl.sp :: r) = w :: wordsSigns r
  | [], r, _ => rfl
  | c :: w, r, h => by
    have hc : c ≠ Sl.sp := fun e => h (e ▸ List.mem_cons_self)
    have ih := words_sp w r (fun e => h (List.mem_cons_of_mem _ e))
    rw [List.cons_append, wordsSigns.eq_3 _ _ (fun e => hc e), ih]
theorem strip_cut : stripLifts liftWords ("cut".toList :: X) = ([], "cut".toList :: X) := by kernel_rfl
theorem made_of (e : behindMainWord (wordsSigns P.initOrder.toList) = "cut".toList :: X) : P.make = some .cut := by
 unfold Program.make; rw [e]; rfl
theorem final_of (e : behindMainWord (wordsSigns P.initOrder.toList) = "cut".toList :: X) : P.liftsFinal = false := by
 unfold Program.liftsFinal Program.headLifts; rw [e]; dsimp only; rw [strip_cut]; rfl
theorem enter_of (e : behindMainWord (wordsSigns P.initOrder.toList) = "cut".toList :: X) (h1 : P.laysLater = false) (h2 : P.bearsReflect = false) (h3 : P.doorFits [] = true) : P.mayEnter = true := by
 unfold Program.mayEnter; rw [e]; dsimp only; rw [strip_cut, h1, h2, h3]; rfl
end
end Go.Proofs.YtgofolgogfmhgaaGreat.Sl
namespace Go.Proofs.YtgofolgogfmhgaaGreat
open Go Go.RowKit Sl Wk
set_option linter.unusedVariables false
set_option linter.unusedSimpArgs false
set_option maxRecDepth 20000
theorem op5 : Opens Tryz.prog 5 1 (fun _ n cs => cs = [.int .u8 n]) (fun _ => True) := opens_byte (by kernel_rfl) (by kernel_rfl)
theorem op22 : Opens Tryz.prog 22 1 (fun W xs cs => ∃ v, cs = [v] ∧ byteEK.Rd W v xs) (fun xs => ∀ x ∈ xs, (fun _ => True) x) := opens_slice op5 (by decide) (by kernel_rfl) (by kernel_rfl)
namespace fnLimbo
open Go.ChangeShapes Go.WideShapes Go.ChangeAt Go.RowKit
theorem laidOut : laidOutB Tryz.prog = true := by kernel_rfl
theorem own : ownKnob Tryz.prog.godebug = none := by kernel_rfl
theorem lifted (os : Os) (started : os.Started) (H : Type) (enc : TypeId × Value → H) :
    ReturnsInHanded {} Tryz.checked os 4 .any (Rows.fnLimboSpec.pre6 enc Tryz.prog Tryz.f4 Rows.fnLimboRow.domain false) (Rows.fnLimboSpec.post enc Tryz.prog Tryz.f4 false true false false) := by
  refine returnsInHanded_of_change_sized (C := Tryz.checked) own started (by kernel_rfl) Tryz.func4
    (ChangeSpec.witness6 (enc := enc) (C := Tryz.checked) false ⟨#[], #[.slice none 0 0], []⟩ 8 (by kernel_rfl) (by kernel_rfl) (by kernel_rfl) (by kernel_rfl)) ?_
  intro W base args ds gs before hval0 hW hcnd hsz0 _
  have hval : ∀ (j : Nat) t v, Tryz.f4.params[j]? = some t → args[j]? = some v → Value.okWide Tryz.prog W .any base t v := hval0
  have hW' := hW
  obtain ⟨p, q, hA0, hV, rfl, hfz, hnd⟩ := hW
  have hA : DataW.TrodAll enc Tryz.prog W 0 (fun _ => true) true Tryz.f4.params.toList args.toList ds p := hA0
  rw [Tryz.params4] at hA hval
  obtain ⟨v0, vs0, d0, ds0, p0, q0, hargs, rfl, rfl, h0, r0⟩ := trodAll_cons hA
  obtain ⟨rfl, rfl, rfl⟩ := trodAll_nil r0
  obtain rfl : args = #[v0] := by cases args; simp_all
  obtain ⟨rfl, rfl⟩ := trodVars_none hV
  have kk0 := h0
  have lt0 : ∀ x ∈ p0, x.block < W.heap.size := by obtain ⟨m, hm⟩ := kk0; exact DataW.trod_lt m _ _ _ hm
  obtain ⟨sa0, sl0, sc0, rfl⟩ := okWide_slice (by kernel_rfl : Tryz.prog.underlying 22 = some (.slice 5)) (hval 0 22 v0 rfl rfl)
  obtain ⟨m0, hm0⟩ := h0
  obtain ⟨x0, ⟨u0_0, e0, hr0⟩, _, ok0⟩ := (op22).2 _ _ _ _ _ _ _ hm0; clear hm0
  obtain rfl : Value.slice sa0 sl0 sc0 = u0_0 := by simpa [Value.cells] using e0
  clear hA0 hval0
  refine (law_FnLimbo hr0).mono ?_
  rintro e W' ⟨v, rfl, rfl, bel⟩
  exact ⟨_, rfl, _, _, _, [], _, [], hW', trodAll_mk1 (shut_bool (by kernel_rfl : Tryz.prog.underlying 4 = some .bool) _), (trodAll_cons_mk (Below.trod laidOut (by kernel_rfl) (of_decide_eq_true (by kernel_rfl)) kk0 bel lt0) trodAll_mk0), rfl, bel.frame _, fun h => by cases h⟩
def restSigns : List Char := Sl.ch [97, 116, 32, 108, 111, 111, 112, 46, 101, 120, 97, 109, 112, 108, 101, 47, 103, 48, 49, 54, 50, 56, 47, 108, 97, 119, 115, 46, 70, 110, 83, 116, 97, 114, 116, 115, 32, 108, 111, 111, 112, 46, 101, 120, 97, 109, 112, 108, 101, 47, 103, 48, 49, 54, 50, 56, 47, 108, 97, 119, 115, 46, 70, 110, 76, 105, 109, 98, 111, 32, 108, 111, 111, 112, 46, 101, 120, 97, 109, 112, 108, 101, 47, 103, 48, 49, 54, 50, 56, 47, 108, 97, 119, 115, 46, 70, 110, 75, 105, 110, 100, 115, 79, 102, 83, 116, 101, 112, 115, 32, 108, 111, 111, 112, 46, 101, 120, 97, 109, 112, 108, 101, 47, 103, 48, 49, 54, 50, 56, 47, 108, 97, 119, 115, 46, 70, 110, 83, 116, 101, 112, 115]
theorem order : Tryz.pinned.checked.prog.initOrder = String.ofList (Sl.ch [104, 97, 114, 110, 101, 115, 115] ++ Sl.sp :: (Sl.ch [98, 55, 52, 56, 99, 50, 53, 100, 54, 101, 52, 101, 101, 52, 50, 98, 49, 48, 51, 55, 51, 97, 56, 57, 98, 102, 98, 99, 56, 49, 102, 49, 52, 56, 48, 101, 54, 54, 99, 100, 55, 48, 50, 53, 97, 52, 50, 57, 50, 52, 51, 49, 50, 100, 51, 98, 57, 102, 98, 57, 100, 56, 50, 98] ++ Sl.sp :: (Sl.ch [99, 117, 116] ++ Sl.sp :: restSigns))) := by kernel_rfl
theorem behind (X : List (List Char)) : behindMainWord (Sl.ch [104, 97, 114, 110, 101, 115, 115] :: Sl.ch [98, 55, 52, 56, 99, 50, 53, 100, 54, 101, 52, 101, 101, 52, 50, 98, 49, 48, 51, 55, 51, 97, 56, 57, 98, 102, 98, 99, 56, 49, 102, 49, 52, 56, 48, 101, 54, 54, 99, 100, 55, 48, 50, 53, 97, 52, 50, 57, 50, 52, 51, 49, 50, 100, 51, 98, 57, 102, 98, 57, 100, 56, 50, 98] :: Sl.ch [99, 117, 116] :: X) = "cut".toList :: X := by kernel_rfl
theorem heads : behindMainWord (wordsSigns Tryz.pinned.checked.prog.initOrder.toList) = "cut".toList :: wordsSigns restSigns := by
 rw [order, String.toList_ofList, Sl.words_sp _ _ (by decide), Sl.words_sp _ _ (by decide), Sl.words_sp _ _ (by decide)]; exact behind _
theorem facts : joinedFacts Tryz.pinned.checked.prog 4 Tryz.f4 Rows.fnLimboSpec Rows.fnLimboRow = true := by
 unfold joinedFacts; rw [Sl.enter_of heads (by kernel_rfl) (by kernel_rfl) (by kernel_rfl), Sl.final_of heads, Sl.made_of heads]; kernel_rfl
theorem over : Rows.fnLimboRow.holds Tryz.pinned (OpenSpec.ofChange Rows.fnLimboSpec) :=
  OpenClaim.holds_of_wide 4 Tryz.f4 rfl rfl rfl rfl rfl rfl rfl ⟨rfl, rfl, rfl, rfl, rfl⟩ rfl rfl rfl rfl rfl (by kernel_rfl) Tryz.func4 facts
    (of_decide_eq_true (by kernel_rfl)) (by unfold Func.isWrapper; first | (rw [if_pos (by decide +kernel)]; kernel_rfl) | (rw [if_neg (by decide +kernel)]; exact ⟨rfl, rfl⟩))
    (fun os started H enc _ => lifted os started H enc)
theorem proved : Rows.FnLimboSaid := over
end fnLimbo
/-- The row, under a short name. -/
theorem fnLimbo_holds : Rows.FnLimboSaid := fnLimbo.proved
end Go.Proofs.YtgofolgogfmhgaaGreat
