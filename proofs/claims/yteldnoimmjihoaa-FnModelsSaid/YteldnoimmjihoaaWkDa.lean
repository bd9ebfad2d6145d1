/- Walks: what the law on models draws. -/
import Derived.Test.YteldnoimmjihoaaChecked
import Derived.Test.YteldnoimmjihoaaWkDm
import Derived.Test.YteldnoimmjihoaaFactsE
namespace Go.Proofs.Yteldnoimmjihoaa.Wk
open Go Go.RowKit Sl
set_option linter.unusedVariables false
set_option linter.unusedSimpArgs false
set_option maxRecDepth 20000

set_option maxHeartbeats 4000000 in
set_option maxRecDepth 20000 in
theorem drawApplyModel_c {W : World} {vb : Value} {bs : List Int} (hb : byteEK.Rd W vb bs) (hz : bs.length ≤ 1048576) : Calls Try.prog 32 #[vb] W (Ret (Mk W (fun z : {z : Config × Model × List Slv × Int × Sl.Op // z.2.1.size ≤ 200} => .tuple #[.agg z.1.1.enc.toArray, .agg (modelEK.cells z.1.2.1 z.1.2.2.1).toArray, vi z.1.2.2.2.1, .agg z.1.2.2.2.2.enc.toArray]) (fun z => [Part modelEK z.1.2.1 z.1.2.2.1]))) := by
  refine calls_fr Try.func32 rfl Try.ntmps32 rfl ?_
  intro a hF
  have hS := Sep.refl W
  refine ws fun K1 hK1 => ?_
  refine wl_alloc hF hS rfl zr38 ?_; clear hF a; intro g1 w1 a hS_ hB_ hF; replace hS := hS_; clear hS_ hB_
  refine wl_alloc hF hS rfl zr35 ?_; clear hF a; intro g2 w2 a hS_ hB_ hF; replace hS := hS_; clear hS_ hB_
  refine wl_mvs (A := [_]) hF rfl ?_; clear hF a; intro a hF
  refine wl_alloc hF hS rfl zr41 ?_; clear hF a; intro g3 w3 a hS_ hB_ hF; replace hS := hS_; clear hS_ hB_
  refine wl_nil (hK1 _ _ ?_)
  refine ws fun K2 hK2 => ?_
  refine wl_mvs (A := [_]) hF rfl ?_; clear hF a; intro a hF
  refine wl_mk hF hS rfl rfl rfl (r_call1 en65 (hF.ev rfl)) (l1New_c (hS.rd hb) (by omega)) ?_; clear hF a; rintro g11 w4 a hS_ hF; replace hS := hS_; clear hS_; dsimp only [List.cons_append, List.nil_append] at hS
  have hbs := hb
  refine wl_mvs (A := [_]) hF rfl ?_; clear hF a; intro a hF
  refine wl_nil (hK2 _ _ ?_)
  refine ws fun K3 hK3 => ?_
  refine wl_mvs (A := [_]) hF rfl ?_; clear hF a; intro a hF
  refine wl_call hF rfl rfl rfl (r_call1 en66 (hF.ev rfl)) (l3Any_c hbs (q := 0) hS rfl) ?_; clear hF a; rintro v w5 a ⟨⟨c13, rfl, h13⟩, hS_⟩ hF; replace hS := hS_; clear hS_
  refine wl_alloc hF hS rfl zr38 ?_; clear hF a; intro g4 w6 a hS_ hB_ hF; replace hS := hS_; clear hS_ hB_
  refine wl_storen (cs' := [_, _, _, _, _, _]) hF hS (i := 0) rfl (hF.ev rfl) (hF.ev rfl) sz38 ⟨rfl, rfl⟩ rfl rfl ?_; intro w7 hS_; replace hS := hS_; clear hS_; dsimp only [List.set] at hS
  refine wl_nil (hK3 _ _ ?_)
  refine ws fun K4 hK4 => ?_
  refine wl_mvs (A := [_]) hF rfl ?_; clear hF a; intro a hF
  refine wl hF rfl rfl rfl (r_loadn ag38 (hF.ev rfl) (hS.box_rd (i := 0) rfl) sz38) ?_; clear hF a; intro a hF
  replace hS := hS.pull (p := 1) rfl; dsimp only [List.eraseIdx] at hS
  refine wl_call hF rfl rfl rfl (r_call2 en67 (hF.ev rfl) (hF.ev rfl)) (l19Model_h hbs _ hS) ?_; clear hF a; rintro v w8 a ⟨⟨m16, vs16⟩, ⟨rfl, hz16⟩, hS_⟩ hF; replace hS := hS_; clear hS_
  try dsimp only at hz16
  refine wl_alloc hF hS rfl zr35 ?_; clear hF a; intro g5 w9 a hS_ hB_ hF; replace hS := hS_; clear hS_ hB_
  refine wl_storew hF hS (i := 0) rfl (hF.ev rfl) (hF.ev rfl) sz35 rfl rfl ?_; intro w10 hS_; replace hS := hS_; clear hS_; dsimp only [List.set, Nat.reduceAdd] at hS
  refine wl_nil (hK4 _ _ ?_)
  refine ws fun K5 hK5 => ?_
  refine wl_mvs (A := [_]) hF rfl ?_; clear hF a; intro a hF
  refine wl_call hF rfl rfl rfl (r_call2 en68 (hF.ev rfl) ec) (l1Below_c hbs (q := 2) _ hS rfl) ?_; clear hF a; rintro v w11 a ⟨⟨x18, rfl, h18⟩, hS_⟩ hF; replace hS := hS_; clear hS_
  refine wl hF rfl rfl rfl (r_sub (hF.ev rfl) ec) ?_; clear hF a; intro a hF
  refine wl_mvs (A := [_]) hF rfl ?_; clear hF a; intro a hF
  refine wl_nil (hK5 _ _ ?_)
  refine wp_seq_k fun K6 hK6 => ?_
  refine wp_region_todo (is := [2, 3, 4, 0, 1, 5, 6, 7, 8]) [] [4, 5, 6, 7, 8] (by kernel_rfl) hF hS ⟨trivial, by decide, by decide, by decide⟩ (by kernel_rfl) ?_; clear hF; intro hl_ wd hSd
  refine todo_pure hl_ (by kernel_rfl) rfl (gw0 rfl) rfl rfl rfl (fun a w_ hF => r_move (hF.ev rfl)) ?_
  refine todo_pure hl_ (by kernel_rfl) rfl (gw0 rfl) rfl rfl rfl (fun a w_ hF => r_move (hF.ev rfl)) ?_
  refine todo_fork [(4, [0, 1, 5, 6, 7, 8]), (0, [4, 1, 5, 6, 7, 8]), (1, [4, 0, 5, 6, 7, 8])] hl_ rfl (by kernel_rfl) (List.forall_mem_cons.2 ⟨?_, List.forall_mem_cons.2 ⟨?_, List.forall_mem_cons.2 ⟨?_, fun _ h_ => nomatch h_⟩⟩⟩)
  ·
    refine op_dw (m' := [5, 6, 7, 8]) (val := fun o : Sl.Op => .agg o.enc.toArray) (R := fun o => o.wf) rfl rfl (gw0 rfl) rfl rfl rfl rfl (fun a w_ hF => r_call1 en69 (hF.ev rfl)) (fun M_ w_ hS => l5Any_c hbs (q := 3) hS rfl) ?_; intro o24 h24; try clear hSd; try clear wd; intro wd hSd
    refine todo_load [5, 6, 7, 8] hl_ (by kernel_rfl) rfl (gw0 rfl) rfl rfl rfl (fun a w_ hF hB_ => r_loadn ag38 (hF.ev rfl) ((hSd.ext hB_).box_rd (i := 3) rfl) sz38) ?_
    refine todo_fork [(1, [5, 6, 7, 8]), (5, [1, 6, 7, 8])] hl_ rfl (by kernel_rfl) (List.forall_mem_cons.2 ⟨?_, List.forall_mem_cons.2 ⟨?_, fun _ h_ => nomatch h_⟩⟩)
    ·
      refine op_ld rfl rfl (gw0 rfl) rfl rfl rfl (fun a w_ hF hS => r_loadn ag35 (hF.ev rfl) (hS.box_rd (i := 0) rfl) sz35) ?_
      refine todo_fin hl_ rfl (by kernel_rfl) (tl := [_, _, _, _]) rfl ?_; clear hS a; intro a w12 hF hA_
      have hS := hA_.sep; clear hA_
      clear hl_; try clear hSd
      try dsimp only [List.cons_append, List.nil_append, List.set] at hS
      try clear wd
      refine wl_storew hF hS (i := 6) rfl (hF.ev rfl) (hF.ev rfl) sz38 rfl rfl ?_; intro w13 hS_; replace hS := hS_; clear hS_; dsimp only [List.set, Nat.reduceAdd] at hS
      refine wl_storew hF hS (i := 5) rfl (hF.ev rfl) (hF.ev rfl) sz35 rfl rfl ?_; intro w14 hS_; replace hS := hS_; clear hS_; dsimp only [List.set, Nat.reduceAdd] at hS
      refine wl_mvs (A := [_]) hF rfl ?_; clear hF a; intro a hF
      refine wl_storen (cs' := [_, _, _]) hF hS (i := 4) rfl (hF.ev rfl) (hF.ev rfl) sz41 ⟨rfl, rfl⟩ rfl rfl ?_; intro w15 hS_; replace hS := hS_; clear hS_; dsimp only [List.set] at hS
      refine wl_nil ⟨rfl, ?_⟩
      refine hK6 _ _ ?_
      refine wp_ret ?_
      try simp only [Exit.then, Exit.inBlock, ↓reduceIte]
      exact ret4c rfl ag38 ag35 ag41 hF hS (i1 := 6) rfl (i2 := 5) rfl (i3 := 4) rfl sz38 sz35 sz41 rfl rfl rfl rfl ⟨⟨(c13, m16, vs16, _, o24), hz16⟩, rfl, hS.pick [1] (by decide) rfl⟩
    ·
      refine op_st (j := 6) (m' := [6, 7, 8]) rfl rfl (by kernel_rfl) rfl (fun a hF => (hF.ev rfl)) (fun a hF => (hF.ev rfl)) sz38 rfl rfl ?_; try clear hSd; try clear wd; intro wd hSd; try dsimp only [List.set] at hSd
      refine todo_load [6, 7, 8] hl_ (by kernel_rfl) rfl (gw0 rfl) rfl rfl rfl (fun a w_ hF hB_ => r_loadn ag35 (hF.ev rfl) ((hSd.ext hB_).box_rd (i := 0) rfl) sz35) ?_
      refine todo_fin hl_ rfl (by kernel_rfl) (tl := [_, _, _]) rfl ?_; clear hS a; intro a w16 hF hA_
      have hS := hA_.sep; clear hA_
      clear hl_; try clear hSd
      try dsimp only [List.cons_append, List.nil_append, List.set] at hS
      try clear wd
      refine wl_storew hF hS (i := 5) rfl (hF.ev rfl) (hF.ev rfl) sz35 rfl rfl ?_; intro w17 hS_; replace hS := hS_; clear hS_; dsimp only [List.set, Nat.reduceAdd] at hS
      refine wl_mvs (A := [_]) hF rfl ?_; clear hF a; intro a hF
      refine wl_storen (cs' := [_, _, _]) hF hS (i := 4) rfl (hF.ev rfl) (hF.ev rfl) sz41 ⟨rfl, rfl⟩ rfl rfl ?_; intro w18 hS_; replace hS := hS_; clear hS_; dsimp only [List.set] at hS
      refine wl_nil ⟨rfl, ?_⟩
      refine hK6 _ _ ?_
      refine wp_ret ?_
      try simp only [Exit.then, Exit.inBlock, ↓reduceIte]
      exact ret4c rfl ag38 ag35 ag41 hF hS (i1 := 6) rfl (i2 := 5) rfl (i3 := 4) rfl sz38 sz35 sz41 rfl rfl rfl rfl ⟨⟨(c13, m16, vs16, _, o24), hz16⟩, rfl, hS.pick [1] (by decide) rfl⟩
  ·
    refine op_ld rfl rfl (gw0 rfl) rfl rfl rfl (fun a w_ hF hS => r_loadn ag38 (hF.ev rfl) (hS.box_rd (i := 3) rfl) sz38) ?_
    refine todo_fork [(4, [1, 5, 6, 7, 8]), (1, [4, 5, 6, 7, 8])] hl_ rfl (by kernel_rfl) (List.forall_mem_cons.2 ⟨?_, List.forall_mem_cons.2 ⟨?_, fun _ h_ => nomatch h_⟩⟩)
    ·
      refine op_dw (m' := [5, 6, 7, 8]) (val := fun o : Sl.Op => .agg o.enc.toArray) (R := fun o => o.wf) rfl rfl (gw0 rfl) rfl rfl rfl rfl (fun a w_ hF => r_call1 en69 (hF.ev rfl)) (fun M_ w_ hS => l5Any_c hbs (q := 3) hS rfl) ?_; intro o24 h24; try clear hSd; try clear wd; intro wd hSd
      refine todo_fork [(1, [5, 6, 7, 8]), (5, [1, 6, 7, 8])] hl_ rfl (by kernel_rfl) (List.forall_mem_cons.2 ⟨?_, List.forall_mem_cons.2 ⟨?_, fun _ h_ => nomatch h_⟩⟩)
      ·
        refine op_ld rfl rfl (gw0 rfl) rfl rfl rfl (fun a w_ hF hS => r_loadn ag35 (hF.ev rfl) (hS.box_rd (i := 0) rfl) sz35) ?_
        refine todo_fin hl_ rfl (by kernel_rfl) (tl := [_, _, _, _]) rfl ?_; clear hS a; intro a w19 hF hA_
        have hS := hA_.sep; clear hA_
        clear hl_; try clear hSd
        try dsimp only [List.cons_append, List.nil_append, List.set] at hS
        try clear wd
        refine wl_storew hF hS (i := 6) rfl (hF.ev rfl) (hF.ev rfl) sz38 rfl rfl ?_; intro w20 hS_; replace hS := hS_; clear hS_; dsimp only [List.set, Nat.reduceAdd] at hS
        refine wl_storew hF hS (i := 5) rfl (hF.ev rfl) (hF.ev rfl) sz35 rfl rfl ?_; intro w21 hS_; replace hS := hS_; clear hS_; dsimp only [List.set, Nat.reduceAdd] at hS
        refine wl_mvs (A := [_]) hF rfl ?_; clear hF a; intro a hF
        refine wl_storen (cs' := [_, _, _]) hF hS (i := 4) rfl (hF.ev rfl) (hF.ev rfl) sz41 ⟨rfl, rfl⟩ rfl rfl ?_; intro w22 hS_; replace hS := hS_; clear hS_; dsimp only [List.set] at hS
        refine wl_nil ⟨rfl, ?_⟩
        refine hK6 _ _ ?_
        refine wp_ret ?_
        try simp only [Exit.then, Exit.inBlock, ↓reduceIte]
        exact ret4c rfl ag38 ag35 ag41 hF hS (i1 := 6) rfl (i2 := 5) rfl (i3 := 4) rfl sz38 sz35 sz41 rfl rfl rfl rfl ⟨⟨(c13, m16, vs16, _, o24), hz16⟩, rfl, hS.pick [1] (by decide) rfl⟩
      ·
        refine op_st (j := 6) (m' := [6, 7, 8]) rfl rfl (by kernel_rfl) rfl (fun a hF => (hF.ev rfl)) (fun a hF => (hF.ev rfl)) sz38 rfl rfl ?_; try clear hSd; try clear wd; intro wd hSd; try dsimp only [List.set] at hSd
        refine todo_load [6, 7, 8] hl_ (by kernel_rfl) rfl (gw0 rfl) rfl rfl rfl (fun a w_ hF hB_ => r_loadn ag35 (hF.ev rfl) ((hSd.ext hB_).box_rd (i := 0) rfl) sz35) ?_
        refine todo_fin hl_ rfl (by kernel_rfl) (tl := [_, _, _]) rfl ?_; clear hS a; intro a w23 hF hA_
        have hS := hA_.sep; clear hA_
        clear hl_; try clear hSd
        try dsimp only [List.cons_append, List.nil_append, List.set] at hS
        try clear wd
        refine wl_storew hF hS (i := 5) rfl (hF.ev rfl) (hF.ev rfl) sz35 rfl rfl ?_; intro w24 hS_; replace hS := hS_; clear hS_; dsimp only [List.set, Nat.reduceAdd] at hS
        refine wl_mvs (A := [_]) hF rfl ?_; clear hF a; intro a hF
        refine wl_storen (cs' := [_, _, _]) hF hS (i := 4) rfl (hF.ev rfl) (hF.ev rfl) sz41 ⟨rfl, rfl⟩ rfl rfl ?_; intro w25 hS_; replace hS := hS_; clear hS_; dsimp only [List.set] at hS
        refine wl_nil ⟨rfl, ?_⟩
        refine hK6 _ _ ?_
        refine wp_ret ?_
        try simp only [Exit.then, Exit.inBlock, ↓reduceIte]
        exact ret4c rfl ag38 ag35 ag41 hF hS (i1 := 6) rfl (i2 := 5) rfl (i3 := 4) rfl sz38 sz35 sz41 rfl rfl rfl rfl ⟨⟨(c13, m16, vs16, _, o24), hz16⟩, rfl, hS.pick [1] (by decide) rfl⟩
    ·
      refine op_ld rfl rfl (gw0 rfl) rfl rfl rfl (fun a w_ hF hS => r_loadn ag35 (hF.ev rfl) (hS.box_rd (i := 0) rfl) sz35) ?_
      refine todo_fork [(4, [5, 6, 7, 8])] hl_ rfl (by kernel_rfl) (List.forall_mem_cons.2 ⟨?_, fun _ h_ => nomatch h_⟩)
      ·
        refine op_dw (m' := [5, 6, 7, 8]) (val := fun o : Sl.Op => .agg o.enc.toArray) (R := fun o => o.wf) rfl rfl (gw0 rfl) rfl rfl rfl rfl (fun a w_ hF => r_call1 en69 (hF.ev rfl)) (fun M_ w_ hS => l5Any_c hbs (q := 3) hS rfl) ?_; intro o24 h24; try clear hSd; try clear wd; intro wd hSd
        refine todo_fin hl_ rfl (by kernel_rfl) (tl := [_, _, _, _]) rfl ?_; clear hS a; intro a w26 hF hA_
        have hS := hA_.sep; clear hA_
        clear hl_; try clear hSd
        try dsimp only [List.cons_append, List.nil_append, List.set] at hS
        try clear wd
        refine wl_storew hF hS (i := 6) rfl (hF.ev rfl) (hF.ev rfl) sz38 rfl rfl ?_; intro w27 hS_; replace hS := hS_; clear hS_; dsimp only [List.set, Nat.reduceAdd] at hS
        refine wl_storew hF hS (i := 5) rfl (hF.ev rfl) (hF.ev rfl) sz35 rfl rfl ?_; intro w28 hS_; replace hS := hS_; clear hS_; dsimp only [List.set, Nat.reduceAdd] at hS
        refine wl_mvs (A := [_]) hF rfl ?_; clear hF a; intro a hF
        refine wl_storen (cs' := [_, _, _]) hF hS (i := 4) rfl (hF.ev rfl) (hF.ev rfl) sz41 ⟨rfl, rfl⟩ rfl rfl ?_; intro w29 hS_; replace hS := hS_; clear hS_; dsimp only [List.set] at hS
        refine wl_nil ⟨rfl, ?_⟩
        refine hK6 _ _ ?_
        refine wp_ret ?_
        try simp only [Exit.then, Exit.inBlock, ↓reduceIte]
        exact ret4c rfl ag38 ag35 ag41 hF hS (i1 := 6) rfl (i2 := 5) rfl (i3 := 4) rfl sz38 sz35 sz41 rfl rfl rfl rfl ⟨⟨(c13, m16, vs16, _, o24), hz16⟩, rfl, hS.pick [1] (by decide) rfl⟩
  ·
    refine op_ld rfl rfl (gw0 rfl) rfl rfl rfl (fun a w_ hF hS => r_loadn ag35 (hF.ev rfl) (hS.box_rd (i := 0) rfl) sz35) ?_
    refine todo_fork [(4, [0, 5, 6, 7, 8]), (0, [4, 5, 6, 7, 8])] hl_ rfl (by kernel_rfl) (List.forall_mem_cons.2 ⟨?_, List.forall_mem_cons.2 ⟨?_, fun _ h_ => nomatch h_⟩⟩)
    ·
      refine op_dw (m' := [5, 6, 7, 8]) (val := fun o : Sl.Op => .agg o.enc.toArray) (R := fun o => o.wf) rfl rfl (gw0 rfl) rfl rfl rfl rfl (fun a w_ hF => r_call1 en69 (hF.ev rfl)) (fun M_ w_ hS => l5Any_c hbs (q := 3) hS rfl) ?_; intro o24 h24; try clear hSd; try clear wd; intro wd hSd
      refine todo_load [5, 6, 7, 8] hl_ (by kernel_rfl) rfl (gw0 rfl) rfl rfl rfl (fun a w_ hF hB_ => r_loadn ag38 (hF.ev rfl) ((hSd.ext hB_).box_rd (i := 3) rfl) sz38) ?_
      refine todo_fin hl_ rfl (by kernel_rfl) (tl := [_, _, _, _]) rfl ?_; clear hS a; intro a w30 hF hA_
      have hS := hA_.sep; clear hA_
      clear hl_; try clear hSd
      try dsimp only [List.cons_append, List.nil_append, List.set] at hS
      try clear wd
      refine wl_storew hF hS (i := 6) rfl (hF.ev rfl) (hF.ev rfl) sz38 rfl rfl ?_; intro w31 hS_; replace hS := hS_; clear hS_; dsimp only [List.set, Nat.reduceAdd] at hS
      refine wl_storew hF hS (i := 5) rfl (hF.ev rfl) (hF.ev rfl) sz35 rfl rfl ?_; intro w32 hS_; replace hS := hS_; clear hS_; dsimp only [List.set, Nat.reduceAdd] at hS
      refine wl_mvs (A := [_]) hF rfl ?_; clear hF a; intro a hF
      refine wl_storen (cs' := [_, _, _]) hF hS (i := 4) rfl (hF.ev rfl) (hF.ev rfl) sz41 ⟨rfl, rfl⟩ rfl rfl ?_; intro w33 hS_; replace hS := hS_; clear hS_; dsimp only [List.set] at hS
      refine wl_nil ⟨rfl, ?_⟩
      refine hK6 _ _ ?_
      refine wp_ret ?_
      try simp only [Exit.then, Exit.inBlock, ↓reduceIte]
      exact ret4c rfl ag38 ag35 ag41 hF hS (i1 := 6) rfl (i2 := 5) rfl (i3 := 4) rfl sz38 sz35 sz41 rfl rfl rfl rfl ⟨⟨(c13, m16, vs16, _, o24), hz16⟩, rfl, hS.pick [1] (by decide) rfl⟩
    ·
      refine op_ld rfl rfl (gw0 rfl) rfl rfl rfl (fun a w_ hF hS => r_loadn ag38 (hF.ev rfl) (hS.box_rd (i := 3) rfl) sz38) ?_
      refine todo_fork [(4, [5, 6, 7, 8])] hl_ rfl (by kernel_rfl) (List.forall_mem_cons.2 ⟨?_, fun _ h_ => nomatch h_⟩)
      ·
        refine op_dw (m' := [5, 6, 7, 8]) (val := fun o : Sl.Op => .agg o.enc.toArray) (R := fun o => o.wf) rfl rfl (gw0 rfl) rfl rfl rfl rfl (fun a w_ hF => r_call1 en69 (hF.ev rfl)) (fun M_ w_ hS => l5Any_c hbs (q := 3) hS rfl) ?_; intro o24 h24; try clear hSd; try clear wd; intro wd hSd
        refine todo_fin hl_ rfl (by kernel_rfl) (tl := [_, _, _, _]) rfl ?_; clear hS a; intro a w34 hF hA_
        have hS := hA_.sep; clear hA_
        clear hl_; try clear hSd
        try dsimp only [List.cons_append, List.nil_append, List.set] at hS
        try clear wd
        refine wl_storew hF hS (i := 6) rfl (hF.ev rfl) (hF.ev rfl) sz38 rfl rfl ?_; intro w35 hS_; replace hS := hS_; clear hS_; dsimp only [List.set, Nat.reduceAdd] at hS
        refine wl_storew hF hS (i := 5) rfl (hF.ev rfl) (hF.ev rfl) sz35 rfl rfl ?_; intro w36 hS_; replace hS := hS_; clear hS_; dsimp only [List.set, Nat.reduceAdd] at hS
        refine wl_mvs (A := [_]) hF rfl ?_; clear hF a; intro a hF
        refine wl_storen (cs' := [_, _, _]) hF hS (i := 4) rfl (hF.ev rfl) (hF.ev rfl) sz41 ⟨rfl, rfl⟩ rfl rfl ?_; intro w37 hS_; replace hS := hS_; clear hS_; dsimp only [List.set] at hS
        refine wl_nil ⟨rfl, ?_⟩
        refine hK6 _ _ ?_
        refine wp_ret ?_
        try simp only [Exit.then, Exit.inBlock, ↓reduceIte]
        exact ret4c rfl ag38 ag35 ag41 hF hS (i1 := 6) rfl (i2 := 5) rfl (i3 := 4) rfl sz38 sz35 sz41 rfl rfl rfl rfl ⟨⟨(c13, m16, vs16, _, o24), hz16⟩, rfl, hS.pick [1] (by decide) rfl⟩

set_option maxHeartbeats 4000000 in
set_option maxRecDepth 20000 in
theorem drawExplains_c {W : World} {vb : Value} {bs : List Int} (hb : byteEK.Rd W vb bs) (hz : bs.length ≤ 1048576) : Calls Try.prog 38 #[vb] W (Ret (Mk W (fun z : {z : Config × Model × List Slv × Sl.Event // z.2.1.size ≤ 200} => .tuple #[.agg z.1.1.enc.toArray, .agg (modelEK.cells z.1.2.1 z.1.2.2.1).toArray, .agg z.1.2.2.2.enc.toArray]) (fun z => [Part modelEK z.1.2.1 z.1.2.2.1]))) := by
  refine calls_fr Try.func38 rfl Try.ntmps38 rfl ?_
  intro a hF
  have hS := Sep.refl W
  refine ws fun K1 hK1 => ?_
  refine wl_alloc hF hS rfl zr38 ?_; clear hF a; intro g1 w1 a hS_ hB_ hF; replace hS := hS_; clear hS_ hB_
  refine wl_alloc hF hS rfl zr35 ?_; clear hF a; intro g2 w2 a hS_ hB_ hF; replace hS := hS_; clear hS_ hB_
  refine wl_alloc hF hS rfl zr44 ?_; clear hF a; intro g3 w3 a hS_ hB_ hF; replace hS := hS_; clear hS_ hB_
  refine wl_nil (hK1 _ _ ?_)
  refine ws fun K2 hK2 => ?_
  refine wl_mvs (A := [_]) hF rfl ?_; clear hF a; intro a hF
  refine wl_mk hF hS rfl rfl rfl (r_call1 en65 (hF.ev rfl)) (l1New_c (hS.rd hb) (by omega)) ?_; clear hF a; rintro g10 w4 a hS_ hF; replace hS := hS_; clear hS_; dsimp only [List.cons_append, List.nil_append] at hS
  have hbs := hb
  refine wl_mvs (A := [_]) hF rfl ?_; clear hF a; intro a hF
  refine wl_nil (hK2 _ _ ?_)
  refine ws fun K3 hK3 => ?_
  refine wl_mvs (A := [_]) hF rfl ?_; clear hF a; intro a hF
  refine wl_call hF rfl rfl rfl (r_call1 en66 (hF.ev rfl)) (l3Any_c hbs (q := 0) hS rfl) ?_; clear hF a; rintro v w5 a ⟨⟨c12, rfl, h12⟩, hS_⟩ hF; replace hS := hS_; clear hS_
  refine wl_alloc hF hS rfl zr38 ?_; clear hF a; intro g4 w6 a hS_ hB_ hF; replace hS := hS_; clear hS_ hB_
  refine wl_storen (cs' := [_, _, _, _, _, _]) hF hS (i := 0) rfl (hF.ev rfl) (hF.ev rfl) sz38 ⟨rfl, rfl⟩ rfl rfl ?_; intro w7 hS_; replace hS := hS_; clear hS_; dsimp only [List.set] at hS
  refine wl_nil (hK3 _ _ ?_)
  refine ws fun K4 hK4 => ?_
  refine wl_mvs (A := [_]) hF rfl ?_; clear hF a; intro a hF
  refine wl hF rfl rfl rfl (r_loadn ag38 (hF.ev rfl) (hS.box_rd (i := 0) rfl) sz38) ?_; clear hF a; intro a hF
  replace hS := hS.pull (p := 1) rfl; dsimp only [List.eraseIdx] at hS
  refine wl_call hF rfl rfl rfl (r_call2 en67 (hF.ev rfl) (hF.ev rfl)) (l19Model_h hbs _ hS) ?_; clear hF a; rintro v w8 a ⟨⟨m15, vs15⟩, ⟨rfl, hz15⟩, hS_⟩ hF; replace hS := hS_; clear hS_
  try dsimp only at hz15
  refine wl_alloc hF hS rfl zr35 ?_; clear hF a; intro g5 w9 a hS_ hB_ hF; replace hS := hS_; clear hS_ hB_
  refine wl_storew hF hS (i := 0) rfl (hF.ev rfl) (hF.ev rfl) sz35 rfl rfl ?_; intro w10 hS_; replace hS := hS_; clear hS_; dsimp only [List.set, Nat.reduceAdd] at hS
  refine wl_nil (hK4 _ _ ?_)
  refine ws fun K5 hK5 => ?_
  refine wl_mvs (A := [_]) hF rfl ?_; clear hF a; intro a hF
  refine wl_call hF rfl rfl rfl (r_call1 en77 (hF.ev rfl)) (l19Event_c hbs (q := 2) hS rfl) ?_; clear hF a; rintro v w11 a ⟨⟨e17, rfl⟩, hS_⟩ hF; replace hS := hS_; clear hS_
  refine wl_alloc hF hS rfl zr44 ?_; clear hF a; intro g6 w12 a hS_ hB_ hF; replace hS := hS_; clear hS_ hB_
  refine wl_storen (cs' := [_, _, _, _, _, _, _, _]) hF hS (i := 0) rfl (hF.ev rfl) (hF.ev rfl) sz44 ⟨rfl, rfl⟩ rfl rfl ?_; intro w13 hS_; replace hS := hS_; clear hS_; dsimp only [List.set] at hS
  refine wl_nil (hK5 _ _ ?_)
  refine wp_seq_k fun K6 hK6 => ?_
  refine ws fun K7 hK7 => ?_
  refine wl_mvs (A := [_]) hF rfl ?_; clear hF a; intro a hF
  refine wl_call hF rfl rfl rfl (r_call2 en78 (hF.ev rfl) ec) (l1Once_c hbs (q := 3) _ hS rfl) ?_; clear hF a; rintro v w14 a ⟨⟨b19, rfl⟩, hS_⟩ hF; replace hS := hS_; clear hS_
  refine wl_nil (hK7 _ _ ?_)
  refine wc_fx (t := 19) hF rfl ?_ ?_ <;> clear hF <;> intro c19 hF <;> try simp only [zb1, zb2, zb3, zb4, zb5, zb6, zb7, zb8] at c19
  ·
    refine wp_region_lit ?_
    refine wl hF rfl rfl rfl (r_loadn ag38 (hF.ev rfl) (hS.box_rd (i := 4) rfl) sz38) ?_; clear hF a; intro a hF
    refine wl hF rfl rfl rfl (r_loadn ag35 (hF.ev rfl) (hS.box_rd (i := 1) rfl) sz35) ?_; clear hF a; intro a hF
    refine wl hF rfl rfl rfl (r_field fo44_0 (hF.ev rfl)) ?_; clear hF a; intro a hF
    refine wl hF rfl rfl rfl (r_load1 sc3 (hF.ev rfl) (hS.box (i := 0) rfl rfl)) ?_; clear hF a; intro a hF
    refine wl hF rfl rfl rfl (r_field fo44_1 (hF.ev rfl)) ?_; clear hF a; intro a hF
    refine wl hF rfl rfl rfl (r_loadn ag41 (hF.ev rfl) (hS.boxn (vs := [_, _, _]) (i := 0) (m := 3) rfl rfl) sz41) ?_; clear hF a; intro a hF
    refine wl_mk hF hS rfl rfl rfl (r_call4 en34 (hF.ev rfl) (hF.ev rfl) (hF.ev rfl) (hF.ev rfl)) (specApplyModel_c (hS.part_k (i := 2) rfl) (by omega)) ?_; clear hF a; rintro vs27 w15 a hS_ hF; replace hS := hS_; clear hS_; dsimp only [List.cons_append, List.nil_append] at hS
    refine wl_mvs (A := [_]) hF rfl ?_; clear hF a; intro a hF
    refine wl hF rfl rfl rfl (r_extract (hF.ev rfl) rfl) ?_; clear hF a; intro a hF
    refine wl hF rfl rfl rfl (r_extract (hF.ev rfl) rfl) ?_; clear hF a; intro a hF
    refine wl hF rfl rfl rfl (r_field fo44_2 (hF.ev rfl)) ?_; clear hF a; intro a hF
    refine wl_storen (cs' := [_, _, _, _, _, _, _, _]) hF hS (i := 1) rfl (hF.ev rfl) (hF.ev rfl) sz42 ⟨rfl, rfl⟩ rfl rfl ?_; intro w16 hS_; replace hS := hS_; clear hS_; dsimp only [List.set] at hS
    refine wl_nil (hK6 _ _ ?_)
    refine wp_seq_k fun K8 hK8 => ?_
    refine wp_region_todo (is := [0, 1, 2, 3, 4, 5]) [] [3, 4, 5] (by kernel_rfl) hF hS ⟨trivial, by decide, by decide, by decide⟩ (by kernel_rfl) ?_; clear hF; intro hl_ wd hSd
    refine todo_load [3, 4, 5] hl_ (by kernel_rfl) rfl (gw0 rfl) rfl rfl rfl (fun a w_ hF hB_ => r_loadn ag38 (hF.ev rfl) ((hSd.ext hB_).box_rd (i := 5) rfl) sz38) ?_
    refine todo_fork [(1, [2, 3, 4, 5]), (2, [1, 3, 4, 5]), (3, [1, 2, 4, 5])] hl_ rfl (by kernel_rfl) (List.forall_mem_cons.2 ⟨?_, List.forall_mem_cons.2 ⟨?_, List.forall_mem_cons.2 ⟨?_, fun _ h_ => nomatch h_⟩⟩⟩)
    ·
      refine op_ld rfl rfl (gw0 rfl) rfl rfl rfl (fun a w_ hF hS => r_loadn ag35 (hF.ev rfl) (hS.box_rd (i := 2) rfl) sz35) ?_
      refine todo_fork [(2, [3, 4, 5]), (3, [2, 4, 5])] hl_ rfl (by kernel_rfl) (List.forall_mem_cons.2 ⟨?_, List.forall_mem_cons.2 ⟨?_, fun _ h_ => nomatch h_⟩⟩)
      ·
        refine op_ld rfl rfl (gw0 rfl) rfl rfl rfl (fun a w_ hF hS => r_loadn ag44 (hF.ev rfl) (hS.box_rd (i := 1) rfl) sz44) ?_
        refine todo_fin hl_ rfl (by kernel_rfl) (tl := [_, _, _]) rfl ?_; clear hS a; intro a w17 hF hA_
        have hS := hA_.sep; clear hA_
        clear hl_; try clear hSd
        try dsimp only [List.cons_append, List.nil_append, List.set] at hS
        try clear wd
        refine wl_storew hF hS (i := 8) rfl (hF.ev rfl) (hF.ev rfl) sz38 rfl rfl ?_; intro w18 hS_; replace hS := hS_; clear hS_; dsimp only [List.set, Nat.reduceAdd] at hS
        refine wl_storew hF hS (i := 7) rfl (hF.ev rfl) (hF.ev rfl) sz35 rfl rfl ?_; intro w19 hS_; replace hS := hS_; clear hS_; dsimp only [List.set, Nat.reduceAdd] at hS
        refine wl_storew hF hS (i := 6) rfl (hF.ev rfl) (hF.ev rfl) sz44 rfl rfl ?_; intro w20 hS_; replace hS := hS_; clear hS_; dsimp only [List.set, Nat.reduceAdd] at hS
        refine wl_nil ⟨rfl, ?_⟩
        refine hK8 _ _ ?_
        refine wp_ret ?_
        try simp only [Exit.then, Exit.inBlock, ↓reduceIte]
        first
          | exact ret3c rfl ag38 ag35 ag44 hF hS (i1 := 8) rfl (i2 := 7) rfl (i3 := 6) rfl sz38 sz35 sz44 rfl rfl rfl ⟨⟨(c12, m15, vs15, e17), hz15⟩, rfl, hS.pick [3] (by decide) rfl⟩
          | exact ret3c rfl ag38 ag35 ag44 hF hS (i1 := 8) rfl (i2 := 7) rfl (i3 := 6) rfl sz38 sz35 sz44 rfl rfl rfl ⟨⟨(c12, m15, vs15, ⟨e17.thread, e17.op, (applyModel c12 m15 e17.thread e17.op).2, e17.start, e17.fin⟩), hz15⟩, rfl, hS.pick [3] (by decide) rfl⟩
      ·
        refine op_st (j := 8) (m' := [4, 5]) rfl rfl (by kernel_rfl) rfl (fun a hF => (hF.ev rfl)) (fun a hF => (hF.ev rfl)) sz38 rfl rfl ?_; try clear hSd; try clear wd; intro wd hSd; try dsimp only [List.set] at hSd
        refine todo_fork [(2, [4, 5]), (4, [2, 5])] hl_ rfl (by kernel_rfl) (List.forall_mem_cons.2 ⟨?_, List.forall_mem_cons.2 ⟨?_, fun _ h_ => nomatch h_⟩⟩)
        ·
          refine op_ld rfl rfl (gw0 rfl) rfl rfl rfl (fun a w_ hF hS => r_loadn ag44 (hF.ev rfl) (hS.box_rd (i := 1) rfl) sz44) ?_
          refine todo_fin hl_ rfl (by kernel_rfl) (tl := [_, _]) rfl ?_; clear hS a; intro a w21 hF hA_
          have hS := hA_.sep; clear hA_
          clear hl_; try clear hSd
          try dsimp only [List.cons_append, List.nil_append, List.set] at hS
          try clear wd
          refine wl_storew hF hS (i := 7) rfl (hF.ev rfl) (hF.ev rfl) sz35 rfl rfl ?_; intro w22 hS_; replace hS := hS_; clear hS_; dsimp only [List.set, Nat.reduceAdd] at hS
          refine wl_storew hF hS (i := 6) rfl (hF.ev rfl) (hF.ev rfl) sz44 rfl rfl ?_; intro w23 hS_; replace hS := hS_; clear hS_; dsimp only [List.set, Nat.reduceAdd] at hS
          refine wl_nil ⟨rfl, ?_⟩
          refine hK8 _ _ ?_
          refine wp_ret ?_
          try simp only [Exit.then, Exit.inBlock, ↓reduceIte]
          first
            | exact ret3c rfl ag38 ag35 ag44 hF hS (i1 := 8) rfl (i2 := 7) rfl (i3 := 6) rfl sz38 sz35 sz44 rfl rfl rfl ⟨⟨(c12, m15, vs15, e17), hz15⟩, rfl, hS.pick [3] (by decide) rfl⟩
            | exact ret3c rfl ag38 ag35 ag44 hF hS (i1 := 8) rfl (i2 := 7) rfl (i3 := 6) rfl sz38 sz35 sz44 rfl rfl rfl ⟨⟨(c12, m15, vs15, ⟨e17.thread, e17.op, (applyModel c12 m15 e17.thread e17.op).2, e17.start, e17.fin⟩), hz15⟩, rfl, hS.pick [3] (by decide) rfl⟩
        ·
          refine op_st (j := 7) (m' := [5]) rfl rfl (by kernel_rfl) rfl (fun a hF => (hF.ev rfl)) (fun a hF => (hF.ev rfl)) sz35 rfl rfl ?_; try clear hSd; try clear wd; intro wd hSd; try dsimp only [List.set] at hSd
          refine todo_load [5] hl_ (by kernel_rfl) rfl (gw0 rfl) rfl rfl rfl (fun a w_ hF hB_ => r_loadn ag44 (hF.ev rfl) ((hSd.ext hB_).box_rd (i := 1) rfl) sz44) ?_
          refine todo_fin hl_ rfl (by kernel_rfl) (tl := [_]) rfl ?_; clear hS a; intro a w24 hF hA_
          have hS := hA_.sep; clear hA_
          clear hl_; try clear hSd
          try dsimp only [List.cons_append, List.nil_append, List.set] at hS
          try clear wd
          refine wl_storew hF hS (i := 6) rfl (hF.ev rfl) (hF.ev rfl) sz44 rfl rfl ?_; intro w25 hS_; replace hS := hS_; clear hS_; dsimp only [List.set, Nat.reduceAdd] at hS
          refine wl_nil ⟨rfl, ?_⟩
          refine hK8 _ _ ?_
          refine wp_ret ?_
          try simp only [Exit.then, Exit.inBlock, ↓reduceIte]
          first
            | exact ret3c rfl ag38 ag35 ag44 hF hS (i1 := 8) rfl (i2 := 7) rfl (i3 := 6) rfl sz38 sz35 sz44 rfl rfl rfl ⟨⟨(c12, m15, vs15, e17), hz15⟩, rfl, hS.pick [3] (by decide) rfl⟩
            | exact ret3c rfl ag38 ag35 ag44 hF hS (i1 := 8) rfl (i2 := 7) rfl (i3 := 6) rfl sz38 sz35 sz44 rfl rfl rfl ⟨⟨(c12, m15, vs15, ⟨e17.thread, e17.op, (applyModel c12 m15 e17.thread e17.op).2, e17.start, e17.fin⟩), hz15⟩, rfl, hS.pick [3] (by decide) rfl⟩
    ·
      refine op_ld rfl rfl (gw0 rfl) rfl rfl rfl (fun a w_ hF hS => r_loadn ag44 (hF.ev rfl) (hS.box_rd (i := 1) rfl) sz44) ?_
      refine todo_fork [(1, [3, 4, 5]), (3, [1, 4, 5])] hl_ rfl (by kernel_rfl) (List.forall_mem_cons.2 ⟨?_, List.forall_mem_cons.2 ⟨?_, fun _ h_ => nomatch h_⟩⟩)
      ·
        refine op_ld rfl rfl (gw0 rfl) rfl rfl rfl (fun a w_ hF hS => r_loadn ag35 (hF.ev rfl) (hS.box_rd (i := 2) rfl) sz35) ?_
        refine todo_fin hl_ rfl (by kernel_rfl) (tl := [_, _, _]) rfl ?_; clear hS a; intro a w26 hF hA_
        have hS := hA_.sep; clear hA_
        clear hl_; try clear hSd
        try dsimp only [List.cons_append, List.nil_append, List.set] at hS
        try clear wd
        refine wl_storew hF hS (i := 8) rfl (hF.ev rfl) (hF.ev rfl) sz38 rfl rfl ?_; intro w27 hS_; replace hS := hS_; clear hS_; dsimp only [List.set, Nat.reduceAdd] at hS
        refine wl_storew hF hS (i := 7) rfl (hF.ev rfl) (hF.ev rfl) sz35 rfl rfl ?_; intro w28 hS_; replace hS := hS_; clear hS_; dsimp only [List.set, Nat.reduceAdd] at hS
        refine wl_storew hF hS (i := 6) rfl (hF.ev rfl) (hF.ev rfl) sz44 rfl rfl ?_; intro w29 hS_; replace hS := hS_; clear hS_; dsimp only [List.set, Nat.reduceAdd] at hS
        refine wl_nil ⟨rfl, ?_⟩
        refine hK8 _ _ ?_
        refine wp_ret ?_
        try simp only [Exit.then, Exit.inBlock, ↓reduceIte]
        first
          | exact ret3c rfl ag38 ag35 ag44 hF hS (i1 := 8) rfl (i2 := 7) rfl (i3 := 6) rfl sz38 sz35 sz44 rfl rfl rfl ⟨⟨(c12, m15, vs15, e17), hz15⟩, rfl, hS.pick [3] (by decide) rfl⟩
          | exact ret3c rfl ag38 ag35 ag44 hF hS (i1 := 8) rfl (i2 := 7) rfl (i3 := 6) rfl sz38 sz35 sz44 rfl rfl rfl ⟨⟨(c12, m15, vs15, ⟨e17.thread, e17.op, (applyModel c12 m15 e17.thread e17.op).2, e17.start, e17.fin⟩), hz15⟩, rfl, hS.pick [3] (by decide) rfl⟩
      ·
        refine op_st (j := 8) (m' := [4, 5]) rfl rfl (by kernel_rfl) rfl (fun a hF => (hF.ev rfl)) (fun a hF => (hF.ev rfl)) sz38 rfl rfl ?_; try clear hSd; try clear wd; intro wd hSd; try dsimp only [List.set] at hSd
        refine todo_load [4, 5] hl_ (by kernel_rfl) rfl (gw0 rfl) rfl rfl rfl (fun a w_ hF hB_ => r_loadn ag35 (hF.ev rfl) ((hSd.ext hB_).box_rd (i := 2) rfl) sz35) ?_
        refine todo_fin hl_ rfl (by kernel_rfl) (tl := [_, _]) rfl ?_; clear hS a; intro a w30 hF hA_
        have hS := hA_.sep; clear hA_
        clear hl_; try clear hSd
        try dsimp only [List.cons_append, List.nil_append, List.set] at hS
        try clear wd
        refine wl_storew hF hS (i := 7) rfl (hF.ev rfl) (hF.ev rfl) sz35 rfl rfl ?_; intro w31 hS_; replace hS := hS_; clear hS_; dsimp only [List.set, Nat.reduceAdd] at hS
        refine wl_storew hF hS (i := 6) rfl (hF.ev rfl) (hF.ev rfl) sz44 rfl rfl ?_; intro w32 hS_; replace hS := hS_; clear hS_; dsimp only [List.set, Nat.reduceAdd] at hS
        refine wl_nil ⟨rfl, ?_⟩
        refine hK8 _ _ ?_
        refine wp_ret ?_
        try simp only [Exit.then, Exit.inBlock, ↓reduceIte]
        first
          | exact ret3c rfl ag38 ag35 ag44 hF hS (i1 := 8) rfl (i2 := 7) rfl (i3 := 6) rfl sz38 sz35 sz44 rfl rfl rfl ⟨⟨(c12, m15, vs15, e17), hz15⟩, rfl, hS.pick [3] (by decide) rfl⟩
          | exact ret3c rfl ag38 ag35 ag44 hF hS (i1 := 8) rfl (i2 := 7) rfl (i3 := 6) rfl sz38 sz35 sz44 rfl rfl rfl ⟨⟨(c12, m15, vs15, ⟨e17.thread, e17.op, (applyModel c12 m15 e17.thread e17.op).2, e17.start, e17.fin⟩), hz15⟩, rfl, hS.pick [3] (by decide) rfl⟩
    ·
      refine op_st (j := 8) (m' := [4, 5]) rfl rfl (by kernel_rfl) rfl (fun a hF => (hF.ev rfl)) (fun a hF => (hF.ev rfl)) sz38 rfl rfl ?_; try clear hSd; try clear wd; intro wd hSd; try dsimp only [List.set] at hSd
      refine todo_load [4, 5] hl_ (by kernel_rfl) rfl (gw0 rfl) rfl rfl rfl (fun a w_ hF hB_ => r_loadn ag35 (hF.ev rfl) ((hSd.ext hB_).box_rd (i := 2) rfl) sz35) ?_
      refine todo_fork [(2, [4, 5]), (4, [2, 5])] hl_ rfl (by kernel_rfl) (List.forall_mem_cons.2 ⟨?_, List.forall_mem_cons.2 ⟨?_, fun _ h_ => nomatch h_⟩⟩)
      ·
        refine op_ld rfl rfl (gw0 rfl) rfl rfl rfl (fun a w_ hF hS => r_loadn ag44 (hF.ev rfl) (hS.box_rd (i := 1) rfl) sz44) ?_
        refine todo_fin hl_ rfl (by kernel_rfl) (tl := [_, _]) rfl ?_; clear hS a; intro a w33 hF hA_
        have hS := hA_.sep; clear hA_
        clear hl_; try clear hSd
        try dsimp only [List.cons_append, List.nil_append, List.set] at hS
        try clear wd
        refine wl_storew hF hS (i := 7) rfl (hF.ev rfl) (hF.ev rfl) sz35 rfl rfl ?_; intro w34 hS_; replace hS := hS_; clear hS_; dsimp only [List.set, Nat.reduceAdd] at hS
        refine wl_storew hF hS (i := 6) rfl (hF.ev rfl) (hF.ev rfl) sz44 rfl rfl ?_; intro w35 hS_; replace hS := hS_; clear hS_; dsimp only [List.set, Nat.reduceAdd] at hS
        refine wl_nil ⟨rfl, ?_⟩
        refine hK8 _ _ ?_
        refine wp_ret ?_
        try simp only [Exit.then, Exit.inBlock, ↓reduceIte]
        first
          | exact ret3c rfl ag38 ag35 ag44 hF hS (i1 := 8) rfl (i2 := 7) rfl (i3 := 6) rfl sz38 sz35 sz44 rfl rfl rfl ⟨⟨(c12, m15, vs15, e17), hz15⟩, rfl, hS.pick [3] (by decide) rfl⟩
          | exact ret3c rfl ag38 ag35 ag44 hF hS (i1 := 8) rfl (i2 := 7) rfl (i3 := 6) rfl sz38 sz35 sz44 rfl rfl rfl ⟨⟨(c12, m15, vs15, ⟨e17.thread, e17.op, (applyModel c12 m15 e17.thread e17.op).2, e17.start, e17.fin⟩), hz15⟩, rfl, hS.pick [3] (by decide) rfl⟩
      ·
        refine op_st (j := 7) (m' := [5]) rfl rfl (by kernel_rfl) rfl (fun a hF => (hF.ev rfl)) (fun a hF => (hF.ev rfl)) sz35 rfl rfl ?_; try clear hSd; try clear wd; intro wd hSd; try dsimp only [List.set] at hSd
        refine todo_load [5] hl_ (by kernel_rfl) rfl (gw0 rfl) rfl rfl rfl (fun a w_ hF hB_ => r_loadn ag44 (hF.ev rfl) ((hSd.ext hB_).box_rd (i := 1) rfl) sz44) ?_
        refine todo_fin hl_ rfl (by kernel_rfl) (tl := [_]) rfl ?_; clear hS a; intro a w36 hF hA_
        have hS := hA_.sep; clear hA_
        clear hl_; try clear hSd
        try dsimp only [List.cons_append, List.nil_append, List.set] at hS
        try clear wd
        refine wl_storew hF hS (i := 6) rfl (hF.ev rfl) (hF.ev rfl) sz44 rfl rfl ?_; intro w37 hS_; replace hS := hS_; clear hS_; dsimp only [List.set, Nat.reduceAdd] at hS
        refine wl_nil ⟨rfl, ?_⟩
        refine hK8 _ _ ?_
        refine wp_ret ?_
        try simp only [Exit.then, Exit.inBlock, ↓reduceIte]
        first
          | exact ret3c rfl ag38 ag35 ag44 hF hS (i1 := 8) rfl (i2 := 7) rfl (i3 := 6) rfl sz38 sz35 sz44 rfl rfl rfl ⟨⟨(c12, m15, vs15, e17), hz15⟩, rfl, hS.pick [3] (by decide) rfl⟩
          | exact ret3c rfl ag38 ag35 ag44 hF hS (i1 := 8) rfl (i2 := 7) rfl (i3 := 6) rfl sz38 sz35 sz44 rfl rfl rfl ⟨⟨(c12, m15, vs15, ⟨e17.thread, e17.op, (applyModel c12 m15 e17.thread e17.op).2, e17.start, e17.fin⟩), hz15⟩, rfl, hS.pick [3] (by decide) rfl⟩
  refine wp_skip ?_
  refine hK6 _ _ ?_
  refine wp_seq_k fun K9 hK9 => ?_
  refine wp_region_todo (is := [0, 1, 2, 3, 4, 5]) [] [3, 4, 5] (by kernel_rfl) hF hS ⟨trivial, by decide, by decide, by decide⟩ (by kernel_rfl) ?_; clear hF; intro hl_ wd hSd
  refine todo_load [3, 4, 5] hl_ (by kernel_rfl) rfl (gw0 rfl) rfl rfl rfl (fun a w_ hF hB_ => r_loadn ag38 (hF.ev rfl) ((hSd.ext hB_).box_rd (i := 4) rfl) sz38) ?_
  refine todo_fork [(1, [2, 3, 4, 5]), (2, [1, 3, 4, 5]), (3, [1, 2, 4, 5])] hl_ rfl (by kernel_rfl) (List.forall_mem_cons.2 ⟨?_, List.forall_mem_cons.2 ⟨?_, List.forall_mem_cons.2 ⟨?_, fun _ h_ => nomatch h_⟩⟩⟩)
  ·
    refine op_ld rfl rfl (gw0 rfl) rfl rfl rfl (fun a w_ hF hS => r_loadn ag35 (hF.ev rfl) (hS.box_rd (i := 1) rfl) sz35) ?_
    refine todo_fork [(2, [3, 4, 5]), (3, [2, 4, 5])] hl_ rfl (by kernel_rfl) (List.forall_mem_cons.2 ⟨?_, List.forall_mem_cons.2 ⟨?_, fun _ h_ => nomatch h_⟩⟩)
    ·
      refine op_ld rfl rfl (gw0 rfl) rfl rfl rfl (fun a w_ hF hS => r_loadn ag44 (hF.ev rfl) (hS.box_rd (i := 0) rfl) sz44) ?_
      refine todo_fin hl_ rfl (by kernel_rfl) (tl := [_, _, _]) rfl ?_; clear hS a; intro a w38 hF hA_
      have hS := hA_.sep; clear hA_
      clear hl_; try clear hSd
      try dsimp only [List.cons_append, List.nil_append, List.set] at hS
      try clear wd
      refine wl_storew hF hS (i := 7) rfl (hF.ev rfl) (hF.ev rfl) sz38 rfl rfl ?_; intro w39 hS_; replace hS := hS_; clear hS_; dsimp only [List.set, Nat.reduceAdd] at hS
      refine wl_storew hF hS (i := 6) rfl (hF.ev rfl) (hF.ev rfl) sz35 rfl rfl ?_; intro w40 hS_; replace hS := hS_; clear hS_; dsimp only [List.set, Nat.reduceAdd] at hS
      refine wl_storew hF hS (i := 5) rfl (hF.ev rfl) (hF.ev rfl) sz44 rfl rfl ?_; intro w41 hS_; replace hS := hS_; clear hS_; dsimp only [List.set, Nat.reduceAdd] at hS
      refine wl_nil ⟨rfl, ?_⟩
      refine hK9 _ _ ?_
      refine wp_ret ?_
      try simp only [Exit.then, Exit.inBlock, ↓reduceIte]
      first
        | exact ret3c rfl ag38 ag35 ag44 hF hS (i1 := 7) rfl (i2 := 6) rfl (i3 := 5) rfl sz38 sz35 sz44 rfl rfl rfl ⟨⟨(c12, m15, vs15, e17), hz15⟩, rfl, hS.pick [2] (by decide) rfl⟩
        | exact ret3c rfl ag38 ag35 ag44 hF hS (i1 := 7) rfl (i2 := 6) rfl (i3 := 5) rfl sz38 sz35 sz44 rfl rfl rfl ⟨⟨(c12, m15, vs15, ⟨e17.thread, e17.op, (applyModel c12 m15 e17.thread e17.op).2, e17.start, e17.fin⟩), hz15⟩, rfl, hS.pick [2] (by decide) rfl⟩
    ·
      refine op_st (j := 7) (m' := [4, 5]) rfl rfl (by kernel_rfl) rfl (fun a hF => (hF.ev rfl)) (fun a hF => (hF.ev rfl)) sz38 rfl rfl ?_; try clear hSd; try clear wd; intro wd hSd; try dsimp only [List.set] at hSd
      refine todo_fork [(2, [4, 5]), (4, [2, 5])] hl_ rfl (by kernel_rfl) (List.forall_mem_cons.2 ⟨?_, List.forall_mem_cons.2 ⟨?_, fun _ h_ => nomatch h_⟩⟩)
      ·
        refine op_ld rfl rfl (gw0 rfl) rfl rfl rfl (fun a w_ hF hS => r_loadn ag44 (hF.ev rfl) (hS.box_rd (i := 0) rfl) sz44) ?_
        refine todo_fin hl_ rfl (by kernel_rfl) (tl := [_, _]) rfl ?_; clear hS a; intro a w42 hF hA_
        have hS := hA_.sep; clear hA_
        clear hl_; try clear hSd
        try dsimp only [List.cons_append, List.nil_append, List.set] at hS
        try clear wd
        refine wl_storew hF hS (i := 6) rfl (hF.ev rfl) (hF.ev rfl) sz35 rfl rfl ?_; intro w43 hS_; replace hS := hS_; clear hS_; dsimp only [List.set, Nat.reduceAdd] at hS
        refine wl_storew hF hS (i := 5) rfl (hF.ev rfl) (hF.ev rfl) sz44 rfl rfl ?_; intro w44 hS_; replace hS := hS_; clear hS_; dsimp only [List.set, Nat.reduceAdd] at hS
        refine wl_nil ⟨rfl, ?_⟩
        refine hK9 _ _ ?_
        refine wp_ret ?_
        try simp only [Exit.then, Exit.inBlock, ↓reduceIte]
        first
          | exact ret3c rfl ag38 ag35 ag44 hF hS (i1 := 7) rfl (i2 := 6) rfl (i3 := 5) rfl sz38 sz35 sz44 rfl rfl rfl ⟨⟨(c12, m15, vs15, e17), hz15⟩, rfl, hS.pick [2] (by decide) rfl⟩
          | exact ret3c rfl ag38 ag35 ag44 hF hS (i1 := 7) rfl (i2 := 6) rfl (i3 := 5) rfl sz38 sz35 sz44 rfl rfl rfl ⟨⟨(c12, m15, vs15, ⟨e17.thread, e17.op, (applyModel c12 m15 e17.thread e17.op).2, e17.start, e17.fin⟩), hz15⟩, rfl, hS.pick [2] (by decide) rfl⟩
      ·
        refine op_st (j := 6) (m' := [5]) rfl rfl (by kernel_rfl) rfl (fun a hF => (hF.ev rfl)) (fun a hF => (hF.ev rfl)) sz35 rfl rfl ?_; try clear hSd; try clear wd; intro wd hSd; try dsimp only [List.set] at hSd
        refine todo_load [5] hl_ (by kernel_rfl) rfl (gw0 rfl) rfl rfl rfl (fun a w_ hF hB_ => r_loadn ag44 (hF.ev rfl) ((hSd.ext hB_).box_rd (i := 0) rfl) sz44) ?_
        refine todo_fin hl_ rfl (by kernel_rfl) (tl := [_]) rfl ?_; clear hS a; intro a w45 hF hA_
        have hS := hA_.sep; clear hA_
        clear hl_; try clear hSd
        try dsimp only [List.cons_append, List.nil_append, List.set] at hS
        try clear wd
        refine wl_storew hF hS (i := 5) rfl (hF.ev rfl) (hF.ev rfl) sz44 rfl rfl ?_; intro w46 hS_; replace hS := hS_; clear hS_; dsimp only [List.set, Nat.reduceAdd] at hS
        refine wl_nil ⟨rfl, ?_⟩
        refine hK9 _ _ ?_
        refine wp_ret ?_
        try simp only [Exit.then, Exit.inBlock, ↓reduceIte]
        first
          | exact ret3c rfl ag38 ag35 ag44 hF hS (i1 := 7) rfl (i2 := 6) rfl (i3 := 5) rfl sz38 sz35 sz44 rfl rfl rfl ⟨⟨(c12, m15, vs15, e17), hz15⟩, rfl, hS.pick [2] (by decide) rfl⟩
          | exact ret3c rfl ag38 ag35 ag44 hF hS (i1 := 7) rfl (i2 := 6) rfl (i3 := 5) rfl sz38 sz35 sz44 rfl rfl rfl ⟨⟨(c12, m15, vs15, ⟨e17.thread, e17.op, (applyModel c12 m15 e17.thread e17.op).2, e17.start, e17.fin⟩), hz15⟩, rfl, hS.pick [2] (by decide) rfl⟩
  ·
    refine op_ld rfl rfl (gw0 rfl) rfl rfl rfl (fun a w_ hF hS => r_loadn ag44 (hF.ev rfl) (hS.box_rd (i := 0) rfl) sz44) ?_
    refine todo_fork [(1, [3, 4, 5]), (3, [1, 4, 5])] hl_ rfl (by kernel_rfl) (List.forall_mem_cons.2 ⟨?_, List.forall_mem_cons.2 ⟨?_, fun _ h_ => nomatch h_⟩⟩)
    ·
      refine op_ld rfl rfl (gw0 rfl) rfl rfl rfl (fun a w_ hF hS => r_loadn ag35 (hF.ev rfl) (hS.box_rd (i := 1) rfl) sz35) ?_
      refine todo_fin hl_ rfl (by kernel_rfl) (tl := [_, _, _]) rfl ?_; clear hS a; intro a w47 hF hA_
      have hS := hA_.sep; clear hA_
      clear hl_; try clear hSd
      try dsimp only [List.cons_append, List.nil_append, List.set] at hS
      try clear wd
      refine wl_storew hF hS (i := 7) rfl (hF.ev rfl) (hF.ev rfl) sz38 rfl rfl ?_; intro w48 hS_; replace hS := hS_; clear hS_; dsimp only [List.set, Nat.reduceAdd] at hS
      refine wl_storew hF hS (i := 6) rfl (hF.ev rfl) (hF.ev rfl) sz35 rfl rfl ?_; intro w49 hS_; replace hS := hS_; clear hS_; dsimp only [List.set, Nat.reduceAdd] at hS
      refine wl_storew hF hS (i := 5) rfl (hF.ev rfl) (hF.ev rfl) sz44 rfl rfl ?_; intro w50 hS_; replace hS := hS_; clear hS_; dsimp only [List.set, Nat.reduceAdd] at hS
      refine wl_nil ⟨rfl, ?_⟩
      refine hK9 _ _ ?_
      refine wp_ret ?_
      try simp only [Exit.then, Exit.inBlock, ↓reduceIte]
      first
        | exact ret3c rfl ag38 ag35 ag44 hF hS (i1 := 7) rfl (i2 := 6) rfl (i3 := 5) rfl sz38 sz35 sz44 rfl rfl rfl ⟨⟨(c12, m15, vs15, e17), hz15⟩, rfl, hS.pick [2] (by decide) rfl⟩
        | exact ret3c rfl ag38 ag35 ag44 hF hS (i1 := 7) rfl (i2 := 6) rfl (i3 := 5) rfl sz38 sz35 sz44 rfl rfl rfl ⟨⟨(c12, m15, vs15, ⟨e17.thread, e17.op, (applyModel c12 m15 e17.thread e17.op).2, e17.start, e17.fin⟩), hz15⟩, rfl, hS.pick [2] (by decide) rfl⟩
    ·
      refine op_st (j := 7) (m' := [4, 5]) rfl rfl (by kernel_rfl) rfl (fun a hF => (hF.ev rfl)) (fun a hF => (hF.ev rfl)) sz38 rfl rfl ?_; try clear hSd; try clear wd; intro wd hSd; try dsimp only [List.set] at hSd
      refine todo_load [4, 5] hl_ (by kernel_rfl) rfl (gw0 rfl) rfl rfl rfl (fun a w_ hF hB_ => r_loadn ag35 (hF.ev rfl) ((hSd.ext hB_).box_rd (i := 1) rfl) sz35) ?_
      refine todo_fin hl_ rfl (by kernel_rfl) (tl := [_, _]) rfl ?_; clear hS a; intro a w51 hF hA_
      have hS := hA_.sep; clear hA_
      clear hl_; try clear hSd
      try dsimp only [List.cons_append, List.nil_append, List.set] at hS
      try clear wd
      refine wl_storew hF hS (i := 6) rfl (hF.ev rfl) (hF.ev rfl) sz35 rfl rfl ?_; intro w52 hS_; replace hS := hS_; clear hS_; dsimp only [List.set, Nat.reduceAdd] at hS
      refine wl_storew hF hS (i := 5) rfl (hF.ev rfl) (hF.ev rfl) sz44 rfl rfl ?_; intro w53 hS_; replace hS := hS_; clear hS_; dsimp only [List.set, Nat.reduceAdd] at hS
      refine wl_nil ⟨rfl, ?_⟩
      refine hK9 _ _ ?_
      refine wp_ret ?_
      try simp only [Exit.then, Exit.inBlock, ↓reduceIte]
      first
        | exact ret3c rfl ag38 ag35 ag44 hF hS (i1 := 7) rfl (i2 := 6) rfl (i3 := 5) rfl sz38 sz35 sz44 rfl rfl rfl ⟨⟨(c12, m15, vs15, e17), hz15⟩, rfl, hS.pick [2] (by decide) rfl⟩
        | exact ret3c rfl ag38 ag35 ag44 hF hS (i1 := 7) rfl (i2 := 6) rfl (i3 := 5) rfl sz38 sz35 sz44 rfl rfl rfl ⟨⟨(c12, m15, vs15, ⟨e17.thread, e17.op, (applyModel c12 m15 e17.thread e17.op).2, e17.start, e17.fin⟩), hz15⟩, rfl, hS.pick [2] (by decide) rfl⟩
  ·
    refine op_st (j := 7) (m' := [4, 5]) rfl rfl (by kernel_rfl) rfl (fun a hF => (hF.ev rfl)) (fun a hF => (hF.ev rfl)) sz38 rfl rfl ?_; try clear hSd; try clear wd; intro wd hSd; try dsimp only [List.set] at hSd
    refine todo_load [4, 5] hl_ (by kernel_rfl) rfl (gw0 rfl) rfl rfl rfl (fun a w_ hF hB_ => r_loadn ag35 (hF.ev rfl) ((hSd.ext hB_).box_rd (i := 1) rfl) sz35) ?_
    refine todo_fork [(2, [4, 5]), (4, [2, 5])] hl_ rfl (by kernel_rfl) (List.forall_mem_cons.2 ⟨?_, List.forall_mem_cons.2 ⟨?_, fun _ h_ => nomatch h_⟩⟩)
    ·
      refine op_ld rfl rfl (gw0 rfl) rfl rfl rfl (fun a w_ hF hS => r_loadn ag44 (hF.ev rfl) (hS.box_rd (i := 0) rfl) sz44) ?_
      refine todo_fin hl_ rfl (by kernel_rfl) (tl := [_, _]) rfl ?_; clear hS a; intro a w54 hF hA_
      have hS := hA_.sep; clear hA_
      clear hl_; try clear hSd
      try dsimp only [List.cons_append, List.nil_append, List.set] at hS
      try clear wd
      refine wl_storew hF hS (i := 6) rfl (hF.ev rfl) (hF.ev rfl) sz35 rfl rfl ?_; intro w55 hS_; replace hS := hS_; clear hS_; dsimp only [List.set, Nat.reduceAdd] at hS
      refine wl_storew hF hS (i := 5) rfl (hF.ev rfl) (hF.ev rfl) sz44 rfl rfl ?_; intro w56 hS_; replace hS := hS_; clear hS_; dsimp only [List.set, Nat.reduceAdd] at hS
      refine wl_nil ⟨rfl, ?_⟩
      refine hK9 _ _ ?_
      refine wp_ret ?_
      try simp only [Exit.then, Exit.inBlock, ↓reduceIte]
      first
        | exact ret3c rfl ag38 ag35 ag44 hF hS (i1 := 7) rfl (i2 := 6) rfl (i3 := 5) rfl sz38 sz35 sz44 rfl rfl rfl ⟨⟨(c12, m15, vs15, e17), hz15⟩, rfl, hS.pick [2] (by decide) rfl⟩
        | exact ret3c rfl ag38 ag35 ag44 hF hS (i1 := 7) rfl (i2 := 6) rfl (i3 := 5) rfl sz38 sz35 sz44 rfl rfl rfl ⟨⟨(c12, m15, vs15, ⟨e17.thread, e17.op, (applyModel c12 m15 e17.thread e17.op).2, e17.start, e17.fin⟩), hz15⟩, rfl, hS.pick [2] (by decide) rfl⟩
    ·
      refine op_st (j := 6) (m' := [5]) rfl rfl (by kernel_rfl) rfl (fun a hF => (hF.ev rfl)) (fun a hF => (hF.ev rfl)) sz35 rfl rfl ?_; try clear hSd; try clear wd; intro wd hSd; try dsimp only [List.set] at hSd
      refine todo_load [5] hl_ (by kernel_rfl) rfl (gw0 rfl) rfl rfl rfl (fun a w_ hF hB_ => r_loadn ag44 (hF.ev rfl) ((hSd.ext hB_).box_rd (i := 0) rfl) sz44) ?_
      refine todo_fin hl_ rfl (by kernel_rfl) (tl := [_]) rfl ?_; clear hS a; intro a w57 hF hA_
      have hS := hA_.sep; clear hA_
      clear hl_; try clear hSd
      try dsimp only [List.cons_append, List.nil_append, List.set] at hS
      try clear wd
      refine wl_storew hF hS (i := 5) rfl (hF.ev rfl) (hF.ev rfl) sz44 rfl rfl ?_; intro w58 hS_; replace hS := hS_; clear hS_; dsimp only [List.set, Nat.reduceAdd] at hS
      refine wl_nil ⟨rfl, ?_⟩
      refine hK9 _ _ ?_
      refine wp_ret ?_
      try simp only [Exit.then, Exit.inBlock, ↓reduceIte]
      first
        | exact ret3c rfl ag38 ag35 ag44 hF hS (i1 := 7) rfl (i2 := 6) rfl (i3 := 5) rfl sz38 sz35 sz44 rfl rfl rfl ⟨⟨(c12, m15, vs15, e17), hz15⟩, rfl, hS.pick [2] (by decide) rfl⟩
        | exact ret3c rfl ag38 ag35 ag44 hF hS (i1 := 7) rfl (i2 := 6) rfl (i3 := 5) rfl sz38 sz35 sz44 rfl rfl rfl ⟨⟨(c12, m15, vs15, ⟨e17.thread, e17.op, (applyModel c12 m15 e17.thread e17.op).2, e17.start, e17.fin⟩), hz15⟩, rfl, hS.pick [2] (by decide) rfl⟩

end Go.Proofs.Yteldnoimmjihoaa.Wk
