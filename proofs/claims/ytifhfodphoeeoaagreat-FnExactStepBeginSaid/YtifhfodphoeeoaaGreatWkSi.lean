/- Walks: copies of threads and states, the program's. -/
import Derived.Test.YtifhfodphoeeoaaGreatChecked
import Derived.Test.YtifhfodphoeeoaaGreatWkSp
import Derived.Test.YtifhfodphoeeoaaGreatFactsC
namespace Go.Proofs.YtifhfodphoeeoaaGreat.Wk
open Go Go.RowKit Sl
set_option linter.unusedVariables false
set_option linter.unusedSimpArgs false
set_option maxRecDepth 20000

set_option maxHeartbeats 4000000 in
set_option maxRecDepth 20000 in
theorem cloneI_c {W : World} {va : Value} {xs : List Int} (ha : intEK.Rd W va xs) (hz : xs.length ≤ 1099511627776) : Calls Tryz.prog 135 #[va] W (Ret (Mk W (fun s : Slv => sv s) (fun s => [Own intEK (sv s) xs]))) := by
  refine calls_fr Tryz.func135 rfl Tryz.ntmps135 rfl ?_
  intro a hF
  have hS := Sep.refl W
  obtain ⟨A_a, q_a, rfl, hq_a, hn_a⟩ := ha.sl; unfold maxLen at hn_a
  refine ws fun K1 hK1 => ?_
  refine wl_mvs (A := [_]) hF rfl ?_; clear hF a; intro a hF
  refine wl_nil (hK1 _ _ ?_)
  refine wp_seq_k fun K2 hK2 => ?_
  refine ws fun K3 hK3 => ?_
  refine wl_mvs (A := [_]) hF rfl ?_; clear hF a; intro a hF
  refine wl hF rfl rfl rfl (r_eqnil ul24 (hF.ev rfl) ec) ?_; clear hF a; intro a hF
  refine wl_nil (hK3 _ _ ?_)
  refine wc_fx (t := 4) hF rfl ?_ ?_ <;> clear hF <;> intro c4 hF <;> try simp only [zb1, zb2, zb3, zb4, zb5, zb6, zb7, zb8] at c4
  ·
    refine ws fun K4 hK4 => ?_
    refine wl_mvs (A := [_]) hF rfl ?_; clear hF a; intro a hF
    refine wl_nil (hK4 _ _ ?_)
    refine wp_ret ?_
    try simp only [Exit.then, Exit.inBlock, ↓reduceIte]
    first
      | (obtain rfl : xs = [] := Rd.none_nil ha c4; refine ret1 rfl hF rfl ?_; exact Sep.mkS ((Sep.refl W).ext hS.old |>.own_nil _) rfl)
      | (refine ret1 rfl hF rfl ?_; exact Sep.mkS (hS.pick [99] (by decide) rfl) rfl)
  refine wp_skip ?_
  refine hK2 _ _ ?_
  refine ws fun K5 hK5 => ?_
  refine wl_bslice intEK [] [] rfl hF hS rfl mk24 rfl trivial rfl rfl rfl rfl ?_; clear hF a; intro gl_5 w1 a hS_ hF; replace hS := hS_; clear hS_
  refine wl_mvs (A := [_]) hF rfl ?_; clear hF a; intro a hF
  refine wl_append0 hF hS rfl (hS.rd ha) mk24 rfl (by omega) (by unfold maxLen; omega) (hF.ev rfl) (hF.ev rfl) ?_; clear hF a; intro s7 w2 a hS_ hF; replace hS := hS_; clear hS_
  refine wl_mvs (A := [_]) hF rfl ?_; clear hF a; intro a hF
  refine wl_nil (hK5 _ _ ?_)
  refine wp_ret ?_
  try simp only [Exit.then, Exit.inBlock, ↓reduceIte]
  first
    | (obtain rfl : xs = [] := Rd.none_nil ha c4; refine ret1 rfl hF rfl ?_; exact Sep.mkS ((Sep.refl W).ext hS.old |>.own_nil _) rfl)
    | (refine ret1 rfl hF rfl ?_; exact Sep.mkS (hS.pick [0] (by decide) rfl) rfl)

set_option maxHeartbeats 4000000 in
set_option maxRecDepth 20000 in
theorem cloneE_c {W : World} {va : Value} {xs : List Entry} (ha : entryEK.Rd W va xs) (hz : xs.length ≤ 1099511627776) : Calls Tryz.prog 178 #[va] W (Ret (Mk W (fun s : Slv => sv s) (fun s => [Own entryEK (sv s) xs]))) := by
  refine calls_fr Tryz.func178 rfl Tryz.ntmps178 rfl ?_
  intro a hF
  have hS := Sep.refl W
  obtain ⟨A_a, q_a, rfl, hq_a, hn_a⟩ := ha.sl; unfold maxLen at hn_a
  refine ws fun K1 hK1 => ?_
  refine wl_mvs (A := [_]) hF rfl ?_; clear hF a; intro a hF
  refine wl_nil (hK1 _ _ ?_)
  refine wp_seq_k fun K2 hK2 => ?_
  refine ws fun K3 hK3 => ?_
  refine wl_mvs (A := [_]) hF rfl ?_; clear hF a; intro a hF
  refine wl hF rfl rfl rfl (r_eqnil ul51 (hF.ev rfl) ec) ?_; clear hF a; intro a hF
  refine wl_nil (hK3 _ _ ?_)
  refine wc_fx (t := 4) hF rfl ?_ ?_ <;> clear hF <;> intro c4 hF <;> try simp only [zb1, zb2, zb3, zb4, zb5, zb6, zb7, zb8] at c4
  ·
    refine ws fun K4 hK4 => ?_
    refine wl_mvs (A := [_]) hF rfl ?_; clear hF a; intro a hF
    refine wl_nil (hK4 _ _ ?_)
    refine wp_ret ?_
    try simp only [Exit.then, Exit.inBlock, ↓reduceIte]
    first
      | (obtain rfl : xs = [] := Rd.none_nil ha c4; refine ret1 rfl hF rfl ?_; exact Sep.mkS ((Sep.refl W).ext hS.old |>.own_nil _) rfl)
      | (refine ret1 rfl hF rfl ?_; exact Sep.mkS (hS.pick [99] (by decide) rfl) rfl)
  refine wp_skip ?_
  refine hK2 _ _ ?_
  refine ws fun K5 hK5 => ?_
  refine wl_bslice entryEK [] [] rfl hF hS rfl mk51 rfl trivial rfl rfl rfl rfl ?_; clear hF a; intro gl_5 w1 a hS_ hF; replace hS := hS_; clear hS_
  refine wl_mvs (A := [_]) hF rfl ?_; clear hF a; intro a hF
  refine wl_append0 hF hS rfl (hS.rd ha) mk51 rfl (by omega) (by unfold maxLen; omega) (hF.ev rfl) (hF.ev rfl) ?_; clear hF a; intro s7 w2 a hS_ hF; replace hS := hS_; clear hS_
  refine wl_mvs (A := [_]) hF rfl ?_; clear hF a; intro a hF
  refine wl_nil (hK5 _ _ ?_)
  refine wp_ret ?_
  try simp only [Exit.then, Exit.inBlock, ↓reduceIte]
  first
    | (obtain rfl : xs = [] := Rd.none_nil ha c4; refine ret1 rfl hF rfl ?_; exact Sep.mkS ((Sep.refl W).ext hS.old |>.own_nil _) rfl)
    | (refine ret1 rfl hF rfl ?_; exact Sep.mkS (hS.pick [0] (by decide) rfl) rfl)

set_option maxHeartbeats 4000000 in
set_option maxRecDepth 20000 in
theorem copyThread_c {W : World} {t : Sl.Thread} {cs : List Value} (hm : threadEK.K W t cs) (hz : t.size ≤ 1048576) : Calls Tryz.prog 136 #[.agg cs.toArray] W (Ret (Mk W (fun vs => .agg (threadEK.cells t vs).toArray) (fun vs => [Part threadEK t vs]))) := by
  refine calls_fr Tryz.func136 rfl Tryz.ntmps136 rfl ?_
  intro a hF
  have hS := Sep.refl W
  obtain ⟨v0, v1, v2, v3, v4, rfl, r0, r1, r2, r3, r4⟩ := hm
  obtain ⟨A_a, q_a, rfl, hq_a, hn_a⟩ := r0.sl; unfold maxLen at hn_a
  obtain ⟨A_b, q_b, rfl, hq_b, hn_b⟩ := r1.sl; unfold maxLen at hn_b
  obtain ⟨A_c, q_c, rfl, hq_c, hn_c⟩ := r2.sl; unfold maxLen at hn_c
  obtain ⟨A_d, q_d, rfl, hq_d, hn_d⟩ := r3.sl; unfold maxLen at hn_d
  obtain ⟨A_e, q_e, rfl, hq_e, hn_e⟩ := r4.sl; unfold maxLen at hn_e
  have hz1 := hz; unfold Sl.Thread.size at hz1
  refine ws fun K1 hK1 => ?_
  refine wl_box (cs := [_, _, _, _, _, _, _, _, _, _, _, _, _, _, _, _, _, _, _]) hF hS rfl (hF.ev rfl) rfl ?_; clear hF a; intro g1 w1 a hS_ hB_ hF; replace hS := hS_; clear hS_ hB_
  refine wl_alloc hF hS rfl zr53 ?_; clear hF a; intro g2 w2 a hS_ hB_ hF; replace hS := hS_; clear hS_ hB_
  refine wl_nil (hK1 _ _ ?_)
  refine wp_seq_k fun K2 hK2 => ?_
  refine wp_region_todo (is := [0, 1, 3, 4, 6, 7, 2, 9, 5, 8, 10, 11, 12, 13, 14]) [] [10, 11, 12, 13, 14] (by kernel_rfl) hF hS ⟨trivial, by decide, by decide, by decide⟩ (by kernel_rfl) ?_; clear hF; intro hl_ wd hSd
  refine todo_pure hl_ (by kernel_rfl) rfl (gw0 rfl) rfl rfl rfl (fun a w_ hF => r_field fo53_11 (hF.ev rfl)) ?_
  refine todo_load [2, 5, 8, 9, 10, 11, 12, 13, 14] hl_ (by kernel_rfl) rfl (gw0 rfl) rfl rfl rfl (fun a w_ hF hB_ => r_load1 sc24 (hF.ev rfl) ((hSd.ext hB_).box (i := 1) rfl rfl)) ?_
  refine todo_pure hl_ (by kernel_rfl) rfl (gw0 rfl) rfl rfl rfl (fun a w_ hF => r_field fo53_12 (hF.ev rfl)) ?_
  refine todo_load [5, 8, 9, 10, 11, 12, 13, 14] hl_ (by kernel_rfl) rfl (gw0 rfl) rfl rfl rfl (fun a w_ hF hB_ => r_load1 sc24 (hF.ev rfl) ((hSd.ext hB_).box (i := 1) rfl rfl)) ?_
  refine todo_pure hl_ (by kernel_rfl) rfl (gw0 rfl) rfl rfl rfl (fun a w_ hF => r_field fo53_15 (hF.ev rfl)) ?_
  refine todo_load [8, 9, 10, 11, 12, 13, 14] hl_ (by kernel_rfl) rfl (gw0 rfl) rfl rfl rfl (fun a w_ hF hB_ => r_load1 sc24 (hF.ev rfl) ((hSd.ext hB_).box (i := 1) rfl rfl)) ?_
  refine todo_mk hl_ rfl (by kernel_rfl) rfl rfl rfl rfl rfl (fun a w_ hF => r_call1 en135 (hF.ev rfl)) (fun w_ hS => cloneI_c (hS.rd r0) (by omega)) ?_; rintro s5
  refine todo_pure hl_ (by kernel_rfl) rfl (gw0 rfl) rfl rfl rfl (fun a w_ hF => r_field fo53_11 (hF.ev rfl)) ?_
  refine todo_mk hl_ rfl (by kernel_rfl) rfl rfl rfl rfl rfl (fun a w_ hF => r_call1 en135 (hF.ev rfl)) (fun w_ hS => cloneI_c (hS.rd r1) (by omega)) ?_; rintro s8
  refine todo_mk hl_ rfl (by kernel_rfl) rfl rfl rfl rfl rfl (fun a w_ hF => r_call1 en135 (hF.ev rfl)) (fun w_ hS => cloneI_c (hS.rd r4) (by omega)) ?_; rintro s11
  refine todo_fin hl_ rfl (by kernel_rfl) (tl := [_, _, _, _, _]) rfl ?_; clear hS a; intro a w3 hF hA_
  have hS := hA_.sep; clear hA_
  clear hl_; try clear hSd
  try dsimp only [List.cons_append, List.nil_append, List.set] at hS
  try clear wd
  refine wl_store hF hS (i := 4) rfl sz24 (hF.ev rfl) (hF.ev rfl) rfl rfl ?_; intro w4 hS_; replace hS := hS_; clear hS_; dsimp only [List.set, Nat.reduceAdd] at hS
  refine wl hF rfl rfl rfl (r_field fo53_12 (hF.ev rfl)) ?_; clear hF a; intro a hF
  refine wl_store hF hS (i := 4) rfl sz24 (hF.ev rfl) (hF.ev rfl) rfl rfl ?_; intro w5 hS_; replace hS := hS_; clear hS_; dsimp only [List.set, Nat.reduceAdd] at hS
  refine wl hF rfl rfl rfl (r_field fo53_15 (hF.ev rfl)) ?_; clear hF a; intro a hF
  refine wl_store hF hS (i := 4) rfl sz24 (hF.ev rfl) (hF.ev rfl) rfl rfl ?_; intro w6 hS_; replace hS := hS_; clear hS_; dsimp only [List.set, Nat.reduceAdd] at hS
  refine wl_nil ⟨rfl, ?_⟩
  refine hK2 _ _ ?_
  refine wp_seq_k fun K3 hK3 => ?_
  refine wp_region_todo (is := [0, 1, 3, 4, 2, 6, 5, 7, 8, 9]) [] [7, 8, 9] (by kernel_rfl) hF hS ⟨trivial, by decide, by decide, by decide⟩ (by kernel_rfl) ?_; clear hF; intro hl_ wd hSd
  refine todo_pure hl_ (by kernel_rfl) rfl (gw0 rfl) rfl rfl rfl (fun a w_ hF => r_field fo53_13 (hF.ev rfl)) ?_
  refine todo_load [2, 5, 6, 7, 8, 9] hl_ (by kernel_rfl) rfl (gw0 rfl) rfl rfl rfl (fun a w_ hF hB_ => r_load1 sc51 (hF.ev rfl) ((hSd.ext hB_).box (i := 4) rfl rfl)) ?_
  refine todo_pure hl_ (by kernel_rfl) rfl (gw0 rfl) rfl rfl rfl (fun a w_ hF => r_field fo53_14 (hF.ev rfl)) ?_
  refine todo_load [5, 6, 7, 8, 9] hl_ (by kernel_rfl) rfl (gw0 rfl) rfl rfl rfl (fun a w_ hF hB_ => r_load1 sc51 (hF.ev rfl) ((hSd.ext hB_).box (i := 4) rfl rfl)) ?_
  refine todo_mk hl_ rfl (by kernel_rfl) rfl rfl rfl rfl rfl (fun a w_ hF => r_call1 en178 (hF.ev rfl)) (fun w_ hS => cloneE_c (hS.rd r2) (by omega)) ?_; rintro s17
  refine todo_pure hl_ (by kernel_rfl) rfl (gw0 rfl) rfl rfl rfl (fun a w_ hF => r_field fo53_13 (hF.ev rfl)) ?_
  refine todo_mk hl_ rfl (by kernel_rfl) rfl rfl rfl rfl rfl (fun a w_ hF => r_call1 en178 (hF.ev rfl)) (fun w_ hS => cloneE_c (hS.rd r3) (by omega)) ?_; rintro s20
  refine todo_fin hl_ rfl (by kernel_rfl) (tl := [_, _, _]) rfl ?_; clear hS a; intro a w7 hF hA_
  have hS := hA_.sep; clear hA_
  clear hl_; try clear hSd
  try dsimp only [List.cons_append, List.nil_append, List.set] at hS
  try clear wd
  refine wl_store hF hS (i := 6) rfl sz51 (hF.ev rfl) (hF.ev rfl) rfl rfl ?_; intro w8 hS_; replace hS := hS_; clear hS_; dsimp only [List.set, Nat.reduceAdd] at hS
  refine wl hF rfl rfl rfl (r_field fo53_14 (hF.ev rfl)) ?_; clear hF a; intro a hF
  refine wl_store hF hS (i := 6) rfl sz51 (hF.ev rfl) (hF.ev rfl) rfl rfl ?_; intro w9 hS_; replace hS := hS_; clear hS_; dsimp only [List.set, Nat.reduceAdd] at hS
  refine wl_nil ⟨rfl, ?_⟩
  refine hK3 _ _ ?_
  refine ws fun K4 hK4 => ?_
  refine wl hF rfl rfl rfl (r_loadn ag53 (hF.ev rfl) (hS.box_rd (i := 6) rfl) sz53) ?_; clear hF a; intro a hF
  refine wl_storew hF hS (i := 5) rfl (hF.ev rfl) (hF.ev rfl) sz53 rfl rfl ?_; intro w10 hS_; replace hS := hS_; clear hS_; dsimp only [List.set, Nat.reduceAdd] at hS
  refine wl_nil (hK4 _ _ ?_)
  refine wp_ret ?_
  try simp only [Exit.then, Exit.inBlock, ↓reduceIte]
  exact ret1c rfl ag53 hF hS (i := 5) rfl sz53 rfl ⟨[s5, s8, s17, s20, s11], rfl, hS.part_of [4, 3, 1, 0, 2] (by decide) rfl⟩

set_option maxHeartbeats 4000000 in
set_option maxRecDepth 20000 in
theorem copyState_c {W : World} {s : Sl.State} {cs : List Value} (hm : stateEK.K W s cs) (hz : (s.size : Int) ≤ 1048576) : Calls Tryz.prog 73 #[.agg cs.toArray] W (Ret (Mk W (fun vs => .agg (stateEK.cells s vs).toArray) (fun vs => [Part stateEK s vs]))) := by
  refine calls_fr Tryz.func73 rfl Tryz.ntmps73 rfl ?_
  intro a hF
  have hS := Sep.refl W
  obtain ⟨v0, v1, v2, rfl, r0, r1, r2⟩ := hm
  obtain ⟨A_a, q_a, rfl, hq_a, hn_a⟩ := r0.sl; unfold maxLen at hn_a
  obtain ⟨A_b, q_b, rfl, hq_b, hn_b⟩ := r1.sl; unfold maxLen at hn_b
  obtain ⟨A_c, q_c, rfl, hq_c, hn_c⟩ := r2.sl; unfold maxLen at hn_c
  have hz1 := hz; unfold Sl.State.size at hz1
  refine ws fun K1 hK1 => ?_
  refine wl_box (cs := [_, _, _, _, _, _, _, _, _, _, _, _, _]) hF hS rfl (hF.ev rfl) rfl ?_; clear hF a; intro g1 w1 a hS_ hB_ hF; replace hS := hS_; clear hS_ hB_
  refine wl_alloc hF hS rfl zr32 ?_; clear hF a; intro g2 w2 a hS_ hB_ hF; replace hS := hS_; clear hS_ hB_
  refine wl_nil (hK1 _ _ ?_)
  refine ws fun K2 hK2 => ?_
  refine wl hF rfl rfl rfl (r_loadn ag32 (hF.ev rfl) (hS.box_rd (i := 1) rfl) sz32) ?_; clear hF a; intro a hF
  refine wl_alloc hF hS rfl zr32 ?_; clear hF a; intro g3 w3 a hS_ hB_ hF; replace hS := hS_; clear hS_ hB_
  refine wl_storew hF hS (i := 0) rfl (hF.ev rfl) (hF.ev rfl) sz32 rfl rfl ?_; intro w4 hS_; replace hS := hS_; clear hS_; dsimp only [List.set, Nat.reduceAdd] at hS
  refine wl_nil (hK2 _ _ ?_)
  refine wp_seq_k fun K3 hK3 => ?_
  refine wp_region_todo (is := [0, 1, 3, 4, 2, 6, 5, 7, 8, 9, 10, 11]) [] [7, 8, 9, 10, 11] (by kernel_rfl) hF hS ⟨trivial, by decide, by decide, by decide⟩ (by kernel_rfl) ?_; clear hF; intro hl_ wd hSd
  refine todo_pure hl_ (by kernel_rfl) rfl (gw0 rfl) rfl rfl rfl (fun a w_ hF => r_field fo32_1 (hF.ev rfl)) ?_
  refine todo_load [2, 5, 6, 7, 8, 9, 10, 11] hl_ (by kernel_rfl) rfl (gw0 rfl) rfl rfl rfl (fun a w_ hF hB_ => r_load1 sc24 (hF.ev rfl) ((hSd.ext hB_).box (i := 2) rfl rfl)) ?_
  refine todo_pure hl_ (by kernel_rfl) rfl (gw0 rfl) rfl rfl rfl (fun a w_ hF => r_field fo32_2 (hF.ev rfl)) ?_
  refine todo_load [5, 7, 8, 9, 10, 11] hl_ (by kernel_rfl) rfl (gw0 rfl) rfl rfl rfl (fun a w_ hF hB_ => r_load1 sc24 (hF.ev rfl) ((hSd.ext hB_).box (i := 2) rfl rfl)) ?_
  refine todo_mk hl_ rfl (by kernel_rfl) rfl rfl rfl rfl rfl (fun a w_ hF => r_call1 en135 (hF.ev rfl)) (fun w_ hS => cloneI_c (hS.rd r0) (by omega)) ?_; rintro s9
  refine todo_pure hl_ (by kernel_rfl) rfl (gw0 rfl) rfl rfl rfl (fun a w_ hF => r_field fo32_1 (hF.ev rfl)) ?_
  refine todo_mk hl_ rfl (by kernel_rfl) rfl rfl rfl rfl rfl (fun a w_ hF => r_call1 en135 (hF.ev rfl)) (fun w_ hS => cloneI_c (hS.rd r1) (by omega)) ?_; rintro s12
  refine todo_fin hl_ rfl (by kernel_rfl) (tl := [_, _, _, _, _]) rfl ?_; clear hS a; intro a w5 hF hA_
  have hS := hA_.sep; clear hA_
  clear hl_; try clear hSd
  try dsimp only [List.cons_append, List.nil_append, List.set] at hS
  try clear wd
  refine wl_store hF hS (i := 2) rfl sz24 (hF.ev rfl) (hF.ev rfl) rfl rfl ?_; intro w6 hS_; replace hS := hS_; clear hS_; dsimp only [List.set, Nat.reduceAdd] at hS
  refine wl hF rfl rfl rfl (r_field fo32_2 (hF.ev rfl)) ?_; clear hF a; intro a hF
  refine wl_store hF hS (i := 2) rfl sz24 (hF.ev rfl) (hF.ev rfl) rfl rfl ?_; intro w7 hS_; replace hS := hS_; clear hS_; dsimp only [List.set, Nat.reduceAdd] at hS
  refine wl hF rfl rfl rfl (r_field fo32_3 (hF.ev rfl)) ?_; clear hF a; intro a hF
  refine wl_store hF hS (i := 2) rfl sz30 (hF.ev rfl) ec rfl rfl ?_; intro w8 hS_; replace hS := hS_; clear hS_; dsimp only [List.set, Nat.reduceAdd] at hS
  refine wl_nil ⟨rfl, ?_⟩
  refine hK3 _ _ ?_
  refine wp_seq_k fun K4 hK4 => ?_
  refine ws fun K5 hK5 => ?_
  refine wl hF rfl rfl rfl (r_field fo32_3 (hF.ev rfl)) ?_; clear hF a; intro a hF
  refine wl hF rfl rfl rfl (r_load1 sc30 (hF.ev rfl) (hS.box (i := 4) rfl rfl)) ?_; clear hF a; intro a hF
  refine wl hF rfl rfl rfl (r_len ul30 (hF.ev rfl)) ?_; clear hF a; intro a hF
  refine wl_mvs (A := [_]) hF rfl ?_; clear hF a; intro a hF
  refine wl_nil (hK5 _ _ ?_)
  refine wp_block ?_
  replace hS := hS.own_nil threadEK
  replace hS := hS.pull (p := 3) rfl; dsimp only [List.eraseIdx] at hS
  replace hS := hS.pull (p := 1) rfl; dsimp only [List.eraseIdx] at hS
  have hL_ := ((((hF.nil.keep hF (t := 18) rfl).keep hF (t := 17) rfl).keep hF (t := 3) rfl).keep hF (t := 2) rfl)
  refine wp_loop_m (σ := Nat × Slv) (fun z L_ => (19, vi z.1) :: L_) (fun z l_ => (Own threadEK (sv z.2) (s.threads.take z.1)) :: (Box g3 (s.encv (sv s9) (sv s12) (sv z.2))) :: l_) (fun z => (z.1 ≤ s.threads.length)) (fun z => s.threads.length - z.1) (0, (none, 0, 0)) (hS) (hL_.keepE hF (t := 19) rfl rfl) ?_ ?_
  · exact Nat.zero_le _
  clear hF hS hL_ a
  rintro ⟨k, q⟩ a w9 hk hS hF; try dsimp only at hF; try dsimp only at hS; try dsimp only at hk
  dsimp only [Sl.State.encv] at hS
  refine ws fun K6 hK6 => ?_
  refine wl hF rfl rfl rfl (r_lss (hF.ev rfl) (hF.ev rfl)) ?_; clear hF a; intro a hF
  refine wl_nil (hK6 _ _ ?_)
  refine wp_seq_k fun K7 hK7 => ?_
  refine wc_fx (t := 20) hF rfl ?_ ?_ <;> clear hF <;> intro c20 hF <;> try simp only [zb1, zb2, zb3, zb4, zb5, zb6, zb7, zb8] at c20
  ·
    have hlt : k < s.threads.length := by omega
    have hx := at0_nat hlt
    have hc1 := crow_le1 (c := Sl.Thread.size) hx
    refine wp_skip ?_
    refine hK7 _ _ ?_
    refine wp_seq_k fun K8 hK8 => ?_
    refine wp_block ?_
    refine ws fun K9 hK9 => ?_
    obtain ⟨g21, o21, m21, q21, cs21, hv21, hm21, hl21, hk21, hz21, hc21⟩ := Rd.at (r2) (a := a) (X := .tmp 19) (hF.ev rfl) (by omega) (by omega)
    have hkk21 := hk21; obtain ⟨v21_0, v21_1, v21_2, v21_3, v21_4, rfl, r21_0, r21_1, r21_2, r21_3, r21_4⟩ := hk21
    obtain ⟨A21_0, q21_0, rfl, hq21_0, hn21_0⟩ := r21_0.sl; unfold maxLen at hn21_0
    obtain ⟨A21_1, q21_1, rfl, hq21_1, hn21_1⟩ := r21_1.sl; unfold maxLen at hn21_1
    obtain ⟨A21_2, q21_2, rfl, hq21_2, hn21_2⟩ := r21_2.sl; unfold maxLen at hn21_2
    obtain ⟨A21_3, q21_3, rfl, hq21_3, hn21_3⟩ := r21_3.sl; unfold maxLen at hn21_3
    obtain ⟨A21_4, q21_4, rfl, hq21_4, hn21_4⟩ := r21_4.sl; unfold maxLen at hn21_4
    refine wl hF rfl rfl rfl (r_index sl30 ((hF.ev rfl).trans hv21) (hF.ev rfl) (by omega) (by first | omega | (simp at hm21; omega))) ?_; clear hF a; intro a hF
    refine wl hF rfl rfl rfl (r_loadn ag53 (hF.ev rfl) (fun j_ u_ hu_ => cellB hS.old (hc21 j_ u_ hu_)) sz53) ?_; clear hF a; intro a hF
    refine wl_alloc hF hS rfl zr53 ?_; clear hF a; intro g4 w10 a hS_ hB_ hF; replace hS := hS_; clear hS_ hB_
    refine wl_storew hF hS (i := 0) rfl (hF.ev rfl) (hF.ev rfl) sz53 rfl rfl ?_; intro w11 hS_; replace hS := hS_; clear hS_; dsimp only [List.set, Nat.reduceAdd] at hS
    refine wl_nil (hK9 _ _ ?_)
    refine wp_region_todo (is := [0, 1, 2, 3, 4, 5, 6, 7]) [] [5, 6, 7] (by kernel_rfl) hF hS ⟨trivial, by decide, by decide, by decide⟩ (by kernel_rfl) ?_; clear hF; intro hl_ wd hSd
    refine todo_pure hl_ (by kernel_rfl) rfl (gw0 rfl) rfl rfl rfl (fun a w_ hF => r_field fo32_3 (hF.ev rfl)) ?_
    refine todo_load [5, 6, 7] hl_ (by kernel_rfl) rfl (gw0 rfl) rfl rfl rfl (fun a w_ hF hB_ => r_load1 sc30 (hF.ev rfl) ((hSd.ext hB_).box (i := 2) rfl rfl)) ?_
    refine todo_load [3, 4, 5, 6, 7] hl_ (by kernel_rfl) rfl (gw0 rfl) rfl rfl rfl (fun a w_ hF hB_ => r_loadn ag53 (hF.ev rfl) ((hSd.ext hB_).box_rd (i := 0) rfl) sz53) ?_
    refine todo_mk hl_ rfl (by kernel_rfl) rfl rfl rfl rfl rfl (fun a w_ hF => r_call1 en136 (hF.ev rfl)) (fun w_ hS => copyThread_c (hS.k hkk21) (by omega)) ?_; rintro vs26
    refine todo_op hl_ rfl (by kernel_rfl) rfl rfl rfl rfl rfl (fun a w_ hF hS => r_bslice (rawEK threadEK.sz) [.agg (threadEK.cells (at0 s.threads (k : Int)) vs26).toArray] [raw threadEK (at0 s.threads (k : Int)) vs26] rfl mk30 rfl ⟨rfl, (hF.ev rfl), trivial⟩ rfl rfl rfl rfl) ?_; intro gl_27
    refine todo_fin hl_ rfl (by kernel_rfl) (tl := [_, _, _]) rfl ?_; clear hS a; intro a w13 hF hA_
    have hS := hA_.sep; clear hA_
    clear hl_; try clear hSd
    try dsimp only [List.cons_append, List.nil_append, List.set] at hS
    try clear wd
    have hu_ := hS.own_rd (i := 0) rfl
    replace hS := hS.pull (p := 1) rfl; dsimp only [List.eraseIdx] at hS
    replace hS := hS.pull (p := 3) rfl; dsimp only [List.eraseIdx] at hS
    refine wl_appendn (ek := threadEK) hF hS rfl hu_ mk30 rfl (hF.ev rfl) (hF.ev rfl) (by simp; omega) (by unfold maxLen; simp; omega) ?_; clear hF a hu_; intro A_28 c_28 w14 a hS_ hF; replace hS := hS_; clear hS_
    refine wl hF rfl rfl rfl (r_field fo32_3 (hF.ev rfl)) ?_; clear hF a; intro a hF
    refine wl_store hF hS (i := 3) rfl sz30 (hF.ev rfl) (hF.ev rfl) rfl rfl ?_; intro w15 hS_; replace hS := hS_; clear hS_; dsimp only [List.set, Nat.reduceAdd] at hS
    refine wl_nil ⟨rfl, ?_⟩
    simp only [Exit.then, Exit.inBlock, ↓reduceIte]
    refine hK8 _ _ ?_
    refine wp_region_lit ?_
    refine wl hF rfl rfl rfl (r_add (hF.ev rfl) ec) ?_; clear hF a; intro a hF
    refine wl_mvs (A := [_]) hF rfl ?_; clear hF a; intro a hF
    refine wl_nil ?_
    try simp only [Exit.then, Exit.inBlock, ↓reduceIte]
    rw [← take_at0 (by omega)] at hS
    refine ⟨(k + 1, (_, _, _)), (by dsimp only; omega), (hS.pick [0, 3, 4, 5, 6, 7] (by decide) rfl), (((((hF.nil.keep hF (t := 18) rfl).keep hF (t := 17) rfl).keep hF (t := 3) rfl).keep hF (t := 2) rfl).keepE hF (t := 19) rfl (wk (by omega))), by dsimp only; omega⟩
  refine wp_exit ?_
  simp only [Exit.then, Exit.inBlock, ↓reduceIte]
  refine hK4 _ _ ?_
  refine ws fun K10 hK10 => ?_
  refine wl hF rfl rfl rfl (r_loadn ag32 (hF.ev rfl) (hS.box_rd (i := 1) rfl) sz32) ?_; clear hF a; intro a hF
  refine wl_storew hF hS (i := 4) rfl (hF.ev rfl) (hF.ev rfl) sz32 rfl rfl ?_; intro w16 hS_; replace hS := hS_; clear hS_; dsimp only [List.set, Nat.reduceAdd] at hS
  refine wl_nil (hK10 _ _ ?_)
  refine wp_ret ?_
  try simp only [Exit.then, Exit.inBlock, ↓reduceIte]
  obtain rfl : k = s.threads.length := by omega
  rw [List.take_length] at hS
  exact ret1c rfl ag32 hF hS (i := 4) rfl sz32 rfl ⟨[s9, s12, q], rfl, hS.part_of [3, 2, 0] (by decide) rfl⟩

end Go.Proofs.YtifhfodphoeeoaaGreat.Wk
