/- FnExactStepReclaim, for all arguments: the program's StepReclaim returns what the reference's returns, and the arguments stay as they were. Condition: the law's own guard on size. -/
import Derived.Test.YtifhfodphoeeoaaGreatCrD
import Derived.Test.YtifhfodphoeeoaaGreatRows
namespace Go.Proofs.YtifhfodphoeeoaaGreat.Wk
open Go Go.RowKit Sl
set_option linter.unusedVariables false
set_option linter.unusedSimpArgs false
set_option maxRecDepth 20000
set_option maxHeartbeats 4000000 in
set_option maxRecDepth 20000 in
theorem l7Copy_c {W : World} {t : Sl.Thread} {cs : List Value} (hm : threadEK.K W t cs) (hz : t.size ≤ 1048576) : Calls Tryz.prog 66 #[.agg cs.toArray] W (Ret (Mk W (fun vs => .agg (threadEK.cells t vs).toArray) (fun vs => [Part threadEK t vs]))) := by
  refine calls_fr Tryz.func66 rfl Tryz.ntmps66 rfl ?_
  intro a hF
  have hS := Sep.refl W
  obtain ⟨v0, v1, v2, v3, v4, rfl, r0, r1, r2, r3, r4⟩ := hm
  obtain ⟨A_a, q_a, rfl, hq_a, hn_a⟩ := r0.sl; unfold maxLen at hn_a
  obtain ⟨A_b, q_b, rfl, hq_b, hn_b⟩ := r1.sl; unfold maxLen at hn_b
  obtain ⟨A_c, q_c, rfl, hq_c, hn_c⟩ := r2.sl; unfold maxLen at hn_c
  obtain ⟨A_d, q_d, rfl, hq_d, hn_d⟩ := r3.sl; unfold maxLen at hn_d
  obtain ⟨A_e, q_e, rfl, hq_e, hn_e⟩ := r4.sl; unfold maxLen at hn_e
  have hz1 := hz; unfold Sl.Thread.size at hz1
  refine ws fun K1 hK1 => ?_
  refine wl_box (cs := [_, _, _, _, _, _, _, _, _, _, _, _, _, _, _, _, _, _, _]) hF hS rfl (hF.ev rfl) rfl ?_; clear hF a; intro g1 w1 a hS_ hB_ hF; replace hS := hS_; clear hS_ hB_
  refine wl_alloc hF hS rfl zr53 ?_; clear hF a; intro g2 w2 a hS_ hB_ hF; replace hS := hS_; clear hS_ hB_
  refine wl_nil (hK1 _ _ ?_)
  refine ws fun K2 hK2 => ?_
  refine wl hF rfl rfl rfl (r_loadn ag53 (hF.ev rfl) (hS.box_rd (i := 1) rfl) sz53) ?_; clear hF a; intro a hF
  refine wl_alloc hF hS rfl zr53 ?_; clear hF a; intro g3 w3 a hS_ hB_ hF; replace hS := hS_; clear hS_ hB_
  refine wl_storew hF hS (i := 0) rfl (hF.ev rfl) (hF.ev rfl) sz53 rfl rfl ?_; intro w4 hS_; replace hS := hS_; clear hS_; dsimp only [List.set, Nat.reduceAdd] at hS
  refine wl_nil (hK2 _ _ ?_)
  refine ws fun K3 hK3 => ?_
  refine wl_bslice intEK [] [] rfl hF hS rfl mk24 rfl trivial rfl rfl rfl rfl ?_; clear hF a; intro gl_5 w5 a hS_ hF; replace hS := hS_; clear hS_
  refine wl hF rfl rfl rfl (r_field fo53_11 (hF.ev rfl)) ?_; clear hF a; intro a hF
  refine wl hF rfl rfl rfl (r_load1 sc24 (hF.ev rfl) (hS.box (i := 3) rfl rfl)) ?_; clear hF a; intro a hF
  refine wl_append0 hF hS rfl (hS.rd r0) mk24 rfl (by omega) (by unfold maxLen; omega) (hF.ev rfl) (hF.ev rfl) ?_; clear hF a; intro s8 w6 a hS_ hF; replace hS := hS_; clear hS_
  refine wl hF rfl rfl rfl (r_field fo53_11 (hF.ev rfl)) ?_; clear hF a; intro a hF
  refine wl_store hF hS (i := 2) rfl sz24 (hF.ev rfl) (hF.ev rfl) rfl rfl ?_; intro w7 hS_; replace hS := hS_; clear hS_; dsimp only [List.set, Nat.reduceAdd] at hS
  refine wl_nil (hK3 _ _ ?_)
  refine ws fun K4 hK4 => ?_
  refine wl_bslice intEK [] [] rfl hF hS rfl mk24 rfl trivial rfl rfl rfl rfl ?_; clear hF a; intro gl_10 w8 a hS_ hF; replace hS := hS_; clear hS_
  refine wl hF rfl rfl rfl (r_field fo53_12 (hF.ev rfl)) ?_; clear hF a; intro a hF
  refine wl hF rfl rfl rfl (r_load1 sc24 (hF.ev rfl) (hS.box (i := 5) rfl rfl)) ?_; clear hF a; intro a hF
  refine wl_append0 hF hS rfl (hS.rd r1) mk24 rfl (by omega) (by unfold maxLen; omega) (hF.ev rfl) (hF.ev rfl) ?_; clear hF a; intro s13 w9 a hS_ hF; replace hS := hS_; clear hS_
  refine wl hF rfl rfl rfl (r_field fo53_12 (hF.ev rfl)) ?_; clear hF a; intro a hF
  refine wl_store hF hS (i := 4) rfl sz24 (hF.ev rfl) (hF.ev rfl) rfl rfl ?_; intro w10 hS_; replace hS := hS_; clear hS_; dsimp only [List.set, Nat.reduceAdd] at hS
  refine wl_nil (hK4 _ _ ?_)
  refine ws fun K5 hK5 => ?_
  refine wl_bslice entryEK [] [] rfl hF hS rfl mk51 rfl trivial rfl rfl rfl rfl ?_; clear hF a; intro gl_15 w11 a hS_ hF; replace hS := hS_; clear hS_
  refine wl hF rfl rfl rfl (r_field fo53_13 (hF.ev rfl)) ?_; clear hF a; intro a hF
  refine wl hF rfl rfl rfl (r_load1 sc51 (hF.ev rfl) (hS.box (i := 7) rfl rfl)) ?_; clear hF a; intro a hF
  refine wl_append0 hF hS rfl (hS.rd r2) mk51 rfl (by omega) (by unfold maxLen; omega) (hF.ev rfl) (hF.ev rfl) ?_; clear hF a; intro s18 w12 a hS_ hF; replace hS := hS_; clear hS_
  refine wl hF rfl rfl rfl (r_field fo53_13 (hF.ev rfl)) ?_; clear hF a; intro a hF
  refine wl_store hF hS (i := 6) rfl sz51 (hF.ev rfl) (hF.ev rfl) rfl rfl ?_; intro w13 hS_; replace hS := hS_; clear hS_; dsimp only [List.set, Nat.reduceAdd] at hS
  refine wl_nil (hK5 _ _ ?_)
  refine ws fun K6 hK6 => ?_
  refine wl_bslice entryEK [] [] rfl hF hS rfl mk51 rfl trivial rfl rfl rfl rfl ?_; clear hF a; intro gl_20 w14 a hS_ hF; replace hS := hS_; clear hS_
  refine wl hF rfl rfl rfl (r_field fo53_14 (hF.ev rfl)) ?_; clear hF a; intro a hF
  refine wl hF rfl rfl rfl (r_load1 sc51 (hF.ev rfl) (hS.box (i := 9) rfl rfl)) ?_; clear hF a; intro a hF
  refine wl_append0 hF hS rfl (hS.rd r3) mk51 rfl (by omega) (by unfold maxLen; omega) (hF.ev rfl) (hF.ev rfl) ?_; clear hF a; intro s23 w15 a hS_ hF; replace hS := hS_; clear hS_
  refine wl hF rfl rfl rfl (r_field fo53_14 (hF.ev rfl)) ?_; clear hF a; intro a hF
  refine wl_store hF hS (i := 8) rfl sz51 (hF.ev rfl) (hF.ev rfl) rfl rfl ?_; intro w16 hS_; replace hS := hS_; clear hS_; dsimp only [List.set, Nat.reduceAdd] at hS
  refine wl_nil (hK6 _ _ ?_)
  refine ws fun K7 hK7 => ?_
  refine wl_bslice intEK [] [] rfl hF hS rfl mk24 rfl trivial rfl rfl rfl rfl ?_; clear hF a; intro gl_25 w17 a hS_ hF; replace hS := hS_; clear hS_
  refine wl hF rfl rfl rfl (r_field fo53_15 (hF.ev rfl)) ?_; clear hF a; intro a hF
  refine wl hF rfl rfl rfl (r_load1 sc24 (hF.ev rfl) (hS.box (i := 11) rfl rfl)) ?_; clear hF a; intro a hF
  refine wl_append0 hF hS rfl (hS.rd r4) mk24 rfl (by omega) (by unfold maxLen; omega) (hF.ev rfl) (hF.ev rfl) ?_; clear hF a; intro s28 w18 a hS_ hF; replace hS := hS_; clear hS_
  refine wl hF rfl rfl rfl (r_field fo53_15 (hF.ev rfl)) ?_; clear hF a; intro a hF
  refine wl_store hF hS (i := 10) rfl sz24 (hF.ev rfl) (hF.ev rfl) rfl rfl ?_; intro w19 hS_; replace hS := hS_; clear hS_; dsimp only [List.set, Nat.reduceAdd] at hS
  refine wl_nil (hK7 _ _ ?_)
  refine ws fun K8 hK8 => ?_
  refine wl hF rfl rfl rfl (r_loadn ag53 (hF.ev rfl) (hS.box_rd (i := 10) rfl) sz53) ?_; clear hF a; intro a hF
  refine wl_storew hF hS (i := 11) rfl (hF.ev rfl) (hF.ev rfl) sz53 rfl rfl ?_; intro w20 hS_; replace hS := hS_; clear hS_; dsimp only [List.set, Nat.reduceAdd] at hS
  refine wl_nil (hK8 _ _ ?_)
  refine wp_ret ?_
  try simp only [Exit.then, Exit.inBlock, ↓reduceIte]
  exact ret1c rfl ag53 hF hS (i := 11) rfl sz53 rfl ⟨[s8, s13, s18, s23, s28], rfl, hS.part_of [8, 6, 4, 2, 0] (by decide) rfl⟩
set_option maxHeartbeats 4000000 in
set_option maxRecDepth 20000 in
theorem l8Copy_c {W : World} {s : Sl.State} {cs : List Value} (hm : stateEK.K W s cs) (hz : (s.size : Int) ≤ 1048576) : Calls Tryz.prog 31 #[.agg cs.toArray] W (Ret (Mk W (fun vs => .agg (stateEK.cells s vs).toArray) (fun vs => [Part stateEK s vs]))) := by
  refine calls_fr Tryz.func31 rfl Tryz.ntmps31 rfl ?_
  intro a hF
  have hS := Sep.refl W
  obtain ⟨v0, v1, v2, rfl, r0, r1, r2⟩ := hm
  obtain ⟨A_a, q_a, rfl, hq_a, hn_a⟩ := r0.sl; unfold maxLen at hn_a
  obtain ⟨A_b, q_b, rfl, hq_b, hn_b⟩ := r1.sl; unfold maxLen at hn_b
  obtain ⟨A_c, q_c, rfl, hq_c, hn_c⟩ := r2.sl; unfold maxLen at hn_c
  have hz1 := hz; unfold Sl.State.size at hz1
  refine ws fun K1 hK1 => ?_
  refine wl_box (cs := [_, _, _, _, _, _, _, _, _, _, _, _, _]) hF hS rfl (hF.ev rfl) rfl ?_; clear hF a; intro g1 w1 a hS_ hB_ hF; replace hS := hS_; clear hS_ hB_
  refine wl_alloc hF hS rfl zr32 ?_; clear hF a; intro g2 w2 a hS_ hB_ hF; replace hS := hS_; clear hS_ hB_
  refine wl_nil (hK1 _ _ ?_)
  refine ws fun K2 hK2 => ?_
  refine wl hF rfl rfl rfl (r_loadn ag32 (hF.ev rfl) (hS.box_rd (i := 1) rfl) sz32) ?_; clear hF a; intro a hF
  refine wl_alloc hF hS rfl zr32 ?_; clear hF a; intro g3 w3 a hS_ hB_ hF; replace hS := hS_; clear hS_ hB_
  refine wl_storew hF hS (i := 0) rfl (hF.ev rfl) (hF.ev rfl) sz32 rfl rfl ?_; intro w4 hS_; replace hS := hS_; clear hS_; dsimp only [List.set, Nat.reduceAdd] at hS
  refine wl_nil (hK2 _ _ ?_)
  refine ws fun K3 hK3 => ?_
  refine wl_bslice intEK [] [] rfl hF hS rfl mk24 rfl trivial rfl rfl rfl rfl ?_; clear hF a; intro gl_7 w5 a hS_ hF; replace hS := hS_; clear hS_
  refine wl hF rfl rfl rfl (r_field fo32_1 (hF.ev rfl)) ?_; clear hF a; intro a hF
  refine wl hF rfl rfl rfl (r_load1 sc24 (hF.ev rfl) (hS.box (i := 3) rfl rfl)) ?_; clear hF a; intro a hF
  refine wl_append0 hF hS rfl (hS.rd r0) mk24 rfl (by omega) (by unfold maxLen; omega) (hF.ev rfl) (hF.ev rfl) ?_; clear hF a; intro s10 w6 a hS_ hF; replace hS := hS_; clear hS_
  refine wl hF rfl rfl rfl (r_field fo32_1 (hF.ev rfl)) ?_; clear hF a; intro a hF
  refine wl_store hF hS (i := 2) rfl sz24 (hF.ev rfl) (hF.ev rfl) rfl rfl ?_; intro w7 hS_; replace hS := hS_; clear hS_; dsimp only [List.set, Nat.reduceAdd] at hS
  refine wl_nil (hK3 _ _ ?_)
  refine ws fun K4 hK4 => ?_
  refine wl_bslice intEK [] [] rfl hF hS rfl mk24 rfl trivial rfl rfl rfl rfl ?_; clear hF a; intro gl_12 w8 a hS_ hF; replace hS := hS_; clear hS_
  refine wl hF rfl rfl rfl (r_field fo32_2 (hF.ev rfl)) ?_; clear hF a; intro a hF
  refine wl hF rfl rfl rfl (r_load1 sc24 (hF.ev rfl) (hS.box (i := 5) rfl rfl)) ?_; clear hF a; intro a hF
  refine wl_append0 hF hS rfl (hS.rd r1) mk24 rfl (by omega) (by unfold maxLen; omega) (hF.ev rfl) (hF.ev rfl) ?_; clear hF a; intro s15 w9 a hS_ hF; replace hS := hS_; clear hS_
  refine wl hF rfl rfl rfl (r_field fo32_2 (hF.ev rfl)) ?_; clear hF a; intro a hF
  refine wl_store hF hS (i := 4) rfl sz24 (hF.ev rfl) (hF.ev rfl) rfl rfl ?_; intro w10 hS_; replace hS := hS_; clear hS_; dsimp only [List.set, Nat.reduceAdd] at hS
  refine wl_nil (hK4 _ _ ?_)
  refine ws fun K5 hK5 => ?_
  refine wl_bslice (rawEK 19) [] [] rfl hF hS rfl mk30 rfl trivial rfl rfl rfl rfl ?_; clear hF a; intro gl_17 w11 a hS_ hF; replace hS := hS_; clear hS_
  replace hS := hS.tail.own_nilA threadEK (some ⟨gl_17, 0, none⟩)
  refine wl hF rfl rfl rfl (r_field fo32_3 (hF.ev rfl)) ?_; clear hF a; intro a hF
  refine wl_store hF hS (i := 5) rfl sz30 (hF.ev rfl) (hF.ev rfl) rfl rfl ?_; intro w12 hS_; replace hS := hS_; clear hS_; dsimp only [List.set, Nat.reduceAdd] at hS
  refine wl_nil (hK5 _ _ ?_)
  refine wp_seq_k fun K6 hK6 => ?_
  refine ws fun K7 hK7 => ?_
  refine wl_mvs (A := [_]) hF rfl ?_; clear hF a; intro a hF
  refine wl_nil (hK7 _ _ ?_)
  refine wp_block ?_
  replace hS := hS.pull (p := 5) rfl; dsimp only [List.eraseIdx] at hS
  replace hS := hS.pull (p := 1) rfl; dsimp only [List.eraseIdx] at hS
  have hL_ := (((hF.nil.keep hF (t := 3) rfl).keep hF (t := 2) rfl).keep hF (t := 1) rfl)
  refine wp_loop_m (σ := Nat × Slv) (fun z L_ => (4, vi z.1) :: L_) (fun z l_ => (Own threadEK (sv z.2) (s.threads.take z.1)) :: (Box g3 (s.encv (sv s10) (sv s15) (sv z.2))) :: l_) (fun z => (z.1 ≤ s.threads.length)) (fun z => s.threads.length - z.1) (0, (_, _, _)) (hS) (hL_.keepE hF (t := 4) rfl rfl) ?_ ?_
  · exact Nat.zero_le _
  clear hF hS hL_ a
  rintro ⟨k, q⟩ a w13 hk hS hF; try dsimp only at hF; try dsimp only at hS; try dsimp only at hk
  dsimp only [Sl.State.encv] at hS
  refine wp_seq_k fun K8 hK8 => ?_
  refine ws fun K9 hK9 => ?_
  refine wl_mvs (A := [_]) hF rfl ?_; clear hF a; intro a hF
  refine wl hF rfl rfl rfl (r_field fo32_3 (hF.ev rfl)) ?_; clear hF a; intro a hF
  refine wl hF rfl rfl rfl (r_load1 sc30 (hF.ev rfl) (hS.box (i := 7) rfl rfl)) ?_; clear hF a; intro a hF
  refine wl hF rfl rfl rfl (r_len ul30 (hF.ev rfl)) ?_; clear hF a; intro a hF
  refine wl hF rfl rfl rfl (r_lss (hF.ev rfl) (hF.ev rfl)) ?_; clear hF a; intro a hF
  refine wl_nil (hK9 _ _ ?_)
  refine wc_fx (t := 23) hF rfl ?_ ?_ <;> clear hF <;> intro c23 hF <;> try simp only [zb1, zb2, zb3, zb4, zb5, zb6, zb7, zb8] at c23
  ·
    have hlt : k < s.threads.length := by omega
    have hx := at0_nat hlt
    have hc1 := crow_le1 (c := Sl.Thread.size) hx
    refine wp_skip ?_
    refine hK8 _ _ ?_
    refine wp_seq_k fun K10 hK10 => ?_
    refine wp_block ?_
    refine ws fun K11 hK11 => ?_
    refine wl hF rfl rfl rfl (r_field fo32_3 (hF.ev rfl)) ?_; clear hF a; intro a hF
    refine wl hF rfl rfl rfl (r_load1 sc30 (hF.ev rfl) (hS.box (i := 7) rfl rfl)) ?_; clear hF a; intro a hF
    refine wl_mvs (A := [_]) hF rfl ?_; clear hF a; intro a hF
    obtain ⟨g29, o29, m29, q29, cs29, hv29, hm29, hl29, hk29, hz29, hc29⟩ := Rd.at (r2) (a := a) (X := .tmp 28) (hF.ev rfl) (by omega) (by omega)
    have hkk29 := hk29; obtain ⟨v29_0, v29_1, v29_2, v29_3, v29_4, rfl, r29_0, r29_1, r29_2, r29_3, r29_4⟩ := hk29
    refine wl hF rfl rfl rfl (r_index sl30 ((hF.ev rfl).trans hv29) (hF.ev rfl) (by omega) (by first | omega | (simp at hm29; omega))) ?_; clear hF a; intro a hF
    refine wl hF rfl rfl rfl (r_loadn ag53 (hF.ev rfl) (fun j_ u_ hu_ => cellB hS.old (hc29 j_ u_ hu_)) sz53) ?_; clear hF a; intro a hF
    refine wl_mk hF hS rfl rfl rfl (r_call1 en66 (hF.ev rfl)) (l7Copy_c (hS.k hkk29) (by omega)) ?_; clear hF a; rintro vs31 w14 a hS_ hF; replace hS := hS_; clear hS_; dsimp only [List.cons_append, List.nil_append] at hS
    refine wl_alloc hF hS rfl zr53 ?_; clear hF a; intro g4 w15 a hS_ hB_ hF; replace hS := hS_; clear hS_ hB_
    refine wl_storew hF hS (i := 0) rfl (hF.ev rfl) (hF.ev rfl) sz53 rfl rfl ?_; intro w16 hS_; replace hS := hS_; clear hS_; dsimp only [List.set, Nat.reduceAdd] at hS
    refine wl_nil (hK11 _ _ ?_)
    refine wp_region_lit ?_
    refine wl hF rfl rfl rfl (r_field fo32_3 (hF.ev rfl)) ?_; clear hF a; intro a hF
    refine wl hF rfl rfl rfl (r_load1 sc30 (hF.ev rfl) (hS.box (i := 3) rfl rfl)) ?_; clear hF a; intro a hF
    refine wl hF rfl rfl rfl (r_loadn ag53 (hF.ev rfl) (hS.box_rd (i := 0) rfl) sz53) ?_; clear hF a; intro a hF
    refine wl_bslice (rawEK threadEK.sz) [.agg (threadEK.cells (at0 s.threads (k : Int)) vs31).toArray] [raw threadEK (at0 s.threads (k : Int)) vs31] rfl hF hS rfl mk30 rfl ⟨rfl, (hF.ev rfl), trivial⟩ rfl rfl rfl rfl ?_; clear hF a; intro gl_35 w17 a hS_ hF; replace hS := hS_; clear hS_
    have hu_ := hS.own_rd (i := 0) rfl
    replace hS := hS.pull (p := 2) rfl; dsimp only [List.eraseIdx] at hS
    replace hS := hS.pull (p := 3) rfl; dsimp only [List.eraseIdx] at hS
    refine wl_appendn (ek := threadEK) hF hS rfl hu_ mk30 rfl (hF.ev rfl) (hF.ev rfl) (by simp; omega) (by unfold maxLen; simp; omega) ?_; clear hF a hu_; intro A_36 c_36 w18 a hS_ hF; replace hS := hS_; clear hS_
    refine wl hF rfl rfl rfl (r_field fo32_3 (hF.ev rfl)) ?_; clear hF a; intro a hF
    refine wl_store hF hS (i := 3) rfl sz30 (hF.ev rfl) (hF.ev rfl) rfl rfl ?_; intro w19 hS_; replace hS := hS_; clear hS_; dsimp only [List.set, Nat.reduceAdd] at hS
    refine wl_nil ?_
    simp only [Exit.then, Exit.inBlock, ↓reduceIte]
    refine hK10 _ _ ?_
    refine wp_region_lit ?_
    refine wl_mvs (A := [_]) hF rfl ?_; clear hF a; intro a hF
    refine wl hF rfl rfl rfl (r_add (hF.ev rfl) ec) ?_; clear hF a; intro a hF
    refine wl_mvs (A := [_]) hF rfl ?_; clear hF a; intro a hF
    refine wl_nil ?_
    try simp only [Exit.then, Exit.inBlock, ↓reduceIte]
    rw [← take_at0 (by omega)] at hS
    refine ⟨(k + 1, (_, _, _)), (by dsimp only; omega), (hS.pick [0, 3, 4, 5, 6, 7, 8, 9] (by decide) rfl), ((((hF.nil.keep hF (t := 3) rfl).keep hF (t := 2) rfl).keep hF (t := 1) rfl).keepE hF (t := 4) rfl (wk (by omega))), by dsimp only; omega⟩
  refine wp_exit ?_
  simp only [Exit.then, Exit.inBlock, ↓reduceIte]
  refine hK6 _ _ ?_
  refine ws fun K12 hK12 => ?_
  refine wl hF rfl rfl rfl (r_loadn ag32 (hF.ev rfl) (hS.box_rd (i := 1) rfl) sz32) ?_; clear hF a; intro a hF
  refine wl_storew hF hS (i := 6) rfl (hF.ev rfl) (hF.ev rfl) sz32 rfl rfl ?_; intro w20 hS_; replace hS := hS_; clear hS_; dsimp only [List.set, Nat.reduceAdd] at hS
  refine wl_nil (hK12 _ _ ?_)
  refine wp_ret ?_
  try simp only [Exit.then, Exit.inBlock, ↓reduceIte]
  obtain rfl : k = s.threads.length := by omega
  rw [List.take_length] at hS
  exact ret1c rfl ag32 hF hS (i := 6) rfl sz32 rfl ⟨[s10, s15, q], rfl, hS.part_of [4, 2, 0] (by decide) rfl⟩
end Go.Proofs.YtifhfodphoeeoaaGreat.Wk
namespace Go.Proofs.YtifhfodphoeeoaaGreat.Wk
open Go Go.RowKit Sl
set_option linter.unusedVariables false
set_option linter.unusedSimpArgs false
set_option maxRecDepth 20000
def stepped (s : Sl.State) : Sl.State := { s with steps := IntKind.i64.wrap (s.steps + 1) }
theorem running_of {s : Sl.State} {p : Int} (h : isRunning s p = true) : stateOk s = true ∧ (0 ≤ p ∧ p < s.threads.length) := by
  unfold isRunning at h
  simp only [Bool.and_eq_true, decide_eq_true_eq] at h
  exact ⟨h.1.1, by omega⟩
end Go.Proofs.YtifhfodphoeeoaaGreat.Wk
namespace Go.Proofs.YtifhfodphoeeoaaGreat.Wk
open Go Go.RowKit Sl
set_option linter.unusedVariables false
set_option linter.unusedSimpArgs false
set_option maxRecDepth 20000
def stepI (isf : Int → Bool) (stf : Sl.State → Nat → Sl.State) (s : Sl.State) (p : Int) : Sl.State × Bool := if isRunning s p = true ∧ isf (at0 s.threads p).pc = true then (stepped (stf s p.toNat), true) else (s, false)
set_option maxHeartbeats 4000000 in
set_option maxRecDepth 20000 in
theorem stepIf_c {W : World} {s : Sl.State} {cs : List Value} {p : Int} (hm : stateEK.K W s cs) (hw : s.wf) (hz : (s.size : Int) ≤ 1048576) (hp0 : int64 p) {fi fs : FuncId} {ci cf : Array Value} {isf : Int → Bool} {stf : Sl.State → Nat → Sl.State} (hei : enterB Tryz.prog fi = true) (hef : enterB Tryz.prog fs = true) (hi : ∀ (w : World) (n : Int), Below W.heap.size W w → Calls Tryz.prog fi (#[vi n] ++ ci) w (Ret fun v w' => v = .bool (isf n) ∧ Below w.heap.size w w')) (hf : ∀ (p' : Nat) (z0 z1 : Slv) (gt ot mt ct g : Nat) (l : List Res) (w : World), stateOk s = true → p = (p' : Int) → p' < s.threads.length → mt = s.threads.length → isf (at0 s.threads p).pc = true → Sep W (Box g ((s).encv (sv z0) (sv z1) (.slice (some ⟨gt, ot, none⟩) mt ct)) :: Own intEK (sv z0) (s).cells :: Own intEK (sv z1) (s).generations :: Own threadEK (.slice (some ⟨gt, ot, none⟩) mt ct) (s.threads.set p' (at0 s.threads p)) :: l) w → Calls Tryz.prog fs (#[.agg #[.pointer (some ⟨g, 0, none⟩), .pointer (some ⟨gt, ot + p' * 19, none⟩), vi (p' : Int)]] ++ cf) w (Ret fun v w' => v = .tuple #[] ∧ Sep W (Box g ((stf s p').encv (sv z0) (sv z1) (.slice (some ⟨gt, ot, none⟩) mt ct)) :: Own intEK (sv z0) (stf s p').cells :: Own intEK (sv z1) (stf s p').generations :: Own threadEK (.slice (some ⟨gt, ot, none⟩) mt ct) (stf s p').threads :: l) w')) : Calls Tryz.prog 38 #[.agg cs.toArray, vi p, .func (.func fi) #[] ci, .func (.func fs) #[] cf] W (Ret (Mk W (fun vs => .tuple #[.agg (stateEK.cells (stepI isf stf s p).1 vs).toArray, .bool (stepI isf stf s p).2]) (fun vs => [Part stateEK (stepI isf stf s p).1 vs]))) := by
  refine calls_fr Tryz.func38 rfl Tryz.ntmps38 rfl ?_
  intro a hF
  have hS := Sep.refl W
  obtain ⟨v0, v1, v2, rfl, r0, r1, r2⟩ := hm
  have hm : stateEK.K W s (s.encv v0 v1 v2) := ⟨_, _, _, rfl, r0, r1, r2⟩
  obtain ⟨A_a, q_a, rfl, hq_a, hn_a⟩ := r0.sl; unfold maxLen at hn_a
  obtain ⟨A_b, q_b, rfl, hq_b, hn_b⟩ := r1.sl; unfold maxLen at hn_b
  obtain ⟨A_c, q_c, rfl, hq_c, hn_c⟩ := r2.sl; unfold maxLen at hn_c
  refine ws fun K1 hK1 => ?_
  refine wl_box (cs := [_, _, _, _, _, _, _, _, _, _, _, _, _]) hF hS rfl (hF.ev rfl) rfl ?_; clear hF a; intro g1 w1 a hS_ hB_ hF; replace hS := hS_; clear hS_ hB_
  refine wl_alloc hF hS rfl zr32 ?_; clear hF a; intro g2 w2 a hS_ hB_ hF; replace hS := hS_; clear hS_ hB_
  refine wl_mvs (A := [_]) hF rfl ?_; clear hF a; intro a hF
  refine wl_nil (hK1 _ _ ?_)
  refine ws fun K2 hK2 => ?_
  refine wl hF rfl rfl rfl (r_loadn ag32 (hF.ev rfl) (hS.box_rd (i := 1) rfl) sz32) ?_; clear hF a; intro a hF
  refine wl_mk hF hS rfl rfl rfl (r_call1 en73 (hF.ev rfl)) (copyState_c (hS.k hm) (by omega)) ?_; clear hF a; rintro vs12 w3 a hS_ hF; replace hS := hS_; clear hS_; dsimp only [List.cons_append, List.nil_append] at hS
  refine wl_alloc hF hS rfl zr32 ?_; clear hF a; intro g3 w4 a hS_ hB_ hF; replace hS := hS_; clear hS_ hB_
  refine wl_storew hF hS (i := 0) rfl (hF.ev rfl) (hF.ev rfl) sz32 rfl rfl ?_; intro w5 hS_; replace hS := hS_; clear hS_; dsimp only [List.set, Nat.reduceAdd] at hS
  refine wl_nil (hK2 _ _ ?_)
  refine wp_seq_k fun K3 hK3 => ?_
  refine ws fun K4 hK4 => ?_
  refine wl hF rfl rfl rfl (r_loadn ag32 (hF.ev rfl) (hS.box_rd (i := 3) rfl) sz32) ?_; clear hF a; intro a hF
  refine wl_mvs (A := [_]) hF rfl ?_; clear hF a; intro a hF
  refine wl_call hF rfl rfl rfl (r_call2 en74 (hF.ev rfl) (hF.ev rfl)) (implIsRunning_c (hS.k hm) hw hz hp0) ?_; clear hF a; rintro v w6 a ⟨rfl, hB_⟩ hF; replace hS := hS.ext hB_; clear hB_
  refine wl hF rfl rfl rfl (r_not (hF.ev rfl)) ?_; clear hF a; intro a hF
  refine wl_mvs (A := [_]) hF rfl ?_; clear hF a; intro a hF
  apply wl_or (A := [_, _, _, _, _, _, _, _, _, _]) (pk := 27) hF hS (tc := 17) rfl
  ·
    intro hg17 a hF; try simp only [zb1, zb2, zb3, zb4, zb5, zb6, zb7, zb8] at hg17
    obtain ⟨hso_, hp1_⟩ := running_of hg17
    refine wl_mvs (A := [_]) hF rfl ?_; clear hF a; intro a hF
    refine wl_take hF rfl rfl rfl rfl ?_
    refine wl hF rfl rfl rfl (r_field fo32_3 (hF.ev rfl)) ?_; clear hF a; intro a hF
    refine wl_take hF rfl rfl rfl rfl ?_
    refine wl hF rfl rfl rfl (r_load1 sc30 (hF.ev rfl) (hS.box (i := 3) rfl rfl)) ?_; clear hF a; intro a hF
    refine wl_mvs (A := [_]) hF rfl ?_; clear hF a; intro a hF
    refine wl_take hF rfl rfl rfl rfl ?_
    obtain ⟨g22, o22, m22, q22, cs22, hv22, hm22, hl22, hk22, hz22, hc22⟩ := Rd.at (r2) (a := a) (X := .tmp 21) (hF.ev rfl) (by omega) (by omega)
    have hkk22 := hk22; obtain ⟨v22_0, v22_1, v22_2, v22_3, v22_4, rfl, r22_0, r22_1, r22_2, r22_3, r22_4⟩ := hk22
    refine wl hF rfl rfl rfl (r_index sl30 ((hF.ev rfl).trans hv22) (hF.ev rfl) (by omega) (by first | omega | (simp at hm22; omega))) ?_; clear hF a; intro a hF
    refine wl_take hF rfl rfl rfl rfl ?_
    refine wl hF rfl rfl rfl (r_field fo53_0 (hF.ev rfl)) ?_; clear hF a; intro a hF
    refine wl_take hF rfl rfl rfl rfl ?_
    refine wl hF rfl rfl rfl (r_load1 sc3 (hF.ev rfl) (cellB hS.old (hc22 0 _ rfl))) ?_; clear hF a; intro a hF
    refine wl_take hF rfl rfl rfl rfl ?_
    refine wl_call hF rfl rfl rfl (r_callv1 hei (hF.ev rfl) (hF.ev rfl)) (hi _ _ hS.old) ?_; clear hF a; rintro v w7 a ⟨rfl, hB_⟩ hF; replace hS := hS.ext hB_; clear hB_
    refine wl_take hF rfl rfl rfl rfl ?_
    refine wl hF rfl rfl rfl (r_not (hF.ev rfl)) ?_; clear hF a; intro a hF
    refine wl hF rfl rfl rfl (r_pick_f (hF.ev rfl) (hF.ev rfl)) ?_; clear hF a; intro a hF
    exact wl_nil ⟨rfl, (Fr.pre (A := [_, _, _, _, _, _, _, _, _, _]) hF rfl).keep hF (t := 27) rfl, hS⟩
  ·
    intro hg17 a hF; try simp only [zb1, zb2, zb3, zb4, zb5, zb6, zb7, zb8] at hg17
    refine wl_mvs (A := [_, _, _, _, _, _, _, _, _]) hF rfl ?_; clear hF a; intro a hF
    refine wl hF rfl rfl rfl (r_pick_t (hF.ev rfl) ec) ?_; clear hF a; intro a hF
    exact wl_nil ⟨rfl, (Fr.pre (A := [_, _, _, _, _, _, _, _, _, _]) hF rfl).keep hF (t := 27) rfl, hS⟩
  clear hF a hS; intro a w8 hF hS
  refine wl_nil (hK4 _ _ ?_)
  refine wc_fx (t := 27) hF rfl ?_ ?_ <;> clear hF <;> intro c27 hF <;> try simp only [zb1, zb2, zb3, zb4, zb5, zb6, zb7, zb8] at c27
  ·
    refine ws fun K5 hK5 => ?_
    refine wl hF rfl rfl rfl (r_loadn ag32 (hF.ev rfl) (hS.box_rd (i := 0) rfl) sz32) ?_; clear hF a; intro a hF
    refine wl_storew hF hS (i := 2) rfl (hF.ev rfl) (hF.ev rfl) sz32 rfl rfl ?_; intro w9 hS_; replace hS := hS_; clear hS_; dsimp only [List.set, Nat.reduceAdd] at hS
    refine wl_mvs (A := [_]) hF rfl ?_; clear hF a; intro a hF
    refine wl_nil (hK5 _ _ ?_)
    refine wp_ret ?_
    try simp only [Exit.then, Exit.inBlock, ↓reduceIte]
    have e : stepI isf stf s p = (s, false) := if_neg (fun h => by
      rcases c27 with c | c
      · rw [h.1] at c; cases c
      · rw [h.2] at c; cases c)
    refine ret2c rfl ag32 hF hS (i := 2) rfl sz32 rfl rfl ⟨vs12, ?_, ?_⟩
    · rw [e] <;> rfl
    · rw [e]; exact hS.pick [1] (by decide) rfl
  obtain ⟨hso, hp1⟩ := running_of c27.1
  obtain ⟨p, rfl⟩ : ∃ k : Nat, p = (k : Int) := ⟨p.toNat, by omega⟩
  have hp : p < s.threads.length := by omega
  have hxt := at0_nat hp
  replace hS := hS.pull (p := 1) rfl; dsimp only [List.eraseIdx] at hS
  replace hS : Sep W (Own intEK (sv (vs12.getD 0 (none, 0, 0))) s.cells :: Own intEK (sv (vs12.getD 1 (none, 0, 0))) s.generations :: Own threadEK (sv (vs12.getD 2 (none, 0, 0))) s.threads :: _) _ := hS.part_open
  dsimp only [stateEK] at hS
  generalize vs12.getD 0 (none, 0, 0) = z0 at hS
  generalize vs12.getD 1 (none, 0, 0) = z1 at hS
  generalize vs12.getD 2 (none, 0, 0) = z2 at hS
  obtain ⟨gt, ot, mt, ct, rfl⟩ := hS.elt_form (q := 2) rfl hxt
  have hmt : mt = s.threads.length := hS.own_len (q := 2) (s := (some ⟨gt, ot, none⟩, mt, ct)) rfl
  replace hS := hS.set_form (q := 2) rfl hxt; dsimp only [List.set] at hS
  refine wp_skip ?_
  refine hK3 _ _ ?_
  refine ws fun K6 hK6 => ?_
  refine wl_mvs (A := [_]) hF rfl ?_; clear hF a; intro a hF
  refine wl hF rfl rfl rfl (r_field fo32_3 (hF.ev rfl)) ?_; clear hF a; intro a hF
  refine wl hF rfl rfl rfl (r_load1 sc30 (hF.ev rfl) (hS.box (i := 3) rfl rfl)) ?_; clear hF a; intro a hF
  refine wl_mvs (A := [_]) hF rfl ?_; clear hF a; intro a hF
  refine wl hF rfl rfl rfl (r_index sl30 (hF.ev rfl) (hF.ev rfl) (by omega) (by first | omega | (dsimp only; omega))) ?_; clear hF a; intro a hF
  refine wl_mvs (A := [_]) hF rfl ?_; clear hF a; intro a hF
  refine wl hF rfl rfl rfl (r_build (bd63_0_1_2 _ _ _) ⟨rfl, (hF.ev rfl), rfl, (hF.ev rfl), rfl, (hF.ev rfl), trivial⟩) ?_; clear hF a; intro a hF
  replace hS := Sep.headp (A := [_, _, _, _, _, _]) (B := [_, _, _, _, _, _]) hS [3, 0, 1, 2, 4, 5] (by decide) rfl rfl
  refine wl_call hF rfl rfl rfl (r_callv1 hef (hF.ev rfl) (hF.ev rfl)) (hf p z0 z1 gt ot mt ct _ _ _ hso rfl hp hmt c27.2 hS) ?_; clear hF a; rintro v w10 a ⟨rfl, hS_⟩ hF; replace hS := hS_; clear hS_
  refine wl_nil (hK6 _ _ ?_)
  refine ws fun K7 hK7 => ?_
  refine wl hF rfl rfl rfl (r_field fo32_4 (hF.ev rfl)) ?_; clear hF a; intro a hF
  refine wl hF rfl rfl rfl (r_load1 sc3 (hF.ev rfl) (hS.box (i := 0) rfl rfl)) ?_; clear hF a; intro a hF
  refine wl hF rfl rfl rfl (r_add (hF.ev rfl) ec) ?_; clear hF a; intro a hF
  refine wl hF rfl rfl rfl (r_field fo32_4 (hF.ev rfl)) ?_; clear hF a; intro a hF
  refine wl_store hF hS (i := 0) rfl sz3 (hF.ev rfl) (hF.ev rfl) rfl rfl ?_; intro w11 hS_; replace hS := hS_; clear hS_; dsimp only [List.set, Nat.reduceAdd] at hS
  refine wl_nil (hK7 _ _ ?_)
  refine ws fun K8 hK8 => ?_
  refine wl hF rfl rfl rfl (r_loadn ag32 (hF.ev rfl) (hS.box_rd (i := 0) rfl) sz32) ?_; clear hF a; intro a hF
  refine wl_storew hF hS (i := 4) rfl (hF.ev rfl) (hF.ev rfl) sz32 rfl rfl ?_; intro w12 hS_; replace hS := hS_; clear hS_; dsimp only [List.set, Nat.reduceAdd] at hS
  refine wl_mvs (A := [_]) hF rfl ?_; clear hF a; intro a hF
  refine wl_nil (hK8 _ _ ?_)
  refine wp_ret ?_
  try simp only [Exit.then, Exit.inBlock, ↓reduceIte]
  have e : stepI isf stf s (p : Int) = (stepped (stf s p), true) := if_pos c27
  refine ret2c rfl ag32 hF hS (i := 4) rfl sz32 rfl rfl ⟨[z0, z1, (some ⟨gt, ot, none⟩, mt, ct)], ?_, ?_⟩
  · rw [e] <;> rfl
  · rw [e]; exact hS.part_of [1, 2, 3] (by decide) rfl
end Go.Proofs.YtifhfodphoeeoaaGreat.Wk
namespace Go.Proofs.YtifhfodphoeeoaaGreat.Sl
open Go Go.RowKit
set_option linter.unusedVariables false
set_option linter.unusedSimpArgs false
section
variable {w0 w : World} {l : List Res} {ts : List Thread} {t t' : Thread} {p g o m c : Nat} {v : Value}
theorem Sep.thr_lend (h : Sep w0 (Own threadEK (.slice (some ⟨g, o, none⟩) m c) (ts.set p t) :: l) w) (hp : p < ts.length) : ∃ (A0 A1 A2 A3 A4 : Option Addr) (c0 c1 c2 c3 c4 : Nat), (t.found.length ≤ maxLen ∧ t.free.length ≤ maxLen ∧ t.buffer.length ≤ maxLen ∧ t.work.length ≤ maxLen ∧ t.limbo.length ≤ maxLen) ∧ (t.found.length ≤ c0 ∧ t.free.length ≤ c1 ∧ t.buffer.length ≤ c2 ∧ t.work.length ≤ c3 ∧ t.limbo.length ≤ c4) ∧
    Sep w0 (Own intEK (.slice A0 t.found.length c0) t.found :: Own intEK (.slice A1 t.free.length c1) t.free :: Own entryEK (.slice A2 t.buffer.length c2) t.buffer :: Own entryEK (.slice A3 t.work.length c3) t.work :: Own intEK (.slice A4 t.limbo.length c4) t.limbo :: OwnBut threadEK (.slice (some ⟨g, o, none⟩) m c) (ts.set p t) p (t.encv (.slice A0 t.found.length c0) (.slice A1 t.free.length c1) (.slice A2 t.buffer.length c2) (.slice A3 t.work.length c3) (.slice A4 t.limbo.length c4)) :: l) w := by
  obtain ⟨vs, hb, _⟩ := h.elt_lend (q := 0) hp rfl
  replace hb : Sep w0 (Own intEK (sv (vs.getD 0 (none, 0, 0))) t.found :: Own intEK (sv (vs.getD 1 (none, 0, 0))) t.free :: Own entryEK (sv (vs.getD 2 (none, 0, 0))) t.buffer :: Own entryEK (sv (vs.getD 3 (none, 0, 0))) t.work :: Own intEK (sv (vs.getD 4 (none, 0, 0))) t.limbo :: OwnBut threadEK (.slice (some ⟨g, o, none⟩) m c) (ts.set p t) p (t.encv (sv (vs.getD 0 (none, 0, 0))) (sv (vs.getD 1 (none, 0, 0))) (sv (vs.getD 2 (none, 0, 0))) (sv (vs.getD 3 (none, 0, 0))) (sv (vs.getD 4 (none, 0, 0)))) :: l) w := hb.part_open
  obtain ⟨A0, c0, e0, k0, n0⟩ := (hb.own_rd (i := 0) rfl).sl
  obtain ⟨A1, c1, e1, k1, n1⟩ := (hb.own_rd (i := 1) rfl).sl
  obtain ⟨A2, c2, e2, k2, n2⟩ := (hb.own_rd (i := 2) rfl).sl
  obtain ⟨A3, c3, e3, k3, n3⟩ := (hb.own_rd (i := 3) rfl).sl
  obtain ⟨A4, c4, e4, k4, n4⟩ := (hb.own_rd (i := 4) rfl).sl
  rw [e0, e1, e2, e3, e4] at hb
  exact ⟨A0, A1, A2, A3, A4, c0, c1, c2, c3, c4, ⟨n0, n1, n2, n3, n4⟩, ⟨k0, k1, k2, k3, k4⟩, hb⟩
theorem Sep.thr_back {y0 y1 y2 y3 y4 : Slv} {cs : List Value} (h : Sep w0 (Own intEK (sv y0) t'.found :: Own intEK (sv y1) t'.free :: Own entryEK (sv y2) t'.buffer :: Own entryEK (sv y3) t'.work :: Own intEK (sv y4) t'.limbo :: OwnBut threadEK v (ts.set p t) p cs :: l) w)
    (hc : cs = t'.encv (sv y0) (sv y1) (sv y2) (sv y3) (sv y4)) : Sep w0 (Own threadEK v (ts.set p t') :: l) w := by
  have h1 := Sep.part_mk (ek := threadEK) (x := t') (vs := [y0, y1, y2, y3, y4]) (l := OwnBut threadEK v (ts.set p t) p cs :: l) h rfl
  have h2 := h1.giveback (q := 0) rfl hc
  rw [List.set_cons_zero, List.set_set] at h2
  exact h2
theorem Sep.box7 {l : List Res} {i g : Nat} {u0 u1 u2 u3 u4 u5 u6 : Value} {us : List Value} (h : Sep w0 l w) (hi : l[i]? = some (Box g (u0 :: u1 :: u2 :: u3 :: u4 :: u5 :: u6 :: us))) : ∀ j u, [u0, u1, u2, u3, u4, u5, u6][j]? = some u → w.cell? ⟨g, 0 + j, none⟩ = some u := fun j u hu => by
  refine h.box_rd hi j u ?_
  have h1 : ([u0, u1, u2, u3, u4, u5, u6] ++ us)[j]? = some u := by rw [List.getElem?_append_left (List.getElem?_eq_some_iff.1 hu).1]; exact hu
  exact h1
end
end Go.Proofs.YtifhfodphoeeoaaGreat.Sl
namespace Go.Proofs.YtifhfodphoeeoaaGreat.Sl
open Go Go.RowKit
set_option linter.unusedVariables false
set_option linter.unusedSimpArgs false
abbrev JX {X : Type} (W : World) (lf : X → List Res → List Res) (r : List Res) (w : World) : Prop := ∃ x, Sep W (lf x r) w
section
variable {P : Program} {ops : Array Oper} {Q : Exit → Act → World → Prop} {X : Type} {lf : X → List Res → List Res} {r l : List Res} {W : World} {muts : List Nat} {n : Nat} {L : List (Nat × Value)}
end
end Go.Proofs.YtifhfodphoeeoaaGreat.Sl
namespace Go.Proofs.YtifhfodphoeeoaaGreat.Wk
open Go Go.RowKit Sl
set_option linter.unusedVariables false
set_option linter.unusedSimpArgs false
set_option maxRecDepth 20000
/-- a step by what it does to the state and to the thread that steps -/
def stepBy (f : Sl.State → Sl.Thread → Int → Sl.State × Sl.Thread) (s : Sl.State) (p : Nat) : Sl.State := { (f s (at0 s.threads (p : Int)) p).1 with threads := s.threads.set p (f s (at0 s.threads (p : Int)) p).2 }
def stepOf (isf : Int → Bool) (f : Sl.State → Sl.Thread → Int → Sl.State × Sl.Thread) (s : Sl.State) (p : Int) : Sl.State × Bool := if isRunning s p = true ∧ isf (at0 s.threads p).pc = true then (stepBy f (stepped s) p.toNat, true) else (s, false)
theorem stepI_of {isf : Int → Bool} {f : Sl.State → Sl.Thread → Int → Sl.State × Sl.Thread} (hc : ∀ s t p, f (stepped s) t p = (stepped (f s t p).1, (f s t p).2)) (s : Sl.State) (p : Int) : stepI isf (stepBy f) s p = stepOf isf f s p := by
  unfold stepI stepOf
  split
  · unfold stepBy; rw [hc]; rfl
  · rfl
/-- what a step leans on -/
structure Fit (s : Sl.State) (t : Sl.Thread) : Prop where
  ok : s.config.ok
  lc : (s.cells.length : Int) = cellCount s.config
  lg : (s.generations.length : Int) = s.config.capacity
  wc : ∀ x ∈ s.cells, int64 x
  wg : ∀ x ∈ s.generations, int64 x
  wt : t.wf
  th : threadOk s.config t = true
theorem Fit.of {s : Sl.State} {p : Nat} (hs : stateOk s = true) (hw : s.wf) (hp : p < s.threads.length) : Fit s (at0 s.threads (p : Int)) := by
  obtain ⟨h1, h2, h3, h4⟩ := stateOk_shape hs
  exact ⟨h1, h2, h3, hw.2.1, hw.2.2.1, hw.2.2.2.1 _ (at0_mem (by omega) (by omega)), state_thread hs (by omega) (by omega)⟩
theorem Fit.stepped {s : Sl.State} {t : Sl.Thread} (h : Fit s t) : Fit (stepped s) t := ⟨h.ok, h.lc, h.lg, h.wc, h.wg, h.wt, h.th⟩
theorem Fit.curr {s : Sl.State} {t : Sl.Thread} (h : Fit s t) : int64 t.curr := h.wt.2.2.2.2.2.2.1
theorem Fit.prev {s : Sl.State} {t : Sl.Thread} (h : Fit s t) : int64 t.prev := h.wt.2.2.2.2.2.1
theorem Fit.next {s : Sl.State} {t : Sl.Thread} (h : Fit s t) : int64 t.next := h.wt.2.2.2.2.2.2.2.1
theorem Fit.seen {s : Sl.State} {t : Sl.Thread} (h : Fit s t) : int64 t.seen := h.wt.2.2.2.2.2.2.2.2.1
end Go.Proofs.YtifhfodphoeeoaaGreat.Wk
namespace Go.Proofs.YtifhfodphoeeoaaGreat.Wk
open Go Go.RowKit Sl
set_option linter.unusedVariables false
set_option linter.unusedSimpArgs false
set_option maxRecDepth 20000
end Go.Proofs.YtifhfodphoeeoaaGreat.Wk
namespace Go.Proofs.YtifhfodphoeeoaaGreat.Wk
open Go Go.RowKit Sl
set_option linter.unusedVariables false
set_option linter.unusedSimpArgs false
set_option maxRecDepth 20000
set_option maxHeartbeats 4000000 in
set_option maxRecDepth 20000 in
theorem implLoadCell_c {W : World} {va : Value} {xs : List Int} {a_ : Int} (ha : intEK.Rd W va xs) : Calls Tryz.prog 138 #[va, vi a_] W (Ret fun v w' => v = .tuple #[vi (loadC xs a_), .bool (decide (0 ≤ a_ ∧ a_ < xs.length))] ∧ Below W.heap.size W w') := by
  refine calls_fr Tryz.func138 rfl Tryz.ntmps138 rfl ?_
  intro a hF
  have hS := Sep.refl W
  obtain ⟨A_a, q_a, rfl, hq_a, hn_a⟩ := ha.sl; unfold maxLen at hn_a
  refine ws fun K1 hK1 => ?_
  refine wl_mvs (A := [_, _]) hF rfl ?_; clear hF a; intro a hF
  refine wl_nil (hK1 _ _ ?_)
  refine wp_seq_k fun K2 hK2 => ?_
  refine ws fun K3 hK3 => ?_
  refine wl_mvs (A := [_, _]) hF rfl ?_; clear hF a; intro a hF
  refine wl hF rfl rfl rfl (r_len ul24 (hF.ev rfl)) ?_; clear hF a; intro a hF
  refine wl hF rfl rfl rfl (r_sub (hF.ev rfl) ec) ?_; clear hF a; intro a hF
  refine wl_call hF rfl rfl rfl (r_call3 en75 (hF.ev rfl) ec (hF.ev rfl)) (in_c _ _ _) ?_; clear hF a; rintro v w1 a ⟨rfl, hB_⟩ hF; replace hS := hS.ext hB_; clear hB_
  refine wl hF rfl rfl rfl (r_not (hF.ev rfl)) ?_; clear hF a; intro a hF
  refine wl_nil (hK3 _ _ ?_)
  refine wc_fx (t := 11) hF rfl ?_ ?_ <;> clear hF <;> intro c11 hF <;> try simp only [zb1, zb2, zb3, zb4, zb5, zb6, zb7, zb8] at c11
  ·
    rw [w64_id (by omega) (by omega)] at c11
    refine ws fun K4 hK4 => ?_
    refine wl_mvs (A := [_, _]) hF rfl ?_; clear hF a; intro a hF
    refine wl_nil (hK4 _ _ ?_)
    refine wp_ret ?_
    try simp only [Exit.then, Exit.inBlock, ↓reduceIte]
    refine ret2 rfl hF rfl rfl ⟨?_, hS.old⟩
    first
      | (rw [show loadC xs a_ = 0 from if_neg (by omega), decide_eq_false (by omega)]; done)
      | (rw [show loadC xs a_ = at0 xs a_ from if_pos (by omega), decide_eq_true (show 0 ≤ a_ ∧ a_ < xs.length by omega)]; done)
  rw [w64_id (by omega) (by omega)] at c11
  refine wp_skip ?_
  refine hK2 _ _ ?_
  refine ws fun K5 hK5 => ?_
  refine wl_mvs (A := [_, _]) hF rfl ?_; clear hF a; intro a hF
  obtain ⟨g14, o14, m14, q14, hv14, hm14, hl14, hc14⟩ := Rd.atF (ha) (a := a) (X := .tmp 13) (hF.ev rfl) (by omega) (by omega)
  refine wl hF rfl rfl rfl (r_index sl24 ((hF.ev rfl).trans hv14) (hF.ev rfl) (by omega) (by first | omega | (simp at hm14; omega))) ?_; clear hF a; intro a hF
  refine wl hF rfl rfl rfl (r_load1 sc3 (hF.ev rfl) (cellB hS.old (hc14 0 _ rfl))) ?_; clear hF a; intro a hF
  refine wl_mvs (A := [_, _]) hF rfl ?_; clear hF a; intro a hF
  refine wl_nil (hK5 _ _ ?_)
  refine wp_ret ?_
  try simp only [Exit.then, Exit.inBlock, ↓reduceIte]
  refine ret2 rfl hF rfl rfl ⟨?_, hS.old⟩
  first
    | (rw [show loadC xs a_ = 0 from if_neg (by omega), decide_eq_false (by omega)]; done)
    | (rw [show loadC xs a_ = at0 xs a_ from if_pos (by omega), decide_eq_true (show 0 ≤ a_ ∧ a_ < xs.length by omega)]; done)
set_option maxHeartbeats 4000000 in
set_option maxRecDepth 20000 in
theorem stpLoad_c {W : World} {u0 u1 u2 u3 u4 u5 va : Value} {xs : List Int} {g gt ot p : Nat} (hc : ∀ j u, [u0, u1, u2, u3, u4, u5, va][j]? = some u → W.cell? ⟨g, 0 + j, none⟩ = some u) (hr : intEK.Rd W va xs) {a_ : Int} : Calls Tryz.prog 77 #[.agg #[.pointer (some ⟨g, 0, none⟩), .pointer (some ⟨gt, ot + p * 19, none⟩), vi (p : Int)], vi a_] W (Ret fun v w' => v = vi (loadC xs a_) ∧ Below W.heap.size W w') := by
  refine calls_fr Tryz.func77 rfl Tryz.ntmps77 rfl ?_
  intro a hF
  have hS := Sep.refl W
  obtain ⟨A_a, q_a, rfl, hq_a, hn_a⟩ := hr.sl; unfold maxLen at hn_a
  refine ws fun K1 hK1 => ?_
  refine wl_box (cs := [_, _, _]) hF hS rfl (hF.ev rfl) rfl ?_; clear hF a; intro g1 w1 a hS_ hB_ hF; replace hS := hS_; clear hS_ hB_
  refine wl_mvs (A := [_]) hF rfl ?_; clear hF a; intro a hF
  refine wl_nil (hK1 _ _ ?_)
  refine ws fun K2 hK2 => ?_
  refine wl hF rfl rfl rfl (r_field fo63_0 (hF.ev rfl)) ?_; clear hF a; intro a hF
  refine wl hF rfl rfl rfl (r_load1 sc55 (hF.ev rfl) (hS.box (i := 0) rfl rfl)) ?_; clear hF a; intro a hF
  refine wl hF rfl rfl rfl (r_nilCheck (hF.ev rfl)) ?_; clear hF a; intro a hF
  refine wl hF rfl rfl rfl (r_field fo32_1 (hF.ev rfl)) ?_; clear hF a; intro a hF
  refine wl hF rfl rfl rfl (r_load1 sc24 (hF.ev rfl) (cellB hS.old (hc 6 _ rfl))) ?_; clear hF a; intro a hF
  refine wl_mvs (A := [_]) hF rfl ?_; clear hF a; intro a hF
  refine wl_call hF rfl rfl rfl (r_call2 en138 (hF.ev rfl) (hF.ev rfl)) (implLoadCell_c (hS.rd hr)) ?_; clear hF a; rintro v w2 a ⟨rfl, hB_⟩ hF; replace hS := hS.ext hB_; clear hB_
  refine wl_mvs (A := [_]) hF rfl ?_; clear hF a; intro a hF
  refine wl hF rfl rfl rfl (r_extract (hF.ev rfl) rfl) ?_; clear hF a; intro a hF
  refine wl hF rfl rfl rfl (r_extract (hF.ev rfl) rfl) ?_; clear hF a; intro a hF
  refine wl_mvs (A := [_, _]) hF rfl ?_; clear hF a; intro a hF
  refine wl_nil (hK2 _ _ ?_)
  refine ws fun K3 hK3 => ?_
  refine wl_mvs (A := [_, _]) hF rfl ?_; clear hF a; intro a hF
  refine wl_nil (hK3 _ _ ?_)
  refine wp_ret ?_
  try simp only [Exit.then, Exit.inBlock, ↓reduceIte]
  exact ret1 rfl hF rfl ⟨rfl, hS.old⟩
end Go.Proofs.YtifhfodphoeeoaaGreat.Wk
namespace Go.Proofs.YtifhfodphoeeoaaGreat.Wk
open Go Go.RowKit Sl
set_option linter.unusedVariables false
set_option linter.unusedSimpArgs false
set_option maxRecDepth 20000
end Go.Proofs.YtifhfodphoeeoaaGreat.Wk
namespace Go.Proofs.YtifhfodphoeeoaaGreat.Wk
open Go Go.RowKit Sl
theorem ag27 : aggB Tryz.prog 27 = true := by kernel_rfl
theorem bd50 : Tryz.prog.built 50 [] = some [.int .i64 0, .int .i64 0].toArray := by kernel_rfl
theorem bl4 : Tryz.prog.underlying 4 = some .bool := by kernel_rfl
theorem en9 : enterB Tryz.prog 9 = true := by kernel_rfl
theorem en11 : enterB Tryz.prog 11 = true := by kernel_rfl
theorem en13 : enterB Tryz.prog 13 = true := by kernel_rfl
theorem en14 : enterB Tryz.prog 14 = true := by kernel_rfl
theorem en15 : enterB Tryz.prog 15 = true := by kernel_rfl
theorem en38 : enterB Tryz.prog 38 = true := by kernel_rfl
theorem en77 : enterB Tryz.prog 77 = true := by kernel_rfl
theorem en83 : enterB Tryz.prog 83 = true := by kernel_rfl
theorem sz27 : szB Tryz.prog 27 = some 13 := by kernel_rfl
end Go.Proofs.YtifhfodphoeeoaaGreat.Wk
namespace Go.Proofs.YtifhfodphoeeoaaGreat.Wk
open Go Go.RowKit Sl
end Go.Proofs.YtifhfodphoeeoaaGreat.Wk
namespace Go.Proofs.YtifhfodphoeeoaaGreat.Wk
open Go Go.RowKit Sl
theorem en88 : enterB Tryz.prog 88 = true := by kernel_rfl
theorem en91 : enterB Tryz.prog 91 = true := by kernel_rfl
end Go.Proofs.YtifhfodphoeeoaaGreat.Wk
namespace Go.Proofs.YtifhfodphoeeoaaGreat.Wk
open Go Go.RowKit Sl
set_option linter.unusedVariables false
set_option linter.unusedSimpArgs false
set_option maxRecDepth 20000
set_option maxHeartbeats 4000000 in
set_option maxRecDepth 20000 in
theorem l9LoadR_c {W : World} {u0 u1 u2 u3 u4 u5 va : Value} {xs : List Int} {g : Nat} (hc : ∀ j u, [u0, u1, u2, u3, u4, u5, va][j]? = some u → W.cell? ⟨g, 0 + j, none⟩ = some u) (hr : intEK.Rd W va xs) {a_ : Int} : Calls Tryz.prog 88 #[.pointer (some ⟨g, 0, none⟩), vi a_] W (Ret fun v w' => v = vi (loadC xs a_) ∧ Below W.heap.size W w') := by
  refine calls_fr Tryz.func88 rfl Tryz.ntmps88 rfl ?_
  intro a hF
  have hS := Sep.refl W
  obtain ⟨A_a, q_a, rfl, hq_a, hn_a⟩ := hr.sl; unfold maxLen at hn_a
  refine ws fun K1 hK1 => ?_
  refine wl_mvs (A := [_]) hF rfl ?_; clear hF a; intro a hF
  refine wl_nil (hK1 _ _ ?_)
  refine wp_seq_k fun K2 hK2 => ?_
  refine ws fun K3 hK3 => ?_
  refine wl_mvs (A := [_]) hF rfl ?_; clear hF a; intro a hF
  refine wl hF rfl rfl rfl (r_lss (hF.ev rfl) ec) ?_; clear hF a; intro a hF
  refine wl_mvs (A := [_]) hF rfl ?_; clear hF a; intro a hF
  apply wl_or (A := [_, _, _, _, _, _, _, _]) (pk := 15) hF hS (tc := 7) rfl
  ·
    intro hg7 a hF; try simp only [zb1, zb2, zb3, zb4, zb5, zb6, zb7, zb8] at hg7
    refine wl_mvs (A := [_, _]) hF rfl ?_; clear hF a; intro a hF
    refine wl_take hF rfl rfl rfl rfl ?_
    refine wl hF rfl rfl rfl (r_nilCheck (hF.ev rfl)) ?_; clear hF a; intro a hF
    refine wl_take hF rfl rfl rfl rfl ?_
    refine wl hF rfl rfl rfl (r_field fo32_1 (hF.ev rfl)) ?_; clear hF a; intro a hF
    refine wl_take hF rfl rfl rfl rfl ?_
    refine wl hF rfl rfl rfl (r_load1 sc24 (hF.ev rfl) (cellB hS.old (hc 6 _ rfl))) ?_; clear hF a; intro a hF
    refine wl_take hF rfl rfl rfl rfl ?_
    refine wl hF rfl rfl rfl (r_len ul24 (hF.ev rfl)) ?_; clear hF a; intro a hF
    refine wl_take hF rfl rfl rfl rfl ?_
    refine wl hF rfl rfl rfl (r_geq (hF.ev rfl) (hF.ev rfl)) ?_; clear hF a; intro a hF
    refine wl hF rfl rfl rfl (r_pick_f (hF.ev rfl) (hF.ev rfl)) ?_; clear hF a; intro a hF
    exact wl_nil ⟨rfl, (Fr.pre (A := [_, _, _, _, _, _, _, _]) hF rfl).keep hF (t := 15) rfl, hS⟩
  ·
    intro hg7 a hF; try simp only [zb1, zb2, zb3, zb4, zb5, zb6, zb7, zb8] at hg7
    refine wl_mvs (A := [_, _, _, _, _, _, _]) hF rfl ?_; clear hF a; intro a hF
    refine wl hF rfl rfl rfl (r_pick_t (hF.ev rfl) ec) ?_; clear hF a; intro a hF
    exact wl_nil ⟨rfl, (Fr.pre (A := [_, _, _, _, _, _, _, _]) hF rfl).keep hF (t := 15) rfl, hS⟩
  clear hF a hS; intro a w1 hF hS
  refine wl_nil (hK3 _ _ ?_)
  refine wc_fx (t := 15) hF rfl ?_ ?_ <;> clear hF <;> intro c15 hF <;> try simp only [zb1, zb2, zb3, zb4, zb5, zb6, zb7, zb8] at c15
  ·
    refine ws fun K4 hK4 => ?_
    refine wl_mvs (A := [_]) hF rfl ?_; clear hF a; intro a hF
    refine wl_nil (hK4 _ _ ?_)
    refine wp_ret ?_
    try simp only [Exit.then, Exit.inBlock, ↓reduceIte]
    first
      | (refine ret1 rfl hF rfl ⟨congrArg vi (Eq.symm (if_neg (by omega))), hS.old⟩)
      | (refine ret1 rfl hF rfl ⟨congrArg vi (Eq.symm (if_pos (by omega))), hS.old⟩)
  refine wp_skip ?_
  refine hK2 _ _ ?_
  refine ws fun K5 hK5 => ?_
  refine wl_mvs (A := [_]) hF rfl ?_; clear hF a; intro a hF
  refine wl hF rfl rfl rfl (r_nilCheck (hF.ev rfl)) ?_; clear hF a; intro a hF
  refine wl hF rfl rfl rfl (r_field fo32_1 (hF.ev rfl)) ?_; clear hF a; intro a hF
  refine wl hF rfl rfl rfl (r_load1 sc24 (hF.ev rfl) (cellB hS.old (hc 6 _ rfl))) ?_; clear hF a; intro a hF
  refine wl_mvs (A := [_]) hF rfl ?_; clear hF a; intro a hF
  obtain ⟨g21, o21, m21, q21, hv21, hm21, hl21, hc21⟩ := Rd.atF (hr) (a := a) (X := .tmp 20) (hF.ev rfl) (by omega) (by omega)
  refine wl hF rfl rfl rfl (r_index sl24 ((hF.ev rfl).trans hv21) (hF.ev rfl) (by omega) (by first | omega | (simp at hm21; omega))) ?_; clear hF a; intro a hF
  refine wl hF rfl rfl rfl (r_load1 sc3 (hF.ev rfl) (cellB hS.old (hc21 0 _ rfl))) ?_; clear hF a; intro a hF
  refine wl_mvs (A := [_]) hF rfl ?_; clear hF a; intro a hF
  refine wl_nil (hK5 _ _ ?_)
  refine wp_ret ?_
  try simp only [Exit.then, Exit.inBlock, ↓reduceIte]
  first
    | (refine ret1 rfl hF rfl ⟨congrArg vi (Eq.symm (if_neg (by omega))), hS.old⟩)
    | (refine ret1 rfl hF rfl ⟨congrArg vi (Eq.symm (if_pos (by omega))), hS.old⟩)
theorem Fit.sizes {s : Sl.State} {t : Sl.Thread} (h : Fit s t) : sizesOk t := by
  have := h.th
  unfold threadOk at this; simp only [Bool.and_eq_true, decide_eq_true_eq] at this
  exact this.2
end Go.Proofs.YtifhfodphoeeoaaGreat.Wk
namespace Go.Proofs.YtifhfodphoeeoaaGreat.Wk
open Go Go.RowKit Sl
set_option linter.unusedVariables false
set_option linter.unusedSimpArgs false
set_option maxRecDepth 20000
end Go.Proofs.YtifhfodphoeeoaaGreat.Wk
namespace Go.Proofs.YtifhfodphoeeoaaGreat.Wk
open Go Go.RowKit Sl
set_option linter.unusedVariables false
set_option linter.unusedSimpArgs false
set_option maxRecDepth 20000
theorem crow_set_le {α : Type} {c : α → Nat} {y : α} {x : α} {k : Nat} : ∀ {xs : List α} {i : Nat}, xs[i]? = some y → c x ≤ c y + k → crow c (xs.set i x) ≤ crow c xs + k
  | [], i, h, _ => by simp at h
  | z :: xs, 0, h, hl => by simp at h; subst h; simp only [List.set_cons_zero, crow]; omega
  | z :: xs, i + 1, h, hl => by
    have := crow_set_le (xs := xs) (i := i) (by simpa using h) hl
    simp only [List.set_cons_succ, crow]; omega
/-- a step makes a state longer by at most k -/
theorem stepOf_size {isf : Int → Bool} {f : Sl.State → Sl.Thread → Int → Sl.State × Sl.Thread} {s : Sl.State} {p : Int} (k : Nat) (hk : ∀ s t p, ((f s t p).1.cells.length = s.cells.length ∧ (f s t p).1.generations.length = s.generations.length) ∧ (f s t p).2.size ≤ t.size + k) : (stepOf isf f s p).1.size ≤ s.size + k := by
  unfold stepOf
  split
  · rename_i h
    have hp := (running_of h.1).2
    have hx : s.threads[p.toNat]? = some (at0 s.threads ((p.toNat : Nat) : Int)) := at0_nat (by omega)
    obtain ⟨⟨h1, h2⟩, h3⟩ := hk (stepped s) (at0 s.threads ((p.toNat : Nat) : Int)) ((p.toNat : Nat) : Int)
    have h4 := crow_set_le (c := Sl.Thread.size) hx h3
    have e1 : (stepBy f (stepped s) p.toNat).size = (f (stepped s) (at0 s.threads ((p.toNat : Nat) : Int)) ((p.toNat : Nat) : Int)).1.cells.length + (f (stepped s) (at0 s.threads ((p.toNat : Nat) : Int)) ((p.toNat : Nat) : Int)).1.generations.length + ((s.threads.set p.toNat (f (stepped s) (at0 s.threads ((p.toNat : Nat) : Int)) ((p.toNat : Nat) : Int)).2).length + crow Sl.Thread.size (s.threads.set p.toNat (f (stepped s) (at0 s.threads ((p.toNat : Nat) : Int)) ((p.toNat : Nat) : Int)).2)) := rfl
    have e2 : s.size = s.cells.length + s.generations.length + (s.threads.length + crow Sl.Thread.size s.threads) := rfl
    have h5 : (stepped s).cells.length = s.cells.length := rfl
    have h6 : (stepped s).generations.length = s.generations.length := rfl
    show (stepBy f (stepped s) p.toNat).size ≤ s.size + k
    rw [e1, e2, List.length_set]
    omega
  · exact Nat.le_add_right _ _
end Go.Proofs.YtifhfodphoeeoaaGreat.Wk
namespace Go.Proofs.YtifhfodphoeeoaaGreat.Wk
open Go Go.RowKit Sl
end Go.Proofs.YtifhfodphoeeoaaGreat.Wk
namespace Go.Proofs.YtifhfodphoeeoaaGreat.Wk
open Go Go.RowKit Sl
end Go.Proofs.YtifhfodphoeeoaaGreat.Wk
namespace Go.Proofs.YtifhfodphoeeoaaGreat.Wk
open Go Go.RowKit Sl
end Go.Proofs.YtifhfodphoeeoaaGreat.Wk
namespace Go.Proofs.YtifhfodphoeeoaaGreat.Wk
open Go Go.RowKit Sl
end Go.Proofs.YtifhfodphoeeoaaGreat.Wk
namespace Go.Proofs.YtifhfodphoeeoaaGreat.Wk
open Go Go.RowKit Sl
theorem en20 : enterB Tryz.prog 20 = true := by kernel_rfl
theorem en21 : enterB Tryz.prog 21 = true := by kernel_rfl
theorem en53 : enterB Tryz.prog 53 = true := by kernel_rfl
theorem en61 : enterB Tryz.prog 61 = true := by kernel_rfl
theorem en103 : enterB Tryz.prog 103 = true := by kernel_rfl
theorem en106 : enterB Tryz.prog 106 = true := by kernel_rfl
theorem en147 : enterB Tryz.prog 147 = true := by kernel_rfl
theorem en181 : enterB Tryz.prog 181 = true := by kernel_rfl
end Go.Proofs.YtifhfodphoeeoaaGreat.Wk
namespace Go.Proofs.YtifhfodphoeeoaaGreat.Wk
open Go Go.RowKit Sl
set_option linter.unusedVariables false
set_option linter.unusedSimpArgs false
set_option maxRecDepth 20000
def splitIn (xs ys : List Int) : List Int := xs.filter fun x => decide (x ∈ ys)
def splitOut (xs ys : List Int) : List Int := xs.filter fun x => !decide (x ∈ ys)
section
variable {xs ys : List Int} {k : Nat} {x : Int}
theorem in_yes (hx : xs[k]? = some x) (h : x ∈ ys) : splitIn (xs.take (k + 1)) ys = splitIn (xs.take k) ys ++ [x] := by
  simp [splitIn, List.take_add_one, hx, h]
theorem in_no (hx : xs[k]? = some x) (h : ¬ x ∈ ys) : splitIn (xs.take (k + 1)) ys = splitIn (xs.take k) ys := by
  simp [splitIn, List.take_add_one, hx, h]
theorem out_yes (hx : xs[k]? = some x) (h : x ∈ ys) : splitOut (xs.take (k + 1)) ys = splitOut (xs.take k) ys := by
  simp [splitOut, List.take_add_one, hx, h]
theorem out_no (hx : xs[k]? = some x) (h : ¬ x ∈ ys) : splitOut (xs.take (k + 1)) ys = splitOut (xs.take k) ys ++ [x] := by
  simp [splitOut, List.take_add_one, hx, h]
theorem in_le (xs ys : List Int) (k : Nat) : (splitIn (xs.take k) ys).length ≤ xs.length :=
  Nat.le_trans (List.length_filter_le _ _) (by simp; omega)
theorem out_le (xs ys : List Int) (k : Nat) : (splitOut (xs.take k) ys).length ≤ xs.length :=
  Nat.le_trans (List.length_filter_le _ _) (by simp; omega)
theorem out_le' (xs ys : List Int) : (splitOut xs ys).length ≤ xs.length := List.length_filter_le _ _
theorem notin_next (h : ¬ x ∈ xs.take k) {y : Int} (hy : xs[k]? = some y) (e : ¬ y = x) : ¬ x ∈ xs.take (k + 1) := by
  rw [List.take_add_one, hy]
  simp only [Option.toList_some, List.mem_append, List.mem_singleton, not_or]
  exact ⟨h, fun h => e h.symm⟩
theorem mem_at {y : Int} (hy : xs[k]? = some y) (e : y = x) : x ∈ xs := by
  subst e; exact List.mem_of_getElem? hy
theorem notin_all (h : ¬ x ∈ xs.take k) (hk : k ≤ xs.length) (h1 : ¬ (k : Int) < xs.length) : ¬ x ∈ xs := by
  have : k = xs.length := by omega
  subst this
  rwa [List.take_length] at h
end
set_option maxHeartbeats 4000000 in
set_option maxRecDepth 20000 in
theorem l8Has_c {W : World} {va : Value} {xs : List Int} {x : Int} (ha : intEK.Rd W va xs) : Calls Tryz.prog 61 #[va, vi x] W (Ret fun v w' => v = .bool (decide (x ∈ xs)) ∧ Below W.heap.size W w') := by
  refine calls_fr Tryz.func61 rfl Tryz.ntmps61 rfl ?_
  intro a hF
  have hS := Sep.refl W
  obtain ⟨A_a, q_a, rfl, hq_a, hn_a⟩ := ha.sl; unfold maxLen at hn_a
  refine ws fun K1 hK1 => ?_
  refine wl_mvs (A := [_]) hF rfl ?_; clear hF a; intro a hF
  refine wl_nil (hK1 _ _ ?_)
  refine wp_seq_k fun K2 hK2 => ?_
  refine ws fun K3 hK3 => ?_
  refine wl_mvs (A := [_]) hF rfl ?_; clear hF a; intro a hF
  refine wl_nil (hK3 _ _ ?_)
  refine wp_block ?_
  refine wp_loop_g (σ := Nat) (fun k a w => k ≤ xs.length ∧ ¬ x ∈ xs.take k ∧ Sep W [] w ∧ Fr 18 [(5, vi k), (1, vi x), (0, .slice A_a xs.length q_a)] a) (fun k => xs.length - k) 0 ?_ ?_
  · exact ⟨Nat.zero_le _, by simp, hS, (((hF.nil.keep hF (t := 0) rfl).keep hF (t := 1) rfl).keep hF (t := 5) rfl)⟩
  clear hF hS a
  rintro k a w ⟨hk, hn, hS, hF⟩
  refine wp_seq_k fun K4 hK4 => ?_
  refine ws fun K5 hK5 => ?_
  refine wl_mvs (A := [_, _]) hF rfl ?_; clear hF a; intro a hF
  refine wl hF rfl rfl rfl (r_len ul24 (hF.ev rfl)) ?_; clear hF a; intro a hF
  refine wl hF rfl rfl rfl (r_lss (hF.ev rfl) (hF.ev rfl)) ?_; clear hF a; intro a hF
  refine wl_nil (hK5 _ _ ?_)
  first | refine wc_dec (hF.ev rfl) (fun c9 => ?_) (fun c9 => ?_) | refine wc_ndec (hF.ev rfl) (fun c9 => ?_) (fun c9 => ?_) | refine wc_b (hF.ev rfl) (fun c9 => ?_) (fun c9 => ?_)
  ·
    have hlt : k < xs.length := by omega
    obtain ⟨y, hy⟩ : ∃ y, xs[k]? = some y := ⟨_, List.getElem?_eq_getElem hlt⟩
    refine wp_skip ?_
    refine hK4 _ _ ?_
    refine wp_seq_k fun K6 hK6 => ?_
    refine wp_block ?_
    refine ws fun K7 hK7 => ?_
    refine wl_mvs (A := [_, _]) hF rfl ?_; clear hF a; intro a hF
    obtain ⟨g14, o14, m14, q14, hv14, hm14, hl14, hc14⟩ := Rd.idxF (hS.rd ha) hy
    refine wl hF rfl rfl rfl (r_index sl24 ((hF.ev rfl).trans hv14) (hF.ev rfl) (by omega) (by omega)) ?_; clear hF a; intro a hF
    refine wl hF rfl rfl rfl (r_load1 sc3 (hF.ev rfl) (hc14 0 _ rfl)) ?_; clear hF a; intro a hF
    refine wl_mvs (A := [_]) hF rfl ?_; clear hF a; intro a hF
    refine wl hF rfl rfl rfl (r_eql (hF.ev rfl) (hF.ev rfl)) ?_; clear hF a; intro a hF
    refine wl_nil (hK7 _ _ ?_)
    first | refine wc_dec (hF.ev rfl) (fun c17 => ?_) (fun c17 => ?_) | refine wc_ndec (hF.ev rfl) (fun c17 => ?_) (fun c17 => ?_) | refine wc_b (hF.ev rfl) (fun c17 => ?_) (fun c17 => ?_)
    ·
      refine ws fun K8 hK8 => ?_
      refine wl_mvs (A := [_]) hF rfl ?_; clear hF a; intro a hF
      refine wl_nil (hK8 _ _ ?_)
      refine wp_ret ?_
      try simp only [Exit.then, Exit.inBlock, ↓reduceIte]
      refine ret1 rfl hF rfl ⟨congrArg Value.bool (Eq.symm ?_), hS.old⟩
      first | exact decide_eq_true (mem_at hy c17) | exact decide_eq_false (notin_all hn hk (by assumption))
    refine wp_skip ?_
    simp only [Exit.then, Exit.inBlock, ↓reduceIte]
    refine hK6 _ _ ?_
    refine wp_region_lit ?_
    refine wl_mvs (A := [_]) hF rfl ?_; clear hF a; intro a hF
    refine wl hF rfl rfl rfl (r_add (hF.ev rfl) ec) ?_; clear hF a; intro a hF
    refine wl_mvs (A := [_]) hF rfl ?_; clear hF a; intro a hF
    refine wl_nil ?_
    try simp only [Exit.then, Exit.inBlock, ↓reduceIte]
    exact ⟨k + 1, ⟨by omega, notin_next hn hy c17, hS, (((hF.nil.keep hF (t := 0) rfl).keep hF (t := 1) rfl).keepE hF (t := 5) rfl (wk (by omega)))⟩, by omega⟩
  refine wp_exit ?_
  simp only [Exit.then, Exit.inBlock, ↓reduceIte]
  refine hK2 _ _ ?_
  refine ws fun K9 hK9 => ?_
  refine wl_mvs (A := [_]) hF rfl ?_; clear hF a; intro a hF
  refine wl_nil (hK9 _ _ ?_)
  refine wp_ret ?_
  try simp only [Exit.then, Exit.inBlock, ↓reduceIte]
  refine ret1 rfl hF rfl ⟨congrArg Value.bool (Eq.symm ?_), hS.old⟩
  first | exact decide_eq_true (mem_at hy c17) | exact decide_eq_false (notin_all hn hk (by assumption))
set_option maxHeartbeats 4000000 in
set_option maxRecDepth 20000 in
theorem index_c {W : World} {va : Value} {xs : List Int} {x : Int} (ha : intEK.Rd W va xs) : Calls Tryz.prog 181 #[va, vi x] W (Ret fun v w' => (∃ j : Int, v = vi j ∧ (0 ≤ j ↔ x ∈ xs)) ∧ Below W.heap.size W w') := by
  refine calls_fr Tryz.func181 rfl Tryz.ntmps181 rfl ?_
  intro a hF
  obtain ⟨A_a, q_a, rfl, hq_a, hn_a⟩ := ha.sl; unfold maxLen at hn_a
  have hS := Sep.refl W
  refine ws fun K1 hK1 => ?_
  refine wl_mvs (A := [_]) hF rfl ?_; clear hF a; intro a hF
  refine wl_nil (hK1 _ _ ?_)
  refine wp_seq_k fun K2 hK2 => ?_
  refine ws fun K3 hK3 => ?_
  refine wl_mvs (A := [_]) hF rfl ?_; clear hF a; intro a hF
  refine wl hF rfl rfl rfl (r_len ul24 (hF.ev rfl)) ?_; clear hF a; intro a hF
  refine wl_mvs (A := [_]) hF rfl ?_; clear hF a; intro a hF
  refine wl_nil (hK3 _ _ ?_)
  refine wp_block ?_
  refine wp_loop_g (σ := Nat) (fun k a w => k ≤ xs.length ∧ ¬ x ∈ xs.take k ∧ Sep W [] w ∧ Fr 19 [(8, vi k), (7, vi xs.length), (1, vi x), (0, .slice A_a xs.length q_a)] a) (fun k => xs.length - k) 0 ?_ ?_
  · exact ⟨Nat.zero_le _, by simp, hS, ((((hF.nil.keep hF (t := 0) rfl).keep hF (t := 1) rfl).keep hF (t := 7) rfl).keep hF (t := 8) rfl)⟩
  clear hF hS a
  rintro k a w ⟨hk, hn, hS, hF⟩
  refine ws fun K4 hK4 => ?_
  refine wl hF rfl rfl rfl (r_lss (hF.ev rfl) (hF.ev rfl)) ?_; clear hF a; intro a hF
  refine wl_nil (hK4 _ _ ?_)
  refine wp_seq_k fun K5 hK5 => ?_
  first | refine wc_dec (hF.ev rfl) (fun c9 => ?_) (fun c9 => ?_) | refine wc_ndec (hF.ev rfl) (fun c9 => ?_) (fun c9 => ?_) | refine wc_b (hF.ev rfl) (fun c9 => ?_) (fun c9 => ?_)
  ·
    have hlt : k < xs.length := by omega
    obtain ⟨y, hy⟩ : ∃ y, xs[k]? = some y := ⟨_, List.getElem?_eq_getElem hlt⟩
    refine wp_skip ?_
    refine hK5 _ _ ?_
    refine wp_seq_k fun K6 hK6 => ?_
    refine wp_block ?_
    refine ws fun K7 hK7 => ?_
    refine wl_mvs (A := [_, _]) hF rfl ?_; clear hF a; intro a hF
    refine wl_nil (hK7 _ _ ?_)
    refine ws fun K8 hK8 => ?_
    refine wl_mvs (A := [_, _, _]) hF rfl ?_; clear hF a; intro a hF
    obtain ⟨g14, o14, m14, q14, hv14, hm14, hl14, hc14⟩ := Rd.idxF (hS.rd ha) hy
    refine wl hF rfl rfl rfl (r_index sl24 ((hF.ev rfl).trans hv14) (hF.ev rfl) (by omega) (by omega)) ?_; clear hF a; intro a hF
    refine wl hF rfl rfl rfl (r_load1 sc3 (hF.ev rfl) (hc14 0 _ rfl)) ?_; clear hF a; intro a hF
    refine wl hF rfl rfl rfl (r_eql (hF.ev rfl) (hF.ev rfl)) ?_; clear hF a; intro a hF
    refine wl_nil (hK8 _ _ ?_)
    first | refine wc_dec (hF.ev rfl) (fun c16 => ?_) (fun c16 => ?_) | refine wc_ndec (hF.ev rfl) (fun c16 => ?_) (fun c16 => ?_) | refine wc_b (hF.ev rfl) (fun c16 => ?_) (fun c16 => ?_)
    ·
      refine ws fun K9 hK9 => ?_
      refine wl_mvs (A := [_, _]) hF rfl ?_; clear hF a; intro a hF
      refine wl_nil (hK9 _ _ ?_)
      refine wp_ret ?_
      try simp only [Exit.then, Exit.inBlock, ↓reduceIte]
      first | exact ret1 rfl hF rfl ⟨⟨_, rfl, ⟨fun _ => mem_at hy c16.symm, fun _ => by omega⟩⟩, hS.old⟩ | exact ret1 rfl hF rfl ⟨⟨_, rfl, ⟨fun h => absurd h (by omega), fun h => absurd h (notin_all hn hk (by assumption))⟩⟩, hS.old⟩
    refine wp_skip ?_
    simp only [Exit.then, Exit.inBlock, ↓reduceIte]
    refine hK6 _ _ ?_
    refine wp_region_lit ?_
    refine wl hF rfl rfl rfl (r_add (hF.ev rfl) ec) ?_; clear hF a; intro a hF
    refine wl_mvs (A := [_]) hF rfl ?_; clear hF a; intro a hF
    refine wl_nil ?_
    try simp only [Exit.then, Exit.inBlock, ↓reduceIte]
    exact ⟨k + 1, ⟨by omega, notin_next hn hy (fun e => c16 e.symm), hS, ((((hF.nil.keep hF (t := 0) rfl).keep hF (t := 1) rfl).keep hF (t := 7) rfl).keepE hF (t := 8) rfl (wk (by omega)))⟩, by omega⟩
  refine wp_exit ?_
  simp only [Exit.then, Exit.inBlock, ↓reduceIte]
  refine hK2 _ _ ?_
  refine ws fun K10 hK10 => ?_
  refine wl_mvs (A := [_]) hF rfl ?_; clear hF a; intro a hF
  refine wl_nil (hK10 _ _ ?_)
  refine wp_ret ?_
  try simp only [Exit.then, Exit.inBlock, ↓reduceIte]
  first | exact ret1 rfl hF rfl ⟨⟨_, rfl, ⟨fun _ => mem_at hy c16.symm, fun _ => by omega⟩⟩, hS.old⟩ | exact ret1 rfl hF rfl ⟨⟨_, rfl, ⟨fun h => absurd h (by omega), fun h => absurd h (notin_all hn hk (by assumption))⟩⟩, hS.old⟩
set_option maxHeartbeats 4000000 in
set_option maxRecDepth 20000 in
theorem contains_c {W : World} {va : Value} {xs : List Int} {x : Int} (ha : intEK.Rd W va xs) : Calls Tryz.prog 147 #[va, vi x] W (Ret fun v w' => v = .bool (decide (x ∈ xs)) ∧ Below W.heap.size W w') := by
  refine calls_fr Tryz.func147 rfl Tryz.ntmps147 rfl ?_
  intro a hF
  have hS := Sep.refl W
  refine ws fun K1 hK1 => ?_
  refine wl_mvs (A := [_]) hF rfl ?_; clear hF a; intro a hF
  refine wl_nil (hK1 _ _ ?_)
  refine ws fun K2 hK2 => ?_
  refine wl_mvs (A := [_, _]) hF rfl ?_; clear hF a; intro a hF
  refine wl_call hF rfl rfl rfl (r_call2 en181 (hF.ev rfl) (hF.ev rfl)) (index_c (hS.rd ha)) ?_; clear hF a; rintro v w1 a ⟨⟨j, rfl, hj⟩, hB_⟩ hF; replace hS := hS.ext hB_; clear hB_
  refine wl hF rfl rfl rfl (r_geq (hF.ev rfl) ec) ?_; clear hF a; intro a hF
  refine wl_mvs (A := [_]) hF rfl ?_; clear hF a; intro a hF
  refine wl_nil (hK2 _ _ ?_)
  refine wp_ret ?_
  try simp only [Exit.then, Exit.inBlock, ↓reduceIte]
  exact ret1 rfl hF rfl ⟨congrArg Value.bool (decide_eq_decide.2 hj), hS.old⟩
set_option maxHeartbeats 4000000 in
set_option maxRecDepth 20000 in
theorem specSplit_c {W : World} {va vb : Value} {xs ys : List Int} (ha : intEK.Rd W va xs) (hb : intEK.Rd W vb ys) (hz : xs.length ≤ 1099511627776) : Calls Tryz.prog 103 #[va, vb] W (Ret (Mk W (fun (γ : Value × Value) => .tuple #[γ.1, γ.2]) (fun γ => [Own intEK γ.1 (splitIn xs ys), Own intEK γ.2 (splitOut xs ys)]))) := by
  refine calls_fr Tryz.func103 rfl Tryz.ntmps103 rfl ?_
  intro a hF
  obtain ⟨A_a, q_a, rfl, hq_a, hn_a⟩ := ha.sl; unfold maxLen at hn_a
  have hS := Sep.refl W
  refine ws fun K1 hK1 => ?_
  refine wl_mvs (A := [_, _]) hF rfl ?_; clear hF a; intro a hF
  refine wl_nil (hK1 _ _ ?_)
  refine ws fun K2 hK2 => ?_
  refine wl_bslice intEK [] [] rfl hF hS rfl mk24 rfl trivial rfl rfl rfl rfl ?_; clear hF a; intro gl_9 w1 a hS_ hF; replace hS := hS_; clear hS_
  refine wl_mvs (A := [_]) hF rfl ?_; clear hF a; intro a hF
  refine wl_nil (hK2 _ _ ?_)
  refine ws fun K3 hK3 => ?_
  refine wl_bslice intEK [] [] rfl hF hS rfl mk24 rfl trivial rfl rfl rfl rfl ?_; clear hF a; intro gl_10 w2 a hS_ hF; replace hS := hS_; clear hS_
  refine wl_mvs (A := [_]) hF rfl ?_; clear hF a; intro a hF
  refine wl_nil (hK3 _ _ ?_)
  refine wp_seq_k fun K4 hK4 => ?_
  refine ws fun K5 hK5 => ?_
  refine wl_mvs (A := [_]) hF rfl ?_; clear hF a; intro a hF
  refine wl_nil (hK5 _ _ ?_)
  refine wp_block ?_
  refine wp_loop_g (σ := Nat × Value × Value) (fun s a w => s.1 ≤ xs.length ∧ Sep W [Own intEK s.2.2 (splitOut (xs.take s.1) ys), Own intEK s.2.1 (splitIn (xs.take s.1) ys)] w ∧ Fr 39 [(8, vi s.1), (7, s.2.2), (6, s.2.1), (1, vb), (0, .slice A_a xs.length q_a)] a) (fun s => xs.length - s.1) (0, .slice (some ⟨gl_9, 0, none⟩) 0 0, .slice (some ⟨gl_10, 0, none⟩) 0 0) ?_ ?_
  · exact ⟨Nat.zero_le _, hS, (((((hF.nil.keep hF (t := 0) rfl).keep hF (t := 1) rfl).keep hF (t := 6) rfl).keep hF (t := 7) rfl).keep hF (t := 8) rfl)⟩
  clear hF hS a
  rintro ⟨k, p, q⟩ a w ⟨hk, hS, hF⟩
  dsimp only at hk hS hF
  refine wp_seq_k fun K6 hK6 => ?_
  refine ws fun K7 hK7 => ?_
  refine wl_mvs (A := [_, _]) hF rfl ?_; clear hF a; intro a hF
  refine wl hF rfl rfl rfl (r_len ul24 (hF.ev rfl)) ?_; clear hF a; intro a hF
  refine wl hF rfl rfl rfl (r_lss (hF.ev rfl) (hF.ev rfl)) ?_; clear hF a; intro a hF
  refine wl_nil (hK7 _ _ ?_)
  first | refine wc_dec (hF.ev rfl) (fun c14 => ?_) (fun c14 => ?_) | refine wc_ndec (hF.ev rfl) (fun c14 => ?_) (fun c14 => ?_) | refine wc_b (hF.ev rfl) (fun c14 => ?_) (fun c14 => ?_)
  ·
    have hlt : k < xs.length := by omega
    obtain ⟨x, hx⟩ : ∃ x, xs[k]? = some x := ⟨_, List.getElem?_eq_getElem hlt⟩
    refine wp_skip ?_
    refine hK6 _ _ ?_
    refine wp_seq_k fun K8 hK8 => ?_
    refine wp_block ?_
    refine ws fun K9 hK9 => ?_
    refine wl_mvs (A := [_, _, _]) hF rfl ?_; clear hF a; intro a hF
    obtain ⟨g20, o20, m20, q20, hv20, hm20, hl20, hc20⟩ := Rd.idxF (hS.rd ha) hx
    refine wl hF rfl rfl rfl (r_index sl24 ((hF.ev rfl).trans hv20) (hF.ev rfl) (by omega) (by omega)) ?_; clear hF a; intro a hF
    refine wl hF rfl rfl rfl (r_load1 sc3 (hF.ev rfl) (hc20 0 _ rfl)) ?_; clear hF a; intro a hF
    refine wl_call hF rfl rfl rfl (r_call2 en61 (hF.ev rfl) (hF.ev rfl)) (l8Has_c (hS.rd hb)) ?_; clear hF a; rintro v w3 a ⟨rfl, hB_⟩ hF; replace hS := hS.ext hB_; clear hB_
    refine wl_nil (hK9 _ _ ?_)
    first | refine wc_dec (hF.ev rfl) (fun c22 => ?_) (fun c22 => ?_) | refine wc_ndec (hF.ev rfl) (fun c22 => ?_) (fun c22 => ?_) | refine wc_b (hF.ev rfl) (fun c22 => ?_) (fun c22 => ?_)
    ·
      refine wp_region_lit ?_
      refine wl_mvs (A := [_, _, _]) hF rfl ?_; clear hF a; intro a hF
      obtain ⟨g26, o26, m26, q26, hv26, hm26, hl26, hc26⟩ := Rd.idxF (hS.rd ha) hx
      refine wl hF rfl rfl rfl (r_index sl24 ((hF.ev rfl).trans hv26) (hF.ev rfl) (by omega) (by omega)) ?_; clear hF a; intro a hF
      refine wl hF rfl rfl rfl (r_load1 sc3 (hF.ev rfl) (hc26 0 _ rfl)) ?_; clear hF a; intro a hF
      refine wl_bslice intEK [vi x] [x] rfl hF hS rfl mk24 rfl ⟨rfl, (hF.ev rfl), trivial⟩ rfl rfl rfl rfl ?_; clear hF a; intro gl_28 w4 a hS_ hF; replace hS := hS_; clear hS_
      refine wl_append (q := 2) hF hS rfl rfl (hS.own_rd (i := 0) rfl) mk24 rfl (hF.ev rfl) (hF.ev rfl) (by have := in_le xs ys k; simp only [List.length_cons, List.length_nil]; omega) (by have := in_le xs ys k; simp only [List.length_cons, List.length_nil]; unfold maxLen; omega) ?_; clear hF a; intro A_29 c_29 w5 a hS_ hF; replace hS := hS_; clear hS_; dsimp only [List.set, List.length_cons, List.length_nil] at hS hF
      refine wl_mvs (A := [_]) hF rfl ?_; clear hF a; intro a hF
      refine wl_nil ?_
      simp only [Exit.then, Exit.inBlock, ↓reduceIte]
      refine hK8 _ _ ?_
      refine wp_region_lit ?_
      refine wl_mvs (A := [_]) hF rfl ?_; clear hF a; intro a hF
      refine wl hF rfl rfl rfl (r_add (hF.ev rfl) ec) ?_; clear hF a; intro a hF
      refine wl_mvs (A := [_]) hF rfl ?_; clear hF a; intro a hF
      refine wl_nil ?_
      try simp only [Exit.then, Exit.inBlock, ↓reduceIte]
      refine ⟨(k + 1, _, _), ⟨by dsimp only; omega, ?_, (((((hF.nil.keep hF (t := 0) rfl).keep hF (t := 1) rfl).keep hF (t := 6) rfl).keep hF (t := 7) rfl).keepE hF (t := 8) rfl (wk (by omega)))⟩, by dsimp only; omega⟩
      dsimp only
      first
        | rw [in_yes hx c22, out_yes hx c22]; exact hS.pick [1, 2] (by decide) rfl
        | rw [in_no hx c22, out_no hx c22]; exact hS.pick [1, 2] (by decide) rfl
    refine wp_region_lit ?_
    refine wl_mvs (A := [_, _, _]) hF rfl ?_; clear hF a; intro a hF
    obtain ⟨g33, o33, m33, q33, hv33, hm33, hl33, hc33⟩ := Rd.idxF (hS.rd ha) hx
    refine wl hF rfl rfl rfl (r_index sl24 ((hF.ev rfl).trans hv33) (hF.ev rfl) (by omega) (by omega)) ?_; clear hF a; intro a hF
    refine wl hF rfl rfl rfl (r_load1 sc3 (hF.ev rfl) (hc33 0 _ rfl)) ?_; clear hF a; intro a hF
    refine wl_bslice intEK [vi x] [x] rfl hF hS rfl mk24 rfl ⟨rfl, (hF.ev rfl), trivial⟩ rfl rfl rfl rfl ?_; clear hF a; intro gl_35 w6 a hS_ hF; replace hS := hS_; clear hS_
    refine wl_append (q := 1) hF hS rfl rfl (hS.own_rd (i := 0) rfl) mk24 rfl (hF.ev rfl) (hF.ev rfl) (by have := out_le xs ys k; simp only [List.length_cons, List.length_nil]; omega) (by have := out_le xs ys k; simp only [List.length_cons, List.length_nil]; unfold maxLen; omega) ?_; clear hF a; intro A_36 c_36 w7 a hS_ hF; replace hS := hS_; clear hS_; dsimp only [List.set, List.length_cons, List.length_nil] at hS hF
    refine wl_mvs (A := [_]) hF rfl ?_; clear hF a; intro a hF
    refine wl_nil ?_
    simp only [Exit.then, Exit.inBlock, ↓reduceIte]
    refine hK8 _ _ ?_
    refine wp_region_lit ?_
    refine wl_mvs (A := [_]) hF rfl ?_; clear hF a; intro a hF
    refine wl hF rfl rfl rfl (r_add (hF.ev rfl) ec) ?_; clear hF a; intro a hF
    refine wl_mvs (A := [_]) hF rfl ?_; clear hF a; intro a hF
    refine wl_nil ?_
    try simp only [Exit.then, Exit.inBlock, ↓reduceIte]
    refine ⟨(k + 1, _, _), ⟨by dsimp only; omega, ?_, (((((hF.nil.keep hF (t := 0) rfl).keep hF (t := 1) rfl).keep hF (t := 6) rfl).keep hF (t := 7) rfl).keepE hF (t := 8) rfl (wk (by omega)))⟩, by dsimp only; omega⟩
    dsimp only
    first
      | rw [in_yes hx c22, out_yes hx c22]; exact hS.pick [1, 2] (by decide) rfl
      | rw [in_no hx c22, out_no hx c22]; exact hS.pick [1, 2] (by decide) rfl
  refine wp_exit ?_
  simp only [Exit.then, Exit.inBlock, ↓reduceIte]
  refine hK4 _ _ ?_
  refine ws fun K10 hK10 => ?_
  refine wl_mvs (A := [_, _, _, _]) hF rfl ?_; clear hF a; intro a hF
  refine wl_nil (hK10 _ _ ?_)
  refine wp_ret ?_
  try simp only [Exit.then, Exit.inBlock, ↓reduceIte]
  obtain rfl : k = xs.length := by omega
  rw [List.take_length] at hS
  exact ret2 rfl hF rfl rfl ⟨(_, _), rfl, hS.pick [1, 0] (by decide) rfl⟩
set_option maxHeartbeats 4000000 in
set_option maxRecDepth 20000 in
theorem implSplit_c {W : World} {va vb : Value} {xs ys : List Int} (ha : intEK.Rd W va xs) (hb : intEK.Rd W vb ys) (hz : xs.length ≤ 1099511627776) : Calls Tryz.prog 106 #[va, vb] W (Ret (Mk W (fun (γ : Value × Value) => .tuple #[γ.1, γ.2]) (fun γ => [Own intEK γ.1 (splitIn xs ys), Own intEK γ.2 (splitOut xs ys)]))) := by
  refine calls_fr Tryz.func106 rfl Tryz.ntmps106 rfl ?_
  intro a hF
  obtain ⟨A_a, q_a, rfl, hq_a, hn_a⟩ := ha.sl; unfold maxLen at hn_a
  have hS := Sep.refl W
  refine ws fun K1 hK1 => ?_
  refine wl_mvs (A := [_, _]) hF rfl ?_; clear hF a; intro a hF
  refine wl_nil (hK1 _ _ ?_)
  refine ws fun K2 hK2 => ?_
  refine wl_bslice intEK [] [] rfl hF hS rfl mk24 rfl trivial rfl rfl rfl rfl ?_; clear hF a; intro gl_10 w1 a hS_ hF; replace hS := hS_; clear hS_
  refine wl_bslice intEK [] [] rfl hF hS rfl mk24 rfl trivial rfl rfl rfl rfl ?_; clear hF a; intro gl_11 w2 a hS_ hF; replace hS := hS_; clear hS_
  refine wl_mvs (A := [_, _]) hF rfl ?_; clear hF a; intro a hF
  refine wl_nil (hK2 _ _ ?_)
  refine wp_seq_k fun K3 hK3 => ?_
  refine ws fun K4 hK4 => ?_
  refine wl_mvs (A := [_]) hF rfl ?_; clear hF a; intro a hF
  refine wl hF rfl rfl rfl (r_len ul24 (hF.ev rfl)) ?_; clear hF a; intro a hF
  refine wl_mvs (A := [_]) hF rfl ?_; clear hF a; intro a hF
  refine wl_nil (hK4 _ _ ?_)
  refine wp_block ?_
  refine wp_loop_g (σ := Nat × Value × Value) (fun s a w => s.1 ≤ xs.length ∧ Sep W [Own intEK s.2.2 (splitOut (xs.take s.1) ys), Own intEK s.2.1 (splitIn (xs.take s.1) ys)] w ∧ Fr 32 [(14, vi s.1), (7, s.2.2), (6, s.2.1), (13, vi xs.length), (12, .slice A_a xs.length q_a), (1, vb), (0, .slice A_a xs.length q_a)] a) (fun s => xs.length - s.1) (0, .slice (some ⟨gl_10, 0, none⟩) 0 0, .slice (some ⟨gl_11, 0, none⟩) 0 0) ?_ ?_
  · exact ⟨Nat.zero_le _, hS, (((((((hF.nil.keep hF (t := 0) rfl).keep hF (t := 1) rfl).keep hF (t := 12) rfl).keep hF (t := 13) rfl).keep hF (t := 6) rfl).keep hF (t := 7) rfl).keep hF (t := 14) rfl)⟩
  clear hF hS a
  rintro ⟨k, p, q⟩ a w ⟨hk, hS, hF⟩
  dsimp only at hk hS hF
  refine ws fun K5 hK5 => ?_
  refine wl hF rfl rfl rfl (r_lss (hF.ev rfl) (hF.ev rfl)) ?_; clear hF a; intro a hF
  refine wl_nil (hK5 _ _ ?_)
  refine wp_seq_k fun K6 hK6 => ?_
  first | refine wc_dec (hF.ev rfl) (fun c15 => ?_) (fun c15 => ?_) | refine wc_ndec (hF.ev rfl) (fun c15 => ?_) (fun c15 => ?_) | refine wc_b (hF.ev rfl) (fun c15 => ?_) (fun c15 => ?_)
  ·
    have hlt : k < xs.length := by omega
    obtain ⟨x, hx⟩ : ∃ x, xs[k]? = some x := ⟨_, List.getElem?_eq_getElem hlt⟩
    refine wp_skip ?_
    refine hK6 _ _ ?_
    refine wp_seq_k fun K7 hK7 => ?_
    refine wp_block ?_
    refine ws fun K8 hK8 => ?_
    obtain ⟨g16, o16, m16, q16, hv16, hm16, hl16, hc16⟩ := Rd.idxF (hS.rd ha) hx
    refine wl hF rfl rfl rfl (r_index sl24 ((hF.ev rfl).trans hv16) (hF.ev rfl) (by omega) (by omega)) ?_; clear hF a; intro a hF
    refine wl hF rfl rfl rfl (r_load1 sc3 (hF.ev rfl) (hc16 0 _ rfl)) ?_; clear hF a; intro a hF
    refine wl_mvs (A := [_]) hF rfl ?_; clear hF a; intro a hF
    refine wl_nil (hK8 _ _ ?_)
    refine ws fun K9 hK9 => ?_
    refine wl_mvs (A := [_, _]) hF rfl ?_; clear hF a; intro a hF
    refine wl_call hF rfl rfl rfl (r_call2 en147 (hF.ev rfl) (hF.ev rfl)) (contains_c (hS.rd hb)) ?_; clear hF a; rintro v w3 a ⟨rfl, hB_⟩ hF; replace hS := hS.ext hB_; clear hB_
    refine wl_nil (hK9 _ _ ?_)
    first | refine wc_dec (hF.ev rfl) (fun c20 => ?_) (fun c20 => ?_) | refine wc_ndec (hF.ev rfl) (fun c20 => ?_) (fun c20 => ?_) | refine wc_b (hF.ev rfl) (fun c20 => ?_) (fun c20 => ?_)
    ·
      refine wp_region_lit ?_
      refine wl_mvs (A := [_, _]) hF rfl ?_; clear hF a; intro a hF
      refine wl_bslice intEK [vi x] [x] rfl hF hS rfl mk24 rfl ⟨rfl, (hF.ev rfl), trivial⟩ rfl rfl rfl rfl ?_; clear hF a; intro gl_23 w4 a hS_ hF; replace hS := hS_; clear hS_
      refine wl_append (q := 2) hF hS rfl rfl (hS.own_rd (i := 0) rfl) mk24 rfl (hF.ev rfl) (hF.ev rfl) (by have := in_le xs ys k; simp only [List.length_cons, List.length_nil]; omega) (by have := in_le xs ys k; simp only [List.length_cons, List.length_nil]; unfold maxLen; omega) ?_; clear hF a; intro A_24 c_24 w5 a hS_ hF; replace hS := hS_; clear hS_; dsimp only [List.set, List.length_cons, List.length_nil] at hS hF
      refine wl_mvs (A := [_]) hF rfl ?_; clear hF a; intro a hF
      refine wl_nil ?_
      simp only [Exit.then, Exit.inBlock, ↓reduceIte]
      refine hK7 _ _ ?_
      refine wp_region_lit ?_
      refine wl hF rfl rfl rfl (r_add (hF.ev rfl) ec) ?_; clear hF a; intro a hF
      refine wl_mvs (A := [_]) hF rfl ?_; clear hF a; intro a hF
      refine wl_nil ?_
      try simp only [Exit.then, Exit.inBlock, ↓reduceIte]
      refine ⟨(k + 1, _, _), ⟨by dsimp only; omega, ?_, (((((((hF.nil.keep hF (t := 0) rfl).keep hF (t := 1) rfl).keep hF (t := 12) rfl).keep hF (t := 13) rfl).keep hF (t := 6) rfl).keep hF (t := 7) rfl).keepE hF (t := 14) rfl (wk (by omega)))⟩, by dsimp only; omega⟩
      dsimp only
      first
        | rw [in_yes hx c20, out_yes hx c20]; exact hS.pick [1, 2] (by decide) rfl
        | rw [in_no hx c20, out_no hx c20]; exact hS.pick [1, 2] (by decide) rfl
    refine wp_region_lit ?_
    refine wl_mvs (A := [_, _]) hF rfl ?_; clear hF a; intro a hF
    refine wl_bslice intEK [vi x] [x] rfl hF hS rfl mk24 rfl ⟨rfl, (hF.ev rfl), trivial⟩ rfl rfl rfl rfl ?_; clear hF a; intro gl_27 w6 a hS_ hF; replace hS := hS_; clear hS_
    refine wl_append (q := 1) hF hS rfl rfl (hS.own_rd (i := 0) rfl) mk24 rfl (hF.ev rfl) (hF.ev rfl) (by have := out_le xs ys k; simp only [List.length_cons, List.length_nil]; omega) (by have := out_le xs ys k; simp only [List.length_cons, List.length_nil]; unfold maxLen; omega) ?_; clear hF a; intro A_28 c_28 w7 a hS_ hF; replace hS := hS_; clear hS_; dsimp only [List.set, List.length_cons, List.length_nil] at hS hF
    refine wl_mvs (A := [_]) hF rfl ?_; clear hF a; intro a hF
    refine wl_nil ?_
    simp only [Exit.then, Exit.inBlock, ↓reduceIte]
    refine hK7 _ _ ?_
    refine wp_region_lit ?_
    refine wl hF rfl rfl rfl (r_add (hF.ev rfl) ec) ?_; clear hF a; intro a hF
    refine wl_mvs (A := [_]) hF rfl ?_; clear hF a; intro a hF
    refine wl_nil ?_
    try simp only [Exit.then, Exit.inBlock, ↓reduceIte]
    refine ⟨(k + 1, _, _), ⟨by dsimp only; omega, ?_, (((((((hF.nil.keep hF (t := 0) rfl).keep hF (t := 1) rfl).keep hF (t := 12) rfl).keep hF (t := 13) rfl).keep hF (t := 6) rfl).keep hF (t := 7) rfl).keepE hF (t := 14) rfl (wk (by omega)))⟩, by dsimp only; omega⟩
    dsimp only
    first
      | rw [in_yes hx c20, out_yes hx c20]; exact hS.pick [1, 2] (by decide) rfl
      | rw [in_no hx c20, out_no hx c20]; exact hS.pick [1, 2] (by decide) rfl
  refine wp_exit ?_
  simp only [Exit.then, Exit.inBlock, ↓reduceIte]
  refine hK3 _ _ ?_
  refine ws fun K10 hK10 => ?_
  refine wl_mvs (A := [_, _, _, _]) hF rfl ?_; clear hF a; intro a hF
  refine wl_nil (hK10 _ _ ?_)
  refine wp_ret ?_
  try simp only [Exit.then, Exit.inBlock, ↓reduceIte]
  obtain rfl : k = xs.length := by omega
  rw [List.take_length] at hS
  exact ret2 rfl hF rfl rfl ⟨(_, _), rfl, hS.pick [1, 0] (by decide) rfl⟩
end Go.Proofs.YtifhfodphoeeoaaGreat.Wk
namespace Go.Proofs.YtifhfodphoeeoaaGreat.Wk
open Go Go.RowKit Sl
set_option linter.unusedVariables false
set_option linter.unusedSimpArgs false
set_option maxRecDepth 20000
def foundN (t : Sl.Thread) (n : Int) : List Int := if n = 0 then t.found else t.found ++ [n]
def freeStep (z : List Int × List Int) (h : Int) : List Int × List Int := if at0 z.1 (indexOf h) < 9998 ∧ (z.2.length : Int) < 100 then (z.1.set (indexOf h).toNat (IntKind.i64.wrap (at0 z.1 (indexOf h) + 1)), z.2 ++ [indexOf h]) else z
def freeAll (gs fr hs : List Int) : List Int × List Int := hs.foldl freeStep (gs, fr)
def scanN (s : Sl.State) (t : Sl.Thread) : Int := loadC s.cells (hazardCell s.config (IntKind.i64.wrap (t.at_.tdiv 2)) (t.at_.tmod 2))
def reclaimS (s : Sl.State) (t : Sl.Thread) (p : Int) : Sl.State × Sl.Thread :=
  if IntKind.i64.wrap (t.at_ + 1) < IntKind.i64.wrap (2 * s.config.threads) then (s, { t with found := foundN t (scanN s t), at_ := IntKind.i64.wrap (t.at_ + 1) })
  else ({ s with generations := (freeAll s.generations t.free (splitOut t.limbo (foundN t (scanN s t)))).1 }, endT t 0 0 |> fun x => { x with limbo := splitIn t.limbo (foundN t (scanN s t)), free := (freeAll s.generations t.free (splitOut t.limbo (foundN t (scanN s t)))).2 })
def isC (n : Int) : Bool := decide (n = 70)
section
variable {gs fr hs : List Int} {h : Int} {k : Nat}
theorem freeAll_yes (hx : hs[k]? = some h) (hc : at0 (freeAll gs fr (hs.take k)).1 (indexOf h) < 9998 ∧ ((freeAll gs fr (hs.take k)).2.length : Int) < 100) :
    freeAll gs fr (hs.take (k + 1)) = ((freeAll gs fr (hs.take k)).1.set (indexOf h).toNat (IntKind.i64.wrap (at0 (freeAll gs fr (hs.take k)).1 (indexOf h) + 1)), (freeAll gs fr (hs.take k)).2 ++ [indexOf h]) := by
  rw [List.take_add_one, hx]
  unfold freeAll at hc ⊢
  rw [List.foldl_append]
  simp only [Option.toList_some, List.foldl_cons, List.foldl_nil]
  exact if_pos hc
theorem freeAll_no (hx : hs[k]? = some h) (hc : ¬ (at0 (freeAll gs fr (hs.take k)).1 (indexOf h) < 9998 ∧ ((freeAll gs fr (hs.take k)).2.length : Int) < 100)) :
    freeAll gs fr (hs.take (k + 1)) = freeAll gs fr (hs.take k) := by
  rw [List.take_add_one, hx]
  unfold freeAll at hc ⊢
  rw [List.foldl_append]
  simp only [Option.toList_some, List.foldl_cons, List.foldl_nil]
  exact if_neg hc
theorem freeStep_len {z : List Int × List Int} : (freeStep z h).1.length = z.1.length ∧ (freeStep z h).2.length ≤ z.2.length + 1 := by
  unfold freeStep
  split
  · exact ⟨by simp, by simp⟩
  · exact ⟨rfl, by omega⟩
theorem foldl_len : ∀ (hs : List Int) (z : List Int × List Int), (hs.foldl freeStep z).1.length = z.1.length ∧ (hs.foldl freeStep z).2.length ≤ z.2.length + hs.length
  | [], z => ⟨rfl, by simp⟩
  | h :: hs, z => by
    have h1 := foldl_len hs (freeStep z h)
    have h2 := freeStep_len (z := z) (h := h)
    simp only [List.foldl_cons, List.length_cons]
    exact ⟨h1.1.trans h2.1, by omega⟩
theorem freeAll_len : (freeAll gs fr hs).1.length = gs.length := (foldl_len hs (gs, fr)).1
theorem freeAll_free : (freeAll gs fr hs).2.length ≤ fr.length + hs.length := (foldl_len hs (gs, fr)).2
end
theorem split_len (xs ys : List Int) : (splitIn xs ys).length + (splitOut xs ys).length = xs.length := by
  unfold splitIn splitOut
  induction xs with
  | nil => rfl
  | cons x xs ih =>
    simp only [List.filter_cons]
    by_cases h : x ∈ ys <;> simp [h] <;> omega
theorem reclaim_steps (s : Sl.State) (t : Sl.Thread) (p : Int) : reclaimS (stepped s) t p = (stepped (reclaimS s t p).1, (reclaimS s t p).2) := by
  have e0 : scanN (stepped s) t = scanN s t := rfl
  unfold reclaimS
  rw [e0, show (stepped s).config = s.config from rfl, show (stepped s).generations = s.generations from rfl]
  split <;> rfl
theorem foundN_len {t : Sl.Thread} {n : Int} : (foundN t n).length ≤ t.found.length + 1 := by unfold foundN; split <;> simp
theorem reclaimS_size (s : Sl.State) (t : Sl.Thread) (p : Int) : ((reclaimS s t p).1.cells.length = s.cells.length ∧ (reclaimS s t p).1.generations.length = s.generations.length) ∧ (reclaimS s t p).2.size ≤ t.size + 1 := by
  have h1 := foundN_len (t := t) (n := scanN s t)
  have h2 := split_len t.limbo (foundN t (scanN s t))
  have h3 := freeAll_free (gs := s.generations) (fr := t.free) (hs := splitOut t.limbo (foundN t (scanN s t)))
  unfold reclaimS
  split
  · refine ⟨⟨rfl, rfl⟩, ?_⟩
    unfold Sl.Thread.size; dsimp only; omega
  · refine ⟨⟨rfl, freeAll_len⟩, ?_⟩
    unfold endT clearT Sl.Thread.size; dsimp only; simp only [List.length_nil]; omega
theorem Fit.nodes {s : Sl.State} {t : Sl.Thread} (hf : Fit s t) {ys : List Int} {h : Int} (hm : h ∈ splitOut t.limbo ys) : int64 h ∧ 0 ≤ indexOf h ∧ indexOf h < s.config.capacity := by
  have h1 : h ∈ t.limbo := by unfold splitOut at hm; exact (List.mem_filter.1 hm).1
  have h2 := hf.th
  unfold threadOk at h2; simp only [Bool.and_eq_true] at h2
  have h3 := List.all_eq_true.1 h2.1.2 h h1
  unfold isNode at h3; simp only [Bool.and_eq_true, decide_eq_true_eq] at h3
  exact ⟨hf.wt.2.2.2.2.2.2.2.2.2.2.2.2.2.2.2 h h1, indexOf_pos h3.1, h3.2⟩
set_option maxHeartbeats 4000000 in
set_option maxRecDepth 20000 in
theorem l16Scan_c {W w : World} {l : List Res} {g gt ot mt ct p : Nat} {z0 z1 : Slv} {s : Sl.State} {t : Sl.Thread} (hp : p < s.threads.length) (hf : Fit s t) (hS : Sep W (Box g ((s).encv (sv z0) (sv z1) (.slice (some ⟨gt, ot, none⟩) mt ct)) :: Own intEK (sv z0) (s).cells :: Own intEK (sv z1) (s).generations :: Own threadEK (.slice (some ⟨gt, ot, none⟩) mt ct) (s.threads.set p t) :: l) w) : Calls Tryz.prog 53 #[.pointer (some ⟨g, 0, none⟩), vi (p : Int)] w (Ret fun v w' => v = .tuple #[] ∧ Sep W (Box g (((reclaimS s t (p : Int)).1).encv (sv z0) (sv z1) (.slice (some ⟨gt, ot, none⟩) mt ct)) :: Own intEK (sv z0) ((reclaimS s t (p : Int)).1).cells :: Own intEK (sv z1) ((reclaimS s t (p : Int)).1).generations :: Own threadEK (.slice (some ⟨gt, ot, none⟩) mt ct) (s.threads.set p (reclaimS s t (p : Int)).2) :: l) w') := by
  refine calls_fr Tryz.func53 rfl Tryz.ntmps53 rfl ?_
  intro a hF
  have hl0 := hS.own_len (q := 1) rfl
  have hl1 := hS.own_len (q := 2) rfl
  have hmt : mt = s.threads.length := by have := hS.own_len (q := 3) (s := (some ⟨gt, ot, none⟩, mt, ct)) rfl; simpa using this
  have hz1 := hf.sizes; unfold sizesOk at hz1
  refine ws fun K1 hK1 => ?_
  refine wl_mvs (A := [_]) hF rfl ?_; clear hF a; intro a hF
  refine wl hF rfl rfl rfl (r_nilCheck (hF.ev rfl)) ?_; clear hF a; intro a hF
  refine wl hF rfl rfl rfl (r_field fo32_3 (hF.ev rfl)) ?_; clear hF a; intro a hF
  refine wl hF rfl rfl rfl (r_load1 sc30 (hF.ev rfl) (hS.box (i := 0) rfl rfl)) ?_; clear hF a; intro a hF
  refine wl_mvs (A := [_]) hF rfl ?_; clear hF a; intro a hF
  refine wl hF rfl rfl rfl (r_index sl30 (hF.ev rfl) (hF.ev rfl) (by omega) (by first | omega | (dsimp only; omega))) ?_; clear hF a; intro a hF
  refine wl_mvs (A := [_]) hF rfl ?_; clear hF a; intro a hF
  refine wl_nil (hK1 _ _ ?_)
  refine wp_seq_k fun K2 hK2 => ?_
  refine wp_region_calm (by kernel_rfl) (by kernel_rfl) ?_
  refine wq_mvs (A := [_, _]) hF rfl ?_; clear hF a; intro a hF
  refine wq hF rfl rfl rfl (fun w_ hB_ => r_nilCheck (hF.ev rfl)) ?_; clear hF a; intro a hF
  refine wq hF rfl rfl rfl (fun w_ hB_ => r_field fo32_0 (hF.ev rfl)) ?_; clear hF a; intro a hF
  refine wq hF rfl rfl rfl (fun w_ hB_ => r_loadn ag29 (hF.ev rfl) ((hS.ext hB_).boxn (vs := [_, _, _, _, _, _]) (i := 0) (m := 6) rfl rfl) sz29) ?_; clear hF a; intro a hF
  refine wq_mvs (A := [_]) hF rfl ?_; clear hF a; intro a hF
  refine wq hF rfl rfl rfl (fun w_ hB_ => r_nilCheck (hF.ev rfl)) ?_; clear hF a; intro a hF
  refine wq hF rfl rfl rfl (fun w_ hB_ => r_field fo53_10 (hF.ev rfl)) ?_; clear hF a; intro a hF
  refine wq hF rfl rfl rfl (fun w_ hB_ => r_load1 sc3 (hF.ev rfl) ((hS.ext hB_).elt1 (q := 3) (j := 13) hp rfl (fun _ => rfl))) ?_; clear hF a; intro a hF
  refine wq hF rfl rfl rfl (fun w_ hB_ => r_quo (by first | decide | omega) (hF.ev rfl) ec) ?_; clear hF a; intro a hF
  refine wq_mvs (A := [_]) hF rfl ?_; clear hF a; intro a hF
  refine wq hF rfl rfl rfl (fun w_ hB_ => r_nilCheck (hF.ev rfl)) ?_; clear hF a; intro a hF
  refine wq hF rfl rfl rfl (fun w_ hB_ => r_field fo53_10 (hF.ev rfl)) ?_; clear hF a; intro a hF
  refine wq hF rfl rfl rfl (fun w_ hB_ => r_load1 sc3 (hF.ev rfl) ((hS.ext hB_).elt1 (q := 3) (j := 13) hp rfl (fun _ => rfl))) ?_; clear hF a; intro a hF
  refine wq hF rfl rfl rfl (fun w_ hB_ => r_rem (by first | decide | omega) (hF.ev rfl) ec) ?_; clear hF a; intro a hF
  refine wq_call hF rfl rfl rfl (fun w_ hB_ => r_call3 en91 (hF.ev rfl) (hF.ev rfl) (hF.ev rfl)) (fun w_ hB_ => specHazardCell_c _ _ _) ?_; clear hF a; intro a hF
  refine wq_call hF rfl rfl rfl (fun w_ hB_ => r_call2 en88 (hF.ev rfl) (hF.ev rfl)) (fun w_ hB_ => l9LoadR_c (fun j u hu => (hS.ext hB_).box7 (i := 0) rfl j u hu) ((hS.ext hB_).own_rd (i := 1) rfl)) ?_; clear hF a; intro a hF
  refine wq_mvs (A := [_]) hF rfl ?_; clear hF a; intro a hF
  refine wpQuiet_nil ?_; intro w1 hB_; replace hS := hS.ext hB_; clear hB_
  refine hK2 _ _ ?_
  refine wp_cut (fun a w => Sep W (Box g (s.encv (sv z0) (sv z1) (.slice (some ⟨gt, ot, none⟩) mt ct)) :: Own intEK (sv z0) s.cells :: Own intEK (sv z1) s.generations :: Own threadEK (.slice (some ⟨gt, ot, none⟩) mt ct) (s.threads.set p ({ t with found := (foundN t (scanN s t)) })) :: l) w ∧ Fr 134 [(0, .pointer (some ⟨g, 0, none⟩)), (1, vi (p : Int)), (4, .pointer (some ⟨gt, ot + p * 19, none⟩))] a) ?_ ?_
  ·
    refine ws fun K3 hK3 => ?_
    refine wl_mvs (A := [_]) hF rfl ?_; clear hF a; intro a hF
    refine wl hF rfl rfl rfl (r_neq (hF.ev rfl) ec) ?_; clear hF a; intro a hF
    refine wl_nil (hK3 _ _ ?_)
    refine wc_fx (t := 34) hF rfl ?_ ?_ <;> clear hF <;> intro c34 hF <;> try simp only [zb1, zb2, zb3, zb4, zb5, zb6, zb7, zb8] at c34
    ·
      obtain ⟨A0_, A1_, A2_, A3_, A4_, k0_, k1_, k2_, k3_, k4_, ⟨n0_, n1_, n2_, n3_, n4_⟩, ⟨q0_, q1_, q2_, q3_, q4_⟩, hS_⟩ := Sep.thr_lend (t := t) (Sep.headp (A := [_, _, _, _]) (B := [_, _, _, _]) hS [3, 0, 1, 2] (by decide) rfl rfl) hp; replace hS := hS_; clear hS_; unfold maxLen at n0_ n1_ n2_ n3_ n4_; try dsimp only at n0_ n1_ n2_ n3_ n4_ q0_ q1_ q2_ q3_ q4_
      dsimp only [Thread.encv] at hS
      refine wp_region_lit ?_
      refine wl_mvs (A := [_, _]) hF rfl ?_; clear hF a; intro a hF
      refine wl hF rfl rfl rfl (r_nilCheck (hF.ev rfl)) ?_; clear hF a; intro a hF
      refine wl hF rfl rfl rfl (r_field fo53_11 (hF.ev rfl)) ?_; clear hF a; intro a hF
      refine wl hF rfl rfl rfl (r_load1 sc24 (hF.ev rfl) (hS.but1 (q := 5) (j := 14) rfl rfl)) ?_; clear hF a; intro a hF
      refine wl_mvs (A := [_]) hF rfl ?_; clear hF a; intro a hF
      refine wl_bslice intEK [vi (scanN s t)] [scanN s t] rfl hF hS rfl mk24 rfl ⟨rfl, (hF.ev rfl), trivial⟩ rfl rfl rfl rfl ?_; clear hF a; intro gl_41 w2 a hS_ hF; replace hS := hS_; clear hS_
      refine wl_append (q := 1) hF hS rfl rfl (hS.own_rd (i := 0) rfl) mk24 rfl (hF.ev rfl) (hF.ev rfl) (by simp; omega) (by unfold maxLen; simp; omega) ?_; clear hF a; intro A_42 c_42 w3 a hS_ hF; replace hS := hS_; clear hS_; dsimp only [List.set, List.length_cons, List.length_nil] at hS hF
      refine wl hF rfl rfl rfl (r_nilCheck (hF.ev rfl)) ?_; clear hF a; intro a hF
      refine wl hF rfl rfl rfl (r_field fo53_11 (hF.ev rfl)) ?_; clear hF a; intro a hF
      refine wl_bstore (q := 6) (j := 14) hF hS rfl sz24 (hF.ev rfl) rfl (hF.ev rfl) rfl rfl ?_; intro w4 hS_; replace hS := hS_; clear hS_; dsimp only [List.set] at hS
      refine wl_nil ?_
      try simp only [Exit.then, Exit.inBlock, ↓reduceIte]
      have e0 : (foundN t (scanN s t)) = t.found ++ [scanN s t] := if_neg c34
      replace hS := Sep.thr_back (t' := { t with found := t.found ++ [scanN s t] }) (y0 := (_, _, _)) (y1 := (_, _, _)) (y2 := (_, _, _)) (y3 := (_, _, _)) (y4 := (_, _, _)) (Sep.headp (A := [_, _, _, _, _, _, _, _, _, _]) (B := [_, _, _, _, _, _, _, _, _, _]) hS [1, 2, 3, 4, 5, 6, 0, 7, 8, 9] (by decide) rfl rfl) rfl
      rw [e0]
      exact ⟨(Sep.headp (A := [_, _, _, _, _]) (B := [_, _, _, _]) hS [2, 3, 4, 0] (by decide) rfl rfl), (((hF.nil.keepE hF (t := 4) rfl rfl).keepE hF (t := 1) rfl rfl).keepE hF (t := 0) rfl rfl)⟩
    refine wp_skip ?_
    try simp only [Exit.then, Exit.inBlock, ↓reduceIte]
    have e0 : (foundN t (scanN s t)) = t.found := if_pos c34
    rw [e0]
    exact ⟨hS, (((hF.nil.keepE hF (t := 4) rfl rfl).keepE hF (t := 1) rfl rfl).keepE hF (t := 0) rfl rfl)⟩
  clear hF hS a; rintro a w5 ⟨hS, hF⟩
  refine ws fun K4 hK4 => ?_
  refine wl_mvs (A := [_, _]) hF rfl ?_; clear hF a; intro a hF
  refine wl hF rfl rfl rfl (r_nilCheck (hF.ev rfl)) ?_; clear hF a; intro a hF
  refine wl hF rfl rfl rfl (r_field fo53_10 (hF.ev rfl)) ?_; clear hF a; intro a hF
  refine wl hF rfl rfl rfl (r_load1 sc3 (hF.ev rfl) (hS.elt1 (q := 3) (j := 13) hp rfl (fun _ => rfl))) ?_; clear hF a; intro a hF
  refine wl hF rfl rfl rfl (r_add (hF.ev rfl) ec) ?_; clear hF a; intro a hF
  refine wl hF rfl rfl rfl (r_nilCheck (hF.ev rfl)) ?_; clear hF a; intro a hF
  refine wl hF rfl rfl rfl (r_field fo53_10 (hF.ev rfl)) ?_; clear hF a; intro a hF
  refine wl_estore (q := 3) (j := 13) (⟨_, ⟨_, _, _⟩, ⟨_, _⟩, _, _, _, _, _, _, _, _, _, _, _, _, _⟩ : Sl.Thread) hF hS hp rfl sz3 (hF.ev rfl) rfl (hF.ev rfl) rfl (fun _ => rfl) (fun _ => by dsimp only [threadEK, Thread.encv, List.set] <;> rfl) (by intro _; rfl) ?_; intro w6 hS_; replace hS := hS_; clear hS_; dsimp only [List.set] at hS
  refine wl_nil (hK4 _ _ ?_)
  refine wp_seq_k fun K5 hK5 => ?_
  refine wp_seq_k fun K6 hK6 => ?_
  refine wp_region_calm (by kernel_rfl) (by kernel_rfl) ?_
  refine wq_mvs (A := [_]) hF rfl ?_; clear hF a; intro a hF
  refine wq hF rfl rfl rfl (fun w_ hB_ => r_nilCheck (hF.ev rfl)) ?_; clear hF a; intro a hF
  refine wq hF rfl rfl rfl (fun w_ hB_ => r_field fo53_10 (hF.ev rfl)) ?_; clear hF a; intro a hF
  refine wq hF rfl rfl rfl (fun w_ hB_ => r_load1 sc3 (hF.ev rfl) ((hS.ext hB_).elt1 (q := 3) (j := 13) hp rfl (fun _ => rfl))) ?_; clear hF a; intro a hF
  refine wq_mvs (A := [_]) hF rfl ?_; clear hF a; intro a hF
  refine wq hF rfl rfl rfl (fun w_ hB_ => r_nilCheck (hF.ev rfl)) ?_; clear hF a; intro a hF
  refine wq hF rfl rfl rfl (fun w_ hB_ => r_field fo32_0 (hF.ev rfl)) ?_; clear hF a; intro a hF
  refine wq hF rfl rfl rfl (fun w_ hB_ => r_field fo29_0 (hF.ev rfl)) ?_; clear hF a; intro a hF
  refine wq hF rfl rfl rfl (fun w_ hB_ => r_load1 sc3 (hF.ev rfl) ((hS.ext hB_).box (i := 0) rfl rfl)) ?_; clear hF a; intro a hF
  refine wq hF rfl rfl rfl (fun w_ hB_ => r_mul ec (hF.ev rfl)) ?_; clear hF a; intro a hF
  refine wq hF rfl rfl rfl (fun w_ hB_ => r_lss (hF.ev rfl) (hF.ev rfl)) ?_; clear hF a; intro a hF
  refine wpQuiet_nil ?_; intro w7 hB_; replace hS := hS.ext hB_; clear hB_
  refine hK6 _ _ ?_
  refine wc_fx (t := 63) hF rfl ?_ ?_ <;> clear hF <;> intro c63 hF <;> try simp only [zb1, zb2, zb3, zb4, zb5, zb6, zb7, zb8] at c63
  ·
    refine wp_ret ?_
    try simp only [Exit.then, Exit.inBlock, ↓reduceIte]
    refine ret0 rfl hF ⟨rfl, ?_⟩
    unfold reclaimS
    rw [if_pos c63]
    exact hS
  obtain ⟨A0_, A1_, A2_, A3_, A4_, k0_, k1_, k2_, k3_, k4_, ⟨n0_, n1_, n2_, n3_, n4_⟩, ⟨q0_, q1_, q2_, q3_, q4_⟩, hS_⟩ := Sep.thr_lend (t := { t with found := (foundN t (scanN s t)), at_ := IntKind.i64.wrap (t.at_ + 1) }) (Sep.headp (A := [_, _, _, _]) (B := [_, _, _, _]) hS [3, 0, 1, 2] (by decide) rfl rfl) hp; replace hS := hS_; clear hS_; unfold maxLen at n0_ n1_ n2_ n3_ n4_; try dsimp only at n0_ n1_ n2_ n3_ n4_ q0_ q1_ q2_ q3_ q4_
  dsimp only [Thread.encv] at hS
  have hgl0 := hf.lg
  refine wp_skip ?_
  refine hK5 _ _ ?_
  refine wp_seq_k fun K7 hK7 => ?_
  refine wp_region_todo (is := [0, 1, 2, 3, 4, 5, 6, 7, 8, 9, 10, 11, 12, 13]) [] [] (by kernel_rfl) hF hS ⟨trivial, by decide, by decide, by decide⟩ (by kernel_rfl) ?_; clear hF; intro hl_ wd hSd
  refine todo_pure hl_ (by kernel_rfl) rfl (gw0 rfl) rfl rfl rfl (fun a w_ hF => r_move (hF.ev rfl)) ?_
  refine todo_pure hl_ (by kernel_rfl) rfl (gw0 rfl) rfl rfl rfl (fun a w_ hF => r_nilCheck (hF.ev rfl)) ?_
  refine todo_pure hl_ (by kernel_rfl) rfl (gw0 rfl) rfl rfl rfl (fun a w_ hF => r_field fo53_15 (hF.ev rfl)) ?_
  refine todo_load [8, 9, 10, 11, 12, 13] hl_ (by kernel_rfl) rfl (gw0 rfl) rfl rfl rfl (fun a w_ hF hB_ => r_load1 sc24 (hF.ev rfl) ((hSd.ext hB_).but1 (q := 5) (j := 18) rfl rfl)) ?_
  refine todo_pure hl_ (by kernel_rfl) rfl (gw0 rfl) rfl rfl rfl (fun a w_ hF => r_move (hF.ev rfl)) ?_
  refine todo_pure hl_ (by kernel_rfl) rfl (gw0 rfl) rfl rfl rfl (fun a w_ hF => r_nilCheck (hF.ev rfl)) ?_
  refine todo_pure hl_ (by kernel_rfl) rfl (gw0 rfl) rfl rfl rfl (fun a w_ hF => r_field fo53_11 (hF.ev rfl)) ?_
  refine todo_load [8, 9, 10, 11, 12, 13] hl_ (by kernel_rfl) rfl (gw0 rfl) rfl rfl rfl (fun a w_ hF hB_ => r_load1 sc24 (hF.ev rfl) ((hSd.ext hB_).but1 (q := 5) (j := 14) rfl rfl)) ?_
  refine todo_mk hl_ rfl (by kernel_rfl) rfl rfl rfl rfl rfl (fun a w_ hF => r_call2 en103 (hF.ev rfl) (hF.ev rfl)) (fun w_ hS => specSplit_c (hS.own_rd (i := 4) rfl) (hS.own_rd (i := 0) rfl) (by omega)) ?_; rintro ⟨p73, q73⟩
  refine todo_pure hl_ (by kernel_rfl) rfl (gw0 rfl) rfl rfl rfl (fun a w_ hF => r_move (hF.ev rfl)) ?_
  refine todo_pure hl_ (by kernel_rfl) rfl (gw0 rfl) rfl rfl rfl (fun a w_ hF => r_extract (hF.ev rfl) rfl) ?_
  refine todo_pure hl_ (by kernel_rfl) rfl (gw0 rfl) rfl rfl rfl (fun a w_ hF => r_extract (hF.ev rfl) rfl) ?_
  refine todo_pure hl_ (by kernel_rfl) rfl (gw0 rfl) rfl rfl rfl (fun a w_ hF => r_assign (hF.ev rfl)) ?_
  refine todo_pure hl_ (by kernel_rfl) rfl (gw0 rfl) rfl rfl rfl (fun a w_ hF => r_assign (hF.ev rfl)) ?_
  refine todo_fin hl_ rfl (by kernel_rfl) (tl := []) rfl ?_; clear hS a; intro a w8 hF hA_
  have hS := hA_.sep; clear hA_
  clear hl_; try clear hSd
  try dsimp only [List.cons_append, List.nil_append, List.set] at hS
  try clear wd
  refine wl_nil ⟨rfl, ?_⟩
  refine hK7 _ _ ?_
  refine ws fun K8 hK8 => ?_
  refine wl hF rfl rfl rfl (r_move (hF.ev rfl)) ?_; clear hF a; intro a hF
  obtain ⟨⟨Ap, np, cp⟩, rfl⟩ := hS.own_sv (q := 0) rfl; obtain rfl : np = _ := hS.own_len (q := 0) (s := (Ap, np, cp)) rfl
  obtain ⟨⟨Aq, nq, cq⟩, rfl⟩ := hS.own_sv (q := 1) rfl; obtain rfl : nq = _ := hS.own_len (q := 1) (s := (Aq, nq, cq)) rfl
  have hq1 := out_le' t.limbo (foundN t (scanN s t))
  replace hS : Sep W (Own intEK (.slice Ap _ cp) _ :: Own intEK (.slice Aq _ cq) _ :: _) _ := hS
  try dsimp only at hF
  refine wl_mvs (A := [_]) hF rfl ?_; clear hF a; intro a hF
  refine wl hF rfl rfl rfl (r_nilCheck (hF.ev rfl)) ?_; clear hF a; intro a hF
  refine wl hF rfl rfl rfl (r_field fo53_15 (hF.ev rfl)) ?_; clear hF a; intro a hF
  refine wl_bstore (q := 7) (j := 18) hF hS rfl sz24 (hF.ev rfl) rfl (hF.ev rfl) rfl rfl ?_; intro w9 hS_; replace hS := hS_; clear hS_; dsimp only [List.set] at hS
  refine wl_nil (hK8 _ _ ?_)
  refine wp_seq_k fun K9 hK9 => ?_
  refine ws fun K10 hK10 => ?_
  refine wl_mvs (A := [_]) hF rfl ?_; clear hF a; intro a hF
  refine wl_nil (hK10 _ _ ?_)
  refine wp_block ?_
  replace hS := hS.pull (p := 7) rfl; dsimp only [List.eraseIdx] at hS
  replace hS := hS.pull (p := 10) rfl; dsimp only [List.eraseIdx] at hS
  replace hS := hS.pull (p := 5) rfl; dsimp only [List.eraseIdx] at hS
  have hL_ := ((((hF.nil.keep hF (t := 7) rfl).keep hF (t := 4) rfl).keep hF (t := 1) rfl).keep hF (t := 0) rfl)
  refine wp_loop_m (σ := Nat × Slv) (fun z L_ => (8, vi z.1) :: L_) (fun z l_ => (Own intEK (sv z.2) (freeAll s.generations t.free ((splitOut t.limbo (foundN t (scanN s t))).take z.1)).2) :: (Own intEK (sv z1) (freeAll s.generations t.free ((splitOut t.limbo (foundN t (scanN s t))).take z.1)).1) :: (OwnBut threadEK (.slice (some ⟨gt, ot, none⟩) mt ct) (s.threads.set p ({ t with found := (foundN t (scanN s t)), at_ := IntKind.i64.wrap (t.at_ + 1) })) p (Thread.encv ({ t with found := (foundN t (scanN s t)), at_ := IntKind.i64.wrap (t.at_ + 1) }) (.slice A0_ (foundN t (scanN s t)).length k0_) (sv z.2) (.slice A2_ t.buffer.length k2_) (.slice A3_ t.work.length k3_) (.slice Ap (splitIn t.limbo (foundN t (scanN s t))).length cp))) :: l_) (fun z => (z.1 ≤ (splitOut t.limbo (foundN t (scanN s t))).length)) (fun z => (splitOut t.limbo (foundN t (scanN s t))).length - z.1) (0, (A1_, t.free.length, k1_)) (hS) (hL_.keepE hF (t := 8) rfl rfl) ?_ ?_
  · exact Nat.zero_le _
  clear hF hS hL_ a
  rintro ⟨k, Af, nf, cf⟩ a w10 hk hS hF; try dsimp only at hF; try dsimp only at hS; try dsimp only at hk
  obtain rfl : nf = _ := hS.own_len (q := 0) (s := (Af, nf, cf)) rfl
  replace hS : Sep W (Own intEK (.slice Af _ cf) _ :: _) _ := hS
  refine wp_seq_k fun K11 hK11 => ?_
  refine ws fun K12 hK12 => ?_
  refine wl_mvs (A := [_, _]) hF rfl ?_; clear hF a; intro a hF
  refine wl hF rfl rfl rfl (r_len ul24 (hF.ev rfl)) ?_; clear hF a; intro a hF
  refine wl hF rfl rfl rfl (r_lss (hF.ev rfl) (hF.ev rfl)) ?_; clear hF a; intro a hF
  refine wl_nil (hK12 _ _ ?_)
  refine wc_fx (t := 83) hF rfl ?_ ?_ <;> clear hF <;> intro c83 hF <;> try simp only [zb1, zb2, zb3, zb4, zb5, zb6, zb7, zb8] at c83
  ·
    have hlt : k < (splitOut t.limbo (foundN t (scanN s t))).length := by omega
    have hx := at0_nat hlt
    have hm_ : at0 (splitOut t.limbo (foundN t (scanN s t))) (k : Int) ∈ splitOut t.limbo (foundN t (scanN s t)) := at0_mem (by omega) (by omega)
    obtain ⟨hh1, hi0, hi1⟩ := hf.nodes hm_
    have hgl := freeAll_len (gs := s.generations) (fr := t.free) (hs := (splitOut t.limbo (foundN t (scanN s t))).take k)
    refine wp_skip ?_
    refine hK11 _ _ ?_
    refine wp_seq_k fun K13 hK13 => ?_
    refine wp_block ?_
    refine ws fun K14 hK14 => ?_
    refine wl_mvs (A := [_, _]) hF rfl ?_; clear hF a; intro a hF
    obtain ⟨g88, o88, m88, q88, hv88, hm88, hl88, hc88⟩ := Rd.atF ((hS.own_rd (i := 4) rfl)) (a := a) (X := .tmp 87) (hF.ev rfl) (by omega) (by omega)
    refine wl hF rfl rfl rfl (r_index sl24 ((hF.ev rfl).trans hv88) (hF.ev rfl) (by omega) (by first | omega | (simp at hm88; omega))) ?_; clear hF a; intro a hF
    refine wl hF rfl rfl rfl (r_load1 sc3 (hF.ev rfl) (hc88 0 _ rfl)) ?_; clear hF a; intro a hF
    refine wl_call hF rfl rfl rfl (r_call1 en104 (hF.ev rfl)) (specIndexOf_c hh1) ?_; clear hF a; rintro v w11 a ⟨rfl, hB_⟩ hF; replace hS := hS.ext hB_; clear hB_
    refine wl_mvs (A := [_]) hF rfl ?_; clear hF a; intro a hF
    refine wl_nil (hK14 _ _ ?_)
    refine ws fun K15 hK15 => ?_
    refine wl_mvs (A := [_]) hF rfl ?_; clear hF a; intro a hF
    refine wl hF rfl rfl rfl (r_nilCheck (hF.ev rfl)) ?_; clear hF a; intro a hF
    refine wl hF rfl rfl rfl (r_field fo32_2 (hF.ev rfl)) ?_; clear hF a; intro a hF
    refine wl hF rfl rfl rfl (r_load1 sc24 (hF.ev rfl) (hS.box (i := 9) rfl rfl)) ?_; clear hF a; intro a hF
    refine wl_mvs (A := [_]) hF rfl ?_; clear hF a; intro a hF
    obtain ⟨g96, o96, m96, q96, hv96, hm96, hl96, hc96⟩ := Rd.atF ((hS.own_rd (i := 1) rfl)) (a := a) (X := .tmp 95) (hF.ev rfl) (by omega) (by omega)
    refine wl hF rfl rfl rfl (r_index sl24 ((hF.ev rfl).trans hv96) (hF.ev rfl) (by omega) (by first | omega | (simp at hm96; omega))) ?_; clear hF a; intro a hF
    refine wl hF rfl rfl rfl (r_load1 sc3 (hF.ev rfl) (hc96 0 _ rfl)) ?_; clear hF a; intro a hF
    refine wl hF rfl rfl rfl (r_lss (hF.ev rfl) ec) ?_; clear hF a; intro a hF
    refine wl_mvs (A := [_]) hF rfl ?_; clear hF a; intro a hF
    apply wl_and (A := [_, _, _, _, _, _, _]) (pk := 106) hF hS (tc := 99) rfl
    ·
      intro hg99 a hF; try simp only [zb1, zb2, zb3, zb4, zb5, zb6, zb7, zb8] at hg99
      refine wl_mvs (A := [_]) hF rfl ?_; clear hF a; intro a hF
      refine wl_take hF rfl rfl rfl rfl ?_
      refine wl hF rfl rfl rfl (r_nilCheck (hF.ev rfl)) ?_; clear hF a; intro a hF
      refine wl_take hF rfl rfl rfl rfl ?_
      refine wl hF rfl rfl rfl (r_field fo53_12 (hF.ev rfl)) ?_; clear hF a; intro a hF
      refine wl_take hF rfl rfl rfl rfl ?_
      refine wl hF rfl rfl rfl (r_load1 sc24 (hF.ev rfl) (hS.but1 (q := 2) (j := 15) rfl rfl)) ?_; clear hF a; intro a hF
      refine wl_take hF rfl rfl rfl rfl ?_
      refine wl hF rfl rfl rfl (r_len ul24 (hF.ev rfl)) ?_; clear hF a; intro a hF
      refine wl_take hF rfl rfl rfl rfl ?_
      refine wl hF rfl rfl rfl (r_lss (hF.ev rfl) ec) ?_; clear hF a; intro a hF
      refine wl hF rfl rfl rfl (r_pick_t (hF.ev rfl) (hF.ev rfl)) ?_; clear hF a; intro a hF
      exact wl_nil ⟨rfl, (Fr.pre (A := [_, _, _, _, _, _, _]) hF rfl).keep hF (t := 106) rfl, hS⟩
    ·
      intro hg99 a hF; try simp only [zb1, zb2, zb3, zb4, zb5, zb6, zb7, zb8] at hg99
      refine wl_mvs (A := [_, _, _, _, _, _]) hF rfl ?_; clear hF a; intro a hF
      refine wl hF rfl rfl rfl (r_pick_f (hF.ev rfl) ec) ?_; clear hF a; intro a hF
      exact wl_nil ⟨rfl, (Fr.pre (A := [_, _, _, _, _, _, _]) hF rfl).keep hF (t := 106) rfl, hS⟩
    clear hF a hS; intro a w12 hF hS
    refine wl_nil (hK15 _ _ ?_)
    refine wc_fx (t := 106) hF rfl ?_ ?_ <;> clear hF <;> intro c106 hF <;> try simp only [zb1, zb2, zb3, zb4, zb5, zb6, zb7, zb8] at c106
    ·
      refine wp_seq_k fun K16 hK16 => ?_
      refine wp_region_todo (is := [0, 1, 2, 3, 4, 5, 6, 7, 8, 9, 10, 11, 12, 13, 14]) [] [14] (by kernel_rfl) hF hS ⟨trivial, by decide, by decide, by decide⟩ (by kernel_rfl) ?_; clear hF; intro hl_ wd hSd
      refine todo_pure hl_ (by kernel_rfl) rfl (gw0 rfl) rfl rfl rfl (fun a w_ hF => r_move (hF.ev rfl)) ?_
      refine todo_pure hl_ (by kernel_rfl) rfl (gw0 rfl) rfl rfl rfl (fun a w_ hF => r_nilCheck (hF.ev rfl)) ?_
      refine todo_pure hl_ (by kernel_rfl) rfl (gw0 rfl) rfl rfl rfl (fun a w_ hF => r_field fo32_2 (hF.ev rfl)) ?_
      refine todo_load [13, 14] hl_ (by kernel_rfl) rfl (gw0 rfl) rfl rfl rfl (fun a w_ hF hB_ => r_load1 sc24 (hF.ev rfl) ((hSd.ext hB_).box (i := 9) rfl rfl)) ?_
      refine todo_pure hl_ (by kernel_rfl) rfl (gw0 rfl) rfl rfl rfl (fun a w_ hF => r_move (hF.ev rfl)) ?_
      refine todo_pure hl_ (by kernel_rfl) rfl (gw0 rfl) rfl rfl rfl (fun a w_ hF => r_move (hF.ev rfl)) ?_
      refine todo_pure hl_ (by kernel_rfl) rfl (gw0 rfl) rfl rfl rfl (fun a w_ hF => r_nilCheck (hF.ev rfl)) ?_
      refine todo_pure hl_ (by kernel_rfl) rfl (gw0 rfl) rfl rfl rfl (fun a w_ hF => r_field fo32_2 (hF.ev rfl)) ?_
      refine todo_load [10, 11, 12, 13, 14] hl_ (by kernel_rfl) rfl (gw0 rfl) rfl rfl rfl (fun a w_ hF hB_ => r_load1 sc24 (hF.ev rfl) ((hSd.ext hB_).box (i := 9) rfl rfl)) ?_
      refine todo_pure hl_ (by kernel_rfl) rfl (gw0 rfl) rfl rfl rfl (fun a w_ hF => r_move (hF.ev rfl)) ?_
      obtain ⟨g117, o117, m117, q117, hv117, hm117, hl117, hc117⟩ := Rd.idxF ((hSd.own_rd (i := 1) rfl)) (at0_get (i := (indexOf (at0 (splitOut t.limbo (foundN t (scanN s t))) (k : Int)))) (by omega) (by omega))
      refine todo_pure hl_ (by kernel_rfl) rfl (gw0 rfl) rfl rfl rfl (fun a w_ hF => r_index sl24 ((hF.ev rfl).trans hv117) (hF.ev rfl) (by omega) (by first | omega | (simp at hm117; omega))) ?_
      refine todo_load [12, 13, 14] hl_ (by kernel_rfl) rfl (gw0 rfl) rfl rfl rfl (fun a w_ hF hB_ => r_load1 sc3 (hF.ev rfl) (cellB hB_ (hc117 0 _ rfl))) ?_
      refine todo_pure hl_ (by kernel_rfl) rfl (gw0 rfl) rfl rfl rfl (fun a w_ hF => r_add (hF.ev rfl) ec) ?_
      obtain ⟨g120, o120, m120, q120, hv120, hm120, hl120, hc120⟩ := Rd.idxF ((hSd.own_rd (i := 1) rfl)) (at0_get (i := (indexOf (at0 (splitOut t.limbo (foundN t (scanN s t))) (k : Int)))) (by omega) (by omega))
      refine todo_pure hl_ (by kernel_rfl) rfl (gw0 rfl) rfl rfl rfl (fun a w_ hF => r_index sl24 ((hF.ev rfl).trans hv120) (hF.ev rfl) (by omega) (by first | omega | (simp at hm120; omega))) ?_
      refine todo_fin hl_ rfl (by kernel_rfl) (tl := [_]) rfl ?_; clear hS a; intro a w13 hF hA_
      have hS := hA_.sep; clear hA_
      clear hl_; try clear hSd
      try dsimp only [List.cons_append, List.nil_append, List.set] at hS
      try clear wd
      refine wl_istore (q := 1) hF hS rfl hv120 (by omega) (by omega) sz3 (hF.ev rfl) rfl (hF.ev rfl) ?_; intro w14 hS_; replace hS := hS_; clear hS_; dsimp only [List.set] at hS
      refine wl_nil ⟨rfl, ?_⟩
      refine hK16 _ _ ?_
      refine wp_region_lit ?_
      refine wl_mvs (A := [_, _]) hF rfl ?_; clear hF a; intro a hF
      refine wl hF rfl rfl rfl (r_nilCheck (hF.ev rfl)) ?_; clear hF a; intro a hF
      refine wl hF rfl rfl rfl (r_field fo53_12 (hF.ev rfl)) ?_; clear hF a; intro a hF
      refine wl hF rfl rfl rfl (r_load1 sc24 (hF.ev rfl) (hS.but1 (q := 2) (j := 15) rfl rfl)) ?_; clear hF a; intro a hF
      refine wl_mvs (A := [_]) hF rfl ?_; clear hF a; intro a hF
      refine wl_bslice intEK [vi (indexOf (at0 (splitOut t.limbo (foundN t (scanN s t))) (k : Int)))] [indexOf (at0 (splitOut t.limbo (foundN t (scanN s t))) (k : Int))] rfl hF hS rfl mk24 rfl ⟨rfl, (hF.ev rfl), trivial⟩ rfl rfl rfl rfl ?_; clear hF a; intro gl_127 w15 a hS_ hF; replace hS := hS_; clear hS_
      refine wl_append (q := 1) hF hS rfl rfl (hS.own_rd (i := 0) rfl) mk24 rfl (hF.ev rfl) (hF.ev rfl) (by simp; omega) (by unfold maxLen; simp; omega) ?_; clear hF a; intro A_128 c_128 w16 a hS_ hF; replace hS := hS_; clear hS_; dsimp only [List.set, List.length_cons, List.length_nil] at hS hF
      refine wl hF rfl rfl rfl (r_nilCheck (hF.ev rfl)) ?_; clear hF a; intro a hF
      refine wl hF rfl rfl rfl (r_field fo53_12 (hF.ev rfl)) ?_; clear hF a; intro a hF
      refine wl_bstore (q := 3) (j := 15) hF hS rfl sz24 (hF.ev rfl) rfl (hF.ev rfl) rfl rfl ?_; intro w17 hS_; replace hS := hS_; clear hS_; dsimp only [List.set] at hS
      refine wl_nil ?_
      simp only [Exit.then, Exit.inBlock, ↓reduceIte]
      refine hK13 _ _ ?_
      refine wp_region_lit ?_
      refine wl_mvs (A := [_]) hF rfl ?_; clear hF a; intro a hF
      refine wl hF rfl rfl rfl (r_add (hF.ev rfl) ec) ?_; clear hF a; intro a hF
      refine wl_mvs (A := [_]) hF rfl ?_; clear hF a; intro a hF
      refine wl_nil ?_
      try simp only [Exit.then, Exit.inBlock, ↓reduceIte]
      have e_ := freeAll_yes (gs := s.generations) (fr := t.free) hx c106; have e1 := congrArg Prod.fst e_; have e2 := congrArg Prod.snd e_; dsimp only at e1 e2; rw [← e1, ← e2] at hS
      refine ⟨(k + 1, (_, _, _)), (by dsimp only; omega), (Sep.headp (A := [_, _, _, _, _, _, _, _, _, _, _, _]) (B := [_, _, _, _, _, _, _, _, _, _, _]) hS [1, 2, 3, 4, 5, 6, 7, 8, 9, 10, 11] (by decide) rfl rfl), (((((hF.nil.keep hF (t := 7) rfl).keep hF (t := 4) rfl).keep hF (t := 1) rfl).keep hF (t := 0) rfl).keepE hF (t := 8) rfl (wk (by omega))), by dsimp only; omega⟩
    refine wp_skip ?_
    simp only [Exit.then, Exit.inBlock, ↓reduceIte]
    refine hK13 _ _ ?_
    refine wp_region_lit ?_
    refine wl_mvs (A := [_]) hF rfl ?_; clear hF a; intro a hF
    refine wl hF rfl rfl rfl (r_add (hF.ev rfl) ec) ?_; clear hF a; intro a hF
    refine wl_mvs (A := [_]) hF rfl ?_; clear hF a; intro a hF
    refine wl_nil ?_
    try simp only [Exit.then, Exit.inBlock, ↓reduceIte]
    have e_ := freeAll_no (gs := s.generations) (fr := t.free) hx (by omega); rw [← e_] at hS
    refine ⟨(k + 1, (_, _, _)), (by dsimp only; omega), hS, (((((hF.nil.keep hF (t := 7) rfl).keep hF (t := 4) rfl).keep hF (t := 1) rfl).keep hF (t := 0) rfl).keepE hF (t := 8) rfl (wk (by omega))), by dsimp only; omega⟩
  obtain rfl : k = (splitOut t.limbo (foundN t (scanN s t))).length := by omega
  rw [List.take_length] at hS
  replace hS := Sep.thr_back (t' := { t with found := (foundN t (scanN s t)), at_ := IntKind.i64.wrap (t.at_ + 1), limbo := splitIn t.limbo (foundN t (scanN s t)), free := (freeAll s.generations t.free (splitOut t.limbo (foundN t (scanN s t)))).2 }) (y0 := (_, _, _)) (y1 := (_, _, _)) (y2 := (_, _, _)) (y3 := (_, _, _)) (y4 := (_, _, _)) (Sep.headp (A := [_, _, _, _, _, _, _, _, _, _, _]) (B := [_, _, _, _, _, _, _, _, _, _, _]) hS [5, 0, 6, 7, 3, 2, 1, 4, 8, 9, 10] (by decide) rfl rfl) rfl
  refine wp_exit ?_
  simp only [Exit.then, Exit.inBlock, ↓reduceIte]
  refine hK9 _ _ ?_
  refine wp_region_lit ?_
  refine wl_mvs (A := [_, _]) hF rfl ?_; clear hF a; intro a hF
  replace hS := Sep.headp (A := [_, _, _, _, _, _]) (B := [_, _, _, _, _, _]) hS [4, 0, 1, 2, 3, 5] (by decide) rfl rfl
  refine wl_call hF rfl rfl rfl (r_call4 en71 (hF.ev rfl) (hF.ev rfl) ec ec) (l10Finish_c (s := s) hp hS) ?_; clear hF a; rintro v w18 a ⟨rfl, hS_⟩ hF; replace hS := hS_; clear hS_
  refine wl_nil ?_
  try simp only [Exit.then, Exit.inBlock, ↓reduceIte]
  refine ret0n rfl hF ⟨rfl, ?_⟩
  unfold reclaimS
  rw [if_neg c63]
  exact (Sep.headp (A := [_, _, _, _, _, _]) (B := [_, _, _, _]) hS [0, 5, 2, 1] (by decide) rfl rfl)
set_option maxHeartbeats 4000000 in
set_option maxRecDepth 20000 in
theorem specStepReclaim_c {W : World} {s : Sl.State} {cs : List Value} {p : Int} (hm : stateEK.K W s cs) (hw : s.wf) (hz : (s.size : Int) ≤ 1048576) (hp0 : int64 p) : Calls Tryz.prog 20 #[.agg cs.toArray, vi p] W (Ret (Mk W (fun vs => .tuple #[.agg (stateEK.cells (stepOf isC reclaimS s p).1 vs).toArray, .bool (stepOf isC reclaimS s p).2]) (fun vs => [Part stateEK (stepOf isC reclaimS s p).1 vs]))) := by
  refine calls_fr Tryz.func20 rfl Tryz.ntmps20 rfl ?_
  intro a hF
  have hS := Sep.refl W
  obtain ⟨v0, v1, v2, rfl, r0, r1, r2⟩ := hm
  have hm : stateEK.K W s (s.encv v0 v1 v2) := ⟨_, _, _, rfl, r0, r1, r2⟩
  obtain ⟨A_a, q_a, rfl, hq_a, hn_a⟩ := r0.sl; unfold maxLen at hn_a
  obtain ⟨A_b, q_b, rfl, hq_b, hn_b⟩ := r1.sl; unfold maxLen at hn_b
  obtain ⟨A_c, q_c, rfl, hq_c, hn_c⟩ := r2.sl; unfold maxLen at hn_c
  refine ws fun K1 hK1 => ?_
  refine wl_box (cs := [_, _, _, _, _, _, _, _, _, _, _, _, _]) hF hS rfl (hF.ev rfl) rfl ?_; clear hF a; intro g1 w1 a hS_ hB_ hF; replace hS := hS_; clear hS_ hB_
  refine wl_alloc hF hS rfl zr32 ?_; clear hF a; intro g2 w2 a hS_ hB_ hF; replace hS := hS_; clear hS_ hB_
  refine wl_mvs (A := [_]) hF rfl ?_; clear hF a; intro a hF
  refine wl_nil (hK1 _ _ ?_)
  refine ws fun K2 hK2 => ?_
  refine wl hF rfl rfl rfl (r_loadn ag32 (hF.ev rfl) (hS.box_rd (i := 1) rfl) sz32) ?_; clear hF a; intro a hF
  refine wl_mk hF hS rfl rfl rfl (r_call1 en31 (hF.ev rfl)) (l8Copy_c (hS.k hm) (by omega)) ?_; clear hF a; rintro vs8 w3 a hS_ hF; replace hS := hS_; clear hS_; dsimp only [List.cons_append, List.nil_append] at hS
  refine wl_alloc hF hS rfl zr32 ?_; clear hF a; intro g3 w4 a hS_ hB_ hF; replace hS := hS_; clear hS_ hB_
  refine wl_storew hF hS (i := 0) rfl (hF.ev rfl) (hF.ev rfl) sz32 rfl rfl ?_; intro w5 hS_; replace hS := hS_; clear hS_; dsimp only [List.set, Nat.reduceAdd] at hS
  refine wl_nil (hK2 _ _ ?_)
  refine wp_seq_k fun K3 hK3 => ?_
  refine ws fun K4 hK4 => ?_
  refine wl hF rfl rfl rfl (r_loadn ag32 (hF.ev rfl) (hS.box_rd (i := 3) rfl) sz32) ?_; clear hF a; intro a hF
  refine wl_mvs (A := [_]) hF rfl ?_; clear hF a; intro a hF
  refine wl_call hF rfl rfl rfl (r_call2 en32 (hF.ev rfl) (hF.ev rfl)) (specIsRunning_c (hS.k hm) hw hz hp0) ?_; clear hF a; rintro v w6 a ⟨rfl, hB_⟩ hF; replace hS := hS.ext hB_; clear hB_
  refine wl hF rfl rfl rfl (r_not (hF.ev rfl)) ?_; clear hF a; intro a hF
  refine wl_mvs (A := [_]) hF rfl ?_; clear hF a; intro a hF
  apply wl_or (A := [_, _, _, _, _, _, _, _]) (pk := 21) hF hS (tc := 13) rfl
  ·
    intro hg13 a hF; try simp only [zb1, zb2, zb3, zb4, zb5, zb6, zb7, zb8] at hg13
    obtain ⟨hso_, hp1_⟩ := running_of hg13
    refine wl_take hF rfl rfl rfl rfl ?_
    refine wl hF rfl rfl rfl (r_field fo32_3 (hF.ev rfl)) ?_; clear hF a; intro a hF
    refine wl_take hF rfl rfl rfl rfl ?_
    refine wl hF rfl rfl rfl (r_load1 sc30 (hF.ev rfl) (hS.box (i := 3) rfl rfl)) ?_; clear hF a; intro a hF
    refine wl_mvs (A := [_]) hF rfl ?_; clear hF a; intro a hF
    refine wl_take hF rfl rfl rfl rfl ?_
    obtain ⟨g17, o17, m17, q17, cs17, hv17, hm17, hl17, hk17, hz17, hc17⟩ := Rd.at (r2) (a := a) (X := .tmp 16) (hF.ev rfl) (by omega) (by omega)
    have hkk17 := hk17; obtain ⟨v17_0, v17_1, v17_2, v17_3, v17_4, rfl, r17_0, r17_1, r17_2, r17_3, r17_4⟩ := hk17
    refine wl hF rfl rfl rfl (r_index sl30 ((hF.ev rfl).trans hv17) (hF.ev rfl) (by omega) (by first | omega | (simp at hm17; omega))) ?_; clear hF a; intro a hF
    refine wl_take hF rfl rfl rfl rfl ?_
    refine wl hF rfl rfl rfl (r_field fo53_0 (hF.ev rfl)) ?_; clear hF a; intro a hF
    refine wl_take hF rfl rfl rfl rfl ?_
    refine wl hF rfl rfl rfl (r_load1 sc3 (hF.ev rfl) (cellB hS.old (hc17 0 _ rfl))) ?_; clear hF a; intro a hF
    refine wl_take hF rfl rfl rfl rfl ?_
    refine wl hF rfl rfl rfl (r_neq (hF.ev rfl) ec) ?_; clear hF a; intro a hF
    refine wl hF rfl rfl rfl (r_pick_f (hF.ev rfl) (hF.ev rfl)) ?_; clear hF a; intro a hF
    exact wl_nil ⟨rfl, (Fr.pre (A := [_, _, _, _, _, _, _, _]) hF rfl).keep hF (t := 21) rfl, hS⟩
  ·
    intro hg13 a hF; try simp only [zb1, zb2, zb3, zb4, zb5, zb6, zb7, zb8] at hg13
    refine wl_mvs (A := [_, _, _, _, _, _, _]) hF rfl ?_; clear hF a; intro a hF
    refine wl hF rfl rfl rfl (r_pick_t (hF.ev rfl) ec) ?_; clear hF a; intro a hF
    exact wl_nil ⟨rfl, (Fr.pre (A := [_, _, _, _, _, _, _, _]) hF rfl).keep hF (t := 21) rfl, hS⟩
  clear hF a hS; intro a w7 hF hS
  refine wl_nil (hK4 _ _ ?_)
  refine wc_fx (t := 21) hF rfl ?_ ?_ <;> clear hF <;> intro c21 hF <;> try simp only [zb1, zb2, zb3, zb4, zb5, zb6, zb7, zb8] at c21
  ·
    refine ws fun K5 hK5 => ?_
    refine wl hF rfl rfl rfl (r_loadn ag32 (hF.ev rfl) (hS.box_rd (i := 0) rfl) sz32) ?_; clear hF a; intro a hF
    refine wl_storew hF hS (i := 2) rfl (hF.ev rfl) (hF.ev rfl) sz32 rfl rfl ?_; intro w8 hS_; replace hS := hS_; clear hS_; dsimp only [List.set, Nat.reduceAdd] at hS
    refine wl_mvs (A := [_]) hF rfl ?_; clear hF a; intro a hF
    refine wl_nil (hK5 _ _ ?_)
    refine wp_ret ?_
    try simp only [Exit.then, Exit.inBlock, ↓reduceIte]
    have e : stepOf isC reclaimS s p = (s, false) := if_neg (fun h => by
      rcases c21 with c | c
      · rw [h.1] at c; cases c
      · exact c (of_decide_eq_true h.2))
    refine ret2c rfl ag32 hF hS (i := 2) rfl sz32 rfl rfl ⟨vs8, ?_, ?_⟩
    · rw [e] <;> rfl
    · rw [e]; exact hS.pick [1] (by decide) rfl
  obtain ⟨hso, hp1⟩ := running_of c21.1
  obtain ⟨p, rfl⟩ : ∃ k : Nat, p = (k : Int) := ⟨p.toNat, by omega⟩
  have hp : p < s.threads.length := by omega
  have hxt := at0_nat hp
  replace hS := hS.pull (p := 1) rfl; dsimp only [List.eraseIdx] at hS
  replace hS : Sep W (Own intEK (sv (vs8.getD 0 (none, 0, 0))) s.cells :: Own intEK (sv (vs8.getD 1 (none, 0, 0))) s.generations :: Own threadEK (sv (vs8.getD 2 (none, 0, 0))) s.threads :: _) _ := hS.part_open
  dsimp only [stateEK] at hS
  generalize vs8.getD 0 (none, 0, 0) = z0 at hS
  generalize vs8.getD 1 (none, 0, 0) = z1 at hS
  generalize vs8.getD 2 (none, 0, 0) = z2 at hS
  obtain ⟨gt, ot, mt, ct, rfl⟩ := hS.elt_form (q := 2) rfl hxt
  have hmt : mt = s.threads.length := hS.own_len (q := 2) (s := (some ⟨gt, ot, none⟩, mt, ct)) rfl
  replace hS := hS.set_form (q := 2) rfl hxt; dsimp only [List.set] at hS
  refine wp_skip ?_
  refine hK3 _ _ ?_
  refine ws fun K6 hK6 => ?_
  refine wl hF rfl rfl rfl (r_field fo32_4 (hF.ev rfl)) ?_; clear hF a; intro a hF
  refine wl hF rfl rfl rfl (r_load1 sc3 (hF.ev rfl) (hS.box (i := 3) rfl rfl)) ?_; clear hF a; intro a hF
  refine wl hF rfl rfl rfl (r_add (hF.ev rfl) ec) ?_; clear hF a; intro a hF
  refine wl hF rfl rfl rfl (r_field fo32_4 (hF.ev rfl)) ?_; clear hF a; intro a hF
  refine wl_store hF hS (i := 3) rfl sz3 (hF.ev rfl) (hF.ev rfl) rfl rfl ?_; intro w9 hS_; replace hS := hS_; clear hS_; dsimp only [List.set, Nat.reduceAdd] at hS
  refine wl_nil (hK6 _ _ ?_)
  refine ws fun K7 hK7 => ?_
  refine wl_mvs (A := [_]) hF rfl ?_; clear hF a; intro a hF
  replace hS := Sep.headp (A := [_, _, _, _, _, _]) (B := [_, _, _, _, _, _]) hS [3, 0, 1, 2, 4, 5] (by decide) rfl rfl
  refine wl_call hF rfl rfl rfl (r_call2 en53 (hF.ev rfl) (hF.ev rfl)) (l16Scan_c (s := stepped s) hp (Fit.of hso hw hp).stepped hS) ?_; clear hF a; rintro v w10 a ⟨rfl, hS_⟩ hF; replace hS := hS_; clear hS_
  refine wl_nil (hK7 _ _ ?_)
  refine ws fun K8 hK8 => ?_
  refine wl hF rfl rfl rfl (r_loadn ag32 (hF.ev rfl) (hS.box_rd (i := 0) rfl) sz32) ?_; clear hF a; intro a hF
  refine wl_storew hF hS (i := 4) rfl (hF.ev rfl) (hF.ev rfl) sz32 rfl rfl ?_; intro w11 hS_; replace hS := hS_; clear hS_; dsimp only [List.set, Nat.reduceAdd] at hS
  refine wl_mvs (A := [_]) hF rfl ?_; clear hF a; intro a hF
  refine wl_nil (hK8 _ _ ?_)
  refine wp_ret ?_
  try simp only [Exit.then, Exit.inBlock, ↓reduceIte]
  have e : stepOf isC reclaimS s (p : Int) = (stepBy reclaimS (stepped s) p, true) := if_pos ⟨c21.1, decide_eq_true c21.2⟩
  refine ret2c rfl ag32 hF hS (i := 4) rfl sz32 rfl rfl ⟨[z0, z1, (some ⟨gt, ot, none⟩, mt, ct)], ?_, ?_⟩
  · rw [e] <;> rfl
  · rw [e]; exact hS.part_of [1, 2, 3] (by decide) rfl
end Go.Proofs.YtifhfodphoeeoaaGreat.Wk
namespace Go.Proofs.YtifhfodphoeeoaaGreat.Wk
open Go Go.RowKit Sl
set_option linter.unusedVariables false
set_option linter.unusedSimpArgs false
set_option maxRecDepth 20000
set_option maxHeartbeats 4000000 in
set_option maxRecDepth 20000 in
theorem reclaim1_c {W : World} {n : Int} : Calls Tryz.prog 54 #[vi n] W (Ret fun v w' => v = .bool (isC n) ∧ Below W.heap.size W w') := by
  refine calls_fr Tryz.func54 rfl Tryz.ntmps54 rfl ?_
  intro a hF
  have hS := Sep.refl W
  refine ws fun K1 hK1 => ?_
  refine wl_mvs (A := [_]) hF rfl ?_; clear hF a; intro a hF
  refine wl_nil (hK1 _ _ ?_)
  refine ws fun K2 hK2 => ?_
  refine wl_mvs (A := [_]) hF rfl ?_; clear hF a; intro a hF
  refine wl hF rfl rfl rfl (r_eql (hF.ev rfl) ec) ?_; clear hF a; intro a hF
  refine wl_mvs (A := [_]) hF rfl ?_; clear hF a; intro a hF
  refine wl_nil (hK2 _ _ ?_)
  refine wp_ret ?_
  try simp only [Exit.then, Exit.inBlock, ↓reduceIte]
  exact ret1 rfl hF rfl ⟨rfl, hS.old⟩
set_option maxHeartbeats 4000000 in
set_option maxRecDepth 20000 in
theorem stpReclaim_c {W w : World} {l : List Res} {g gt ot mt ct p : Nat} {z0 z1 : Slv} {s : Sl.State} {t : Sl.Thread} (hp : p < s.threads.length) (hf : Fit s t) (hS : Sep W (Box g ((s).encv (sv z0) (sv z1) (.slice (some ⟨gt, ot, none⟩) mt ct)) :: Own intEK (sv z0) (s).cells :: Own intEK (sv z1) (s).generations :: Own threadEK (.slice (some ⟨gt, ot, none⟩) mt ct) (s.threads.set p t) :: l) w) : Calls Tryz.prog 55 #[.agg #[.pointer (some ⟨g, 0, none⟩), .pointer (some ⟨gt, ot + p * 19, none⟩), vi (p : Int)]] w (Ret fun v w' => v = .tuple #[] ∧ Sep W (Box g (((reclaimS s t (p : Int)).1).encv (sv z0) (sv z1) (.slice (some ⟨gt, ot, none⟩) mt ct)) :: Own intEK (sv z0) ((reclaimS s t (p : Int)).1).cells :: Own intEK (sv z1) ((reclaimS s t (p : Int)).1).generations :: Own threadEK (.slice (some ⟨gt, ot, none⟩) mt ct) (s.threads.set p (reclaimS s t (p : Int)).2) :: l) w') := by
  refine calls_fr Tryz.func55 rfl Tryz.ntmps55 rfl ?_
  intro a hF
  have hl0 := hS.own_len (q := 1) rfl
  have hl1 := hS.own_len (q := 2) rfl
  have hmt : mt = s.threads.length := by have := hS.own_len (q := 3) (s := (some ⟨gt, ot, none⟩, mt, ct)) rfl; simpa using this
  have hz1 := hf.sizes; unfold sizesOk at hz1
  refine ws fun K1 hK1 => ?_
  refine wl_box (cs := [_, _, _]) hF hS rfl (hF.ev rfl) rfl ?_; clear hF a; intro g1 w1 a hS_ hB_ hF; replace hS := hS_; clear hS_ hB_
  refine wl_nil (hK1 _ _ ?_)
  refine ws fun K2 hK2 => ?_
  refine wl hF rfl rfl rfl (r_field fo63_1 (hF.ev rfl)) ?_; clear hF a; intro a hF
  refine wl hF rfl rfl rfl (r_load1 sc61 (hF.ev rfl) (hS.box (i := 0) rfl rfl)) ?_; clear hF a; intro a hF
  refine wl_mvs (A := [_]) hF rfl ?_; clear hF a; intro a hF
  refine wl_nil (hK2 _ _ ?_)
  refine wp_cut (fun a w => Sep W (Box g1 [.pointer (some ⟨g, 0, none⟩), .pointer (some ⟨gt, ot + p * 19, none⟩), vi (p : Int)] :: Box g (s.encv (sv z0) (sv z1) (.slice (some ⟨gt, ot, none⟩) mt ct)) :: Own intEK (sv z0) s.cells :: Own intEK (sv z1) s.generations :: Own threadEK (.slice (some ⟨gt, ot, none⟩) mt ct) (s.threads.set p ({ t with found := (foundN t (scanN s t)) })) :: l) w ∧ Fr 125 [(1, .pointer (some ⟨g1, 0, none⟩)), (2, .pointer (some ⟨gt, ot + p * 19, none⟩))] a) ?_ ?_
  ·
    refine wp_seq_k fun K3 hK3 => ?_
    refine wp_region_calm (by kernel_rfl) (by kernel_rfl) ?_
    refine wq hF rfl rfl rfl (fun w_ hB_ => r_loadn ag63 (hF.ev rfl) ((hS.ext hB_).box_rd (i := 0) rfl) sz63) ?_; clear hF a; intro a hF
    refine wq hF rfl rfl rfl (fun w_ hB_ => r_field fo63_0 (hF.ev rfl)) ?_; clear hF a; intro a hF
    refine wq hF rfl rfl rfl (fun w_ hB_ => r_load1 sc55 (hF.ev rfl) ((hS.ext hB_).box (i := 0) rfl rfl)) ?_; clear hF a; intro a hF
    refine wq hF rfl rfl rfl (fun w_ hB_ => r_nilCheck (hF.ev rfl)) ?_; clear hF a; intro a hF
    refine wq hF rfl rfl rfl (fun w_ hB_ => r_field fo32_0 (hF.ev rfl)) ?_; clear hF a; intro a hF
    refine wq hF rfl rfl rfl (fun w_ hB_ => r_loadn ag29 (hF.ev rfl) ((hS.ext hB_).boxn (vs := [_, _, _, _, _, _]) (i := 1) (m := 6) rfl rfl) sz29) ?_; clear hF a; intro a hF
    refine wq_mvs (A := [_]) hF rfl ?_; clear hF a; intro a hF
    refine wq hF rfl rfl rfl (fun w_ hB_ => r_nilCheck (hF.ev rfl)) ?_; clear hF a; intro a hF
    refine wq hF rfl rfl rfl (fun w_ hB_ => r_field fo53_10 (hF.ev rfl)) ?_; clear hF a; intro a hF
    refine wq hF rfl rfl rfl (fun w_ hB_ => r_load1 sc3 (hF.ev rfl) ((hS.ext hB_).elt1 (q := 4) (j := 13) hp rfl (fun _ => rfl))) ?_; clear hF a; intro a hF
    refine wq hF rfl rfl rfl (fun w_ hB_ => r_quo (by first | decide | omega) (hF.ev rfl) ec) ?_; clear hF a; intro a hF
    refine wq_mvs (A := [_]) hF rfl ?_; clear hF a; intro a hF
    refine wq hF rfl rfl rfl (fun w_ hB_ => r_nilCheck (hF.ev rfl)) ?_; clear hF a; intro a hF
    refine wq hF rfl rfl rfl (fun w_ hB_ => r_field fo53_10 (hF.ev rfl)) ?_; clear hF a; intro a hF
    refine wq hF rfl rfl rfl (fun w_ hB_ => r_load1 sc3 (hF.ev rfl) ((hS.ext hB_).elt1 (q := 4) (j := 13) hp rfl (fun _ => rfl))) ?_; clear hF a; intro a hF
    refine wq hF rfl rfl rfl (fun w_ hB_ => r_rem (by first | decide | omega) (hF.ev rfl) ec) ?_; clear hF a; intro a hF
    refine wq_call hF rfl rfl rfl (fun w_ hB_ => r_call3 en105 (hF.ev rfl) (hF.ev rfl) (hF.ev rfl)) (fun w_ hB_ => implHazardCell_c _ _ _) ?_; clear hF a; intro a hF
    refine wq_call hF rfl rfl rfl (fun w_ hB_ => r_call2 en77 (hF.ev rfl) (hF.ev rfl)) (fun w_ hB_ => stpLoad_c (fun j u hu => (hS.ext hB_).box7 (i := 1) rfl j u hu) ((hS.ext hB_).own_rd (i := 2) rfl)) ?_; clear hF a; intro a hF
    refine wq_mvs (A := [_]) hF rfl ?_; clear hF a; intro a hF
    refine wpQuiet_nil ?_; intro w2 hB_; replace hS := hS.ext hB_; clear hB_
    refine hK3 _ _ ?_
    refine ws fun K4 hK4 => ?_
    refine wl_mvs (A := [_]) hF rfl ?_; clear hF a; intro a hF
    refine wl hF rfl rfl rfl (r_neq (hF.ev rfl) ec) ?_; clear hF a; intro a hF
    refine wl_nil (hK4 _ _ ?_)
    refine wc_fx (t := 30) hF rfl ?_ ?_ <;> clear hF <;> intro c30 hF <;> try simp only [zb1, zb2, zb3, zb4, zb5, zb6, zb7, zb8] at c30
    ·
      obtain ⟨A0_, A1_, A2_, A3_, A4_, k0_, k1_, k2_, k3_, k4_, ⟨n0_, n1_, n2_, n3_, n4_⟩, ⟨q0_, q1_, q2_, q3_, q4_⟩, hS_⟩ := Sep.thr_lend (t := t) (Sep.headp (A := [_, _, _, _, _]) (B := [_, _, _, _, _]) hS [4, 0, 1, 2, 3] (by decide) rfl rfl) hp; replace hS := hS_; clear hS_; unfold maxLen at n0_ n1_ n2_ n3_ n4_; try dsimp only at n0_ n1_ n2_ n3_ n4_ q0_ q1_ q2_ q3_ q4_
      dsimp only [Thread.encv] at hS
      refine wp_region_lit ?_
      refine wl_mvs (A := [_, _]) hF rfl ?_; clear hF a; intro a hF
      refine wl hF rfl rfl rfl (r_nilCheck (hF.ev rfl)) ?_; clear hF a; intro a hF
      refine wl hF rfl rfl rfl (r_field fo53_11 (hF.ev rfl)) ?_; clear hF a; intro a hF
      refine wl hF rfl rfl rfl (r_load1 sc24 (hF.ev rfl) (hS.but1 (q := 5) (j := 14) rfl rfl)) ?_; clear hF a; intro a hF
      refine wl_mvs (A := [_]) hF rfl ?_; clear hF a; intro a hF
      refine wl_bslice intEK [vi (scanN s t)] [scanN s t] rfl hF hS rfl mk24 rfl ⟨rfl, (hF.ev rfl), trivial⟩ rfl rfl rfl rfl ?_; clear hF a; intro gl_37 w3 a hS_ hF; replace hS := hS_; clear hS_
      refine wl_append (q := 1) hF hS rfl rfl (hS.own_rd (i := 0) rfl) mk24 rfl (hF.ev rfl) (hF.ev rfl) (by simp; omega) (by unfold maxLen; simp; omega) ?_; clear hF a; intro A_38 c_38 w4 a hS_ hF; replace hS := hS_; clear hS_; dsimp only [List.set, List.length_cons, List.length_nil] at hS hF
      refine wl hF rfl rfl rfl (r_nilCheck (hF.ev rfl)) ?_; clear hF a; intro a hF
      refine wl hF rfl rfl rfl (r_field fo53_11 (hF.ev rfl)) ?_; clear hF a; intro a hF
      refine wl_bstore (q := 6) (j := 14) hF hS rfl sz24 (hF.ev rfl) rfl (hF.ev rfl) rfl rfl ?_; intro w5 hS_; replace hS := hS_; clear hS_; dsimp only [List.set] at hS
      refine wl_nil ?_
      try simp only [Exit.then, Exit.inBlock, ↓reduceIte]
      have e0 : (foundN t (scanN s t)) = t.found ++ [scanN s t] := if_neg c30
      replace hS := Sep.thr_back (t' := { t with found := t.found ++ [scanN s t] }) (y0 := (_, _, _)) (y1 := (_, _, _)) (y2 := (_, _, _)) (y3 := (_, _, _)) (y4 := (_, _, _)) (Sep.headp (A := [_, _, _, _, _, _, _, _, _, _, _]) (B := [_, _, _, _, _, _, _, _, _, _, _]) hS [1, 2, 3, 4, 5, 6, 0, 7, 8, 9, 10] (by decide) rfl rfl) rfl
      rw [e0]
      exact ⟨(Sep.headp (A := [_, _, _, _, _, _]) (B := [_, _, _, _, _]) hS [2, 3, 4, 5, 0] (by decide) rfl rfl), ((hF.nil.keepE hF (t := 2) rfl rfl).keepE hF (t := 1) rfl rfl)⟩
    refine wp_skip ?_
    try simp only [Exit.then, Exit.inBlock, ↓reduceIte]
    have e0 : (foundN t (scanN s t)) = t.found := if_pos c30
    rw [e0]
    exact ⟨hS, ((hF.nil.keepE hF (t := 2) rfl rfl).keepE hF (t := 1) rfl rfl)⟩
  clear hF hS a; rintro a w6 ⟨hS, hF⟩
  refine wp_seq_k fun K5 hK5 => ?_
  refine ws fun K6 hK6 => ?_
  refine wl_mvs (A := [_]) hF rfl ?_; clear hF a; intro a hF
  refine wl hF rfl rfl rfl (r_nilCheck (hF.ev rfl)) ?_; clear hF a; intro a hF
  refine wl hF rfl rfl rfl (r_field fo53_10 (hF.ev rfl)) ?_; clear hF a; intro a hF
  refine wl hF rfl rfl rfl (r_load1 sc3 (hF.ev rfl) (hS.elt1 (q := 4) (j := 13) hp rfl (fun _ => rfl))) ?_; clear hF a; intro a hF
  refine wl hF rfl rfl rfl (r_add (hF.ev rfl) ec) ?_; clear hF a; intro a hF
  refine wl hF rfl rfl rfl (r_nilCheck (hF.ev rfl)) ?_; clear hF a; intro a hF
  refine wl hF rfl rfl rfl (r_field fo53_10 (hF.ev rfl)) ?_; clear hF a; intro a hF
  refine wl_estore (q := 4) (j := 13) (⟨_, ⟨_, _, _⟩, ⟨_, _⟩, _, _, _, _, _, _, _, _, _, _, _, _, _⟩ : Sl.Thread) hF hS hp rfl sz3 (hF.ev rfl) rfl (hF.ev rfl) rfl (fun _ => rfl) (fun _ => by dsimp only [threadEK, Thread.encv, List.set] <;> rfl) (by intro _; rfl) ?_; intro w7 hS_; replace hS := hS_; clear hS_; dsimp only [List.set] at hS
  refine wl_nil (hK6 _ _ ?_)
  refine wp_seq_k fun K7 hK7 => ?_
  refine wp_region_calm (by kernel_rfl) (by kernel_rfl) ?_
  refine wq_mvs (A := [_]) hF rfl ?_; clear hF a; intro a hF
  refine wq hF rfl rfl rfl (fun w_ hB_ => r_nilCheck (hF.ev rfl)) ?_; clear hF a; intro a hF
  refine wq hF rfl rfl rfl (fun w_ hB_ => r_field fo53_10 (hF.ev rfl)) ?_; clear hF a; intro a hF
  refine wq hF rfl rfl rfl (fun w_ hB_ => r_load1 sc3 (hF.ev rfl) ((hS.ext hB_).elt1 (q := 4) (j := 13) hp rfl (fun _ => rfl))) ?_; clear hF a; intro a hF
  refine wq hF rfl rfl rfl (fun w_ hB_ => r_field fo63_0 (hF.ev rfl)) ?_; clear hF a; intro a hF
  refine wq hF rfl rfl rfl (fun w_ hB_ => r_load1 sc55 (hF.ev rfl) ((hS.ext hB_).box (i := 0) rfl rfl)) ?_; clear hF a; intro a hF
  refine wq hF rfl rfl rfl (fun w_ hB_ => r_nilCheck (hF.ev rfl)) ?_; clear hF a; intro a hF
  refine wq hF rfl rfl rfl (fun w_ hB_ => r_field fo32_0 (hF.ev rfl)) ?_; clear hF a; intro a hF
  refine wq hF rfl rfl rfl (fun w_ hB_ => r_field fo29_0 (hF.ev rfl)) ?_; clear hF a; intro a hF
  refine wq hF rfl rfl rfl (fun w_ hB_ => r_load1 sc3 (hF.ev rfl) ((hS.ext hB_).box (i := 1) rfl rfl)) ?_; clear hF a; intro a hF
  refine wq hF rfl rfl rfl (fun w_ hB_ => r_mul ec (hF.ev rfl)) ?_; clear hF a; intro a hF
  refine wq hF rfl rfl rfl (fun w_ hB_ => r_lss (hF.ev rfl) (hF.ev rfl)) ?_; clear hF a; intro a hF
  refine wpQuiet_nil ?_; intro w8 hB_; replace hS := hS.ext hB_; clear hB_
  refine hK7 _ _ ?_
  refine wc_fx (t := 59) hF rfl ?_ ?_ <;> clear hF <;> intro c59 hF <;> try simp only [zb1, zb2, zb3, zb4, zb5, zb6, zb7, zb8] at c59
  ·
    refine wp_ret ?_
    try simp only [Exit.then, Exit.inBlock, ↓reduceIte]
    refine ret0 rfl hF ⟨rfl, ?_⟩
    unfold reclaimS
    rw [if_pos c59]
    exact (Sep.headp (A := [_, _, _, _, _]) (B := [_, _, _, _]) hS [1, 2, 3, 4] (by decide) rfl rfl)
  obtain ⟨A0_, A1_, A2_, A3_, A4_, k0_, k1_, k2_, k3_, k4_, ⟨n0_, n1_, n2_, n3_, n4_⟩, ⟨q0_, q1_, q2_, q3_, q4_⟩, hS_⟩ := Sep.thr_lend (t := { t with found := (foundN t (scanN s t)), at_ := IntKind.i64.wrap (t.at_ + 1) }) (Sep.headp (A := [_, _, _, _, _]) (B := [_, _, _, _, _]) hS [4, 0, 1, 2, 3] (by decide) rfl rfl) hp; replace hS := hS_; clear hS_; unfold maxLen at n0_ n1_ n2_ n3_ n4_; try dsimp only at n0_ n1_ n2_ n3_ n4_ q0_ q1_ q2_ q3_ q4_
  dsimp only [Thread.encv] at hS
  have hgl0 := hf.lg
  refine wp_skip ?_
  refine hK5 _ _ ?_
  refine wp_seq_k fun K8 hK8 => ?_
  refine wp_region_todo (is := [0, 1, 2, 3, 4, 5, 6, 7, 8, 9, 10, 11, 12, 13]) [] [] (by kernel_rfl) hF hS ⟨trivial, by decide, by decide, by decide⟩ (by kernel_rfl) ?_; clear hF; intro hl_ wd hSd
  refine todo_pure hl_ (by kernel_rfl) rfl (gw0 rfl) rfl rfl rfl (fun a w_ hF => r_move (hF.ev rfl)) ?_
  refine todo_pure hl_ (by kernel_rfl) rfl (gw0 rfl) rfl rfl rfl (fun a w_ hF => r_nilCheck (hF.ev rfl)) ?_
  refine todo_pure hl_ (by kernel_rfl) rfl (gw0 rfl) rfl rfl rfl (fun a w_ hF => r_field fo53_15 (hF.ev rfl)) ?_
  refine todo_load [8, 9, 10, 11, 12, 13] hl_ (by kernel_rfl) rfl (gw0 rfl) rfl rfl rfl (fun a w_ hF hB_ => r_load1 sc24 (hF.ev rfl) ((hSd.ext hB_).but1 (q := 5) (j := 18) rfl rfl)) ?_
  refine todo_pure hl_ (by kernel_rfl) rfl (gw0 rfl) rfl rfl rfl (fun a w_ hF => r_move (hF.ev rfl)) ?_
  refine todo_pure hl_ (by kernel_rfl) rfl (gw0 rfl) rfl rfl rfl (fun a w_ hF => r_nilCheck (hF.ev rfl)) ?_
  refine todo_pure hl_ (by kernel_rfl) rfl (gw0 rfl) rfl rfl rfl (fun a w_ hF => r_field fo53_11 (hF.ev rfl)) ?_
  refine todo_load [8, 9, 10, 11, 12, 13] hl_ (by kernel_rfl) rfl (gw0 rfl) rfl rfl rfl (fun a w_ hF hB_ => r_load1 sc24 (hF.ev rfl) ((hSd.ext hB_).but1 (q := 5) (j := 14) rfl rfl)) ?_
  refine todo_mk hl_ rfl (by kernel_rfl) rfl rfl rfl rfl rfl (fun a w_ hF => r_call2 en106 (hF.ev rfl) (hF.ev rfl)) (fun w_ hS => implSplit_c (hS.own_rd (i := 4) rfl) (hS.own_rd (i := 0) rfl) (by omega)) ?_; rintro ⟨p69, q69⟩
  refine todo_pure hl_ (by kernel_rfl) rfl (gw0 rfl) rfl rfl rfl (fun a w_ hF => r_move (hF.ev rfl)) ?_
  refine todo_pure hl_ (by kernel_rfl) rfl (gw0 rfl) rfl rfl rfl (fun a w_ hF => r_extract (hF.ev rfl) rfl) ?_
  refine todo_pure hl_ (by kernel_rfl) rfl (gw0 rfl) rfl rfl rfl (fun a w_ hF => r_extract (hF.ev rfl) rfl) ?_
  refine todo_pure hl_ (by kernel_rfl) rfl (gw0 rfl) rfl rfl rfl (fun a w_ hF => r_assign (hF.ev rfl)) ?_
  refine todo_pure hl_ (by kernel_rfl) rfl (gw0 rfl) rfl rfl rfl (fun a w_ hF => r_assign (hF.ev rfl)) ?_
  refine todo_fin hl_ rfl (by kernel_rfl) (tl := []) rfl ?_; clear hS a; intro a w9 hF hA_
  have hS := hA_.sep; clear hA_
  clear hl_; try clear hSd
  try dsimp only [List.cons_append, List.nil_append, List.set] at hS
  try clear wd
  refine wl_nil ⟨rfl, ?_⟩
  refine hK8 _ _ ?_
  refine ws fun K9 hK9 => ?_
  refine wl hF rfl rfl rfl (r_move (hF.ev rfl)) ?_; clear hF a; intro a hF
  obtain ⟨⟨Ap, np, cp⟩, rfl⟩ := hS.own_sv (q := 0) rfl; obtain rfl : np = _ := hS.own_len (q := 0) (s := (Ap, np, cp)) rfl
  obtain ⟨⟨Aq, nq, cq⟩, rfl⟩ := hS.own_sv (q := 1) rfl; obtain rfl : nq = _ := hS.own_len (q := 1) (s := (Aq, nq, cq)) rfl
  have hq1 := out_le' t.limbo (foundN t (scanN s t))
  replace hS : Sep W (Own intEK (.slice Ap _ cp) _ :: Own intEK (.slice Aq _ cq) _ :: _) _ := hS
  try dsimp only at hF
  refine wl_mvs (A := [_]) hF rfl ?_; clear hF a; intro a hF
  refine wl hF rfl rfl rfl (r_nilCheck (hF.ev rfl)) ?_; clear hF a; intro a hF
  refine wl hF rfl rfl rfl (r_field fo53_15 (hF.ev rfl)) ?_; clear hF a; intro a hF
  refine wl_bstore (q := 7) (j := 18) hF hS rfl sz24 (hF.ev rfl) rfl (hF.ev rfl) rfl rfl ?_; intro w10 hS_; replace hS := hS_; clear hS_; dsimp only [List.set] at hS
  refine wl_nil (hK9 _ _ ?_)
  refine wp_seq_k fun K10 hK10 => ?_
  refine ws fun K11 hK11 => ?_
  refine wl_mvs (A := [_]) hF rfl ?_; clear hF a; intro a hF
  refine wl hF rfl rfl rfl (r_len ul24 (hF.ev rfl)) ?_; clear hF a; intro a hF
  refine wl_mvs (A := [_]) hF rfl ?_; clear hF a; intro a hF
  refine wl_nil (hK11 _ _ ?_)
  refine wp_block ?_
  replace hS := hS.pull (p := 7) rfl; dsimp only [List.eraseIdx] at hS
  replace hS := hS.pull (p := 11) rfl; dsimp only [List.eraseIdx] at hS
  replace hS := hS.pull (p := 5) rfl; dsimp only [List.eraseIdx] at hS
  have hL_ := ((((hF.nil.keep hF (t := 77) rfl).keep hF (t := 76) rfl).keep hF (t := 2) rfl).keep hF (t := 1) rfl)
  refine wp_loop_m (σ := Nat × Slv) (fun z L_ => (78, vi z.1) :: L_) (fun z l_ => (Own intEK (sv z.2) (freeAll s.generations t.free ((splitOut t.limbo (foundN t (scanN s t))).take z.1)).2) :: (Own intEK (sv z1) (freeAll s.generations t.free ((splitOut t.limbo (foundN t (scanN s t))).take z.1)).1) :: (OwnBut threadEK (.slice (some ⟨gt, ot, none⟩) mt ct) (s.threads.set p ({ t with found := (foundN t (scanN s t)), at_ := IntKind.i64.wrap (t.at_ + 1) })) p (Thread.encv ({ t with found := (foundN t (scanN s t)), at_ := IntKind.i64.wrap (t.at_ + 1) }) (.slice A0_ (foundN t (scanN s t)).length k0_) (sv z.2) (.slice A2_ t.buffer.length k2_) (.slice A3_ t.work.length k3_) (.slice Ap (splitIn t.limbo (foundN t (scanN s t))).length cp))) :: l_) (fun z => (z.1 ≤ (splitOut t.limbo (foundN t (scanN s t))).length)) (fun z => (splitOut t.limbo (foundN t (scanN s t))).length - z.1) (0, (A1_, t.free.length, k1_)) (hS) (hL_.keepE hF (t := 78) rfl rfl) ?_ ?_
  · exact Nat.zero_le _
  clear hF hS hL_ a
  rintro ⟨k, Af, nf, cf⟩ a w11 hk hS hF; try dsimp only at hF; try dsimp only at hS; try dsimp only at hk
  obtain rfl : nf = _ := hS.own_len (q := 0) (s := (Af, nf, cf)) rfl
  replace hS : Sep W (Own intEK (.slice Af _ cf) _ :: _) _ := hS
  refine ws fun K12 hK12 => ?_
  refine wl hF rfl rfl rfl (r_lss (hF.ev rfl) (hF.ev rfl)) ?_; clear hF a; intro a hF
  refine wl_nil (hK12 _ _ ?_)
  refine wp_seq_k fun K13 hK13 => ?_
  refine wc_fx (t := 79) hF rfl ?_ ?_ <;> clear hF <;> intro c79 hF <;> try simp only [zb1, zb2, zb3, zb4, zb5, zb6, zb7, zb8] at c79
  ·
    have hlt : k < (splitOut t.limbo (foundN t (scanN s t))).length := by omega
    have hx := at0_nat hlt
    have hm_ : at0 (splitOut t.limbo (foundN t (scanN s t))) (k : Int) ∈ splitOut t.limbo (foundN t (scanN s t)) := at0_mem (by omega) (by omega)
    obtain ⟨hh1, hi0, hi1⟩ := hf.nodes hm_
    have hgl := freeAll_len (gs := s.generations) (fr := t.free) (hs := (splitOut t.limbo (foundN t (scanN s t))).take k)
    refine wp_skip ?_
    refine hK13 _ _ ?_
    refine wp_seq_k fun K14 hK14 => ?_
    refine wp_block ?_
    refine ws fun K15 hK15 => ?_
    obtain ⟨g80, o80, m80, q80, hv80, hm80, hl80, hc80⟩ := Rd.atF ((hS.own_rd (i := 4) rfl)) (a := a) (X := .tmp 78) (hF.ev rfl) (by omega) (by omega)
    refine wl hF rfl rfl rfl (r_index sl24 ((hF.ev rfl).trans hv80) (hF.ev rfl) (by omega) (by first | omega | (simp at hm80; omega))) ?_; clear hF a; intro a hF
    refine wl hF rfl rfl rfl (r_load1 sc3 (hF.ev rfl) (hc80 0 _ rfl)) ?_; clear hF a; intro a hF
    refine wl_mvs (A := [_]) hF rfl ?_; clear hF a; intro a hF
    refine wl_nil (hK15 _ _ ?_)
    refine ws fun K16 hK16 => ?_
    refine wl_mvs (A := [_]) hF rfl ?_; clear hF a; intro a hF
    refine wl_call hF rfl rfl rfl (r_call1 en107 (hF.ev rfl)) (implIndexOf_c hh1) ?_; clear hF a; rintro v w12 a ⟨rfl, hB_⟩ hF; replace hS := hS.ext hB_; clear hB_
    refine wl_mvs (A := [_]) hF rfl ?_; clear hF a; intro a hF
    refine wl_nil (hK16 _ _ ?_)
    refine ws fun K17 hK17 => ?_
    refine wl hF rfl rfl rfl (r_field fo63_0 (hF.ev rfl)) ?_; clear hF a; intro a hF
    refine wl hF rfl rfl rfl (r_load1 sc55 (hF.ev rfl) (hS.box (i := 9) rfl rfl)) ?_; clear hF a; intro a hF
    refine wl hF rfl rfl rfl (r_nilCheck (hF.ev rfl)) ?_; clear hF a; intro a hF
    refine wl hF rfl rfl rfl (r_field fo32_2 (hF.ev rfl)) ?_; clear hF a; intro a hF
    refine wl hF rfl rfl rfl (r_load1 sc24 (hF.ev rfl) (hS.box (i := 10) rfl rfl)) ?_; clear hF a; intro a hF
    refine wl_mvs (A := [_]) hF rfl ?_; clear hF a; intro a hF
    obtain ⟨g90, o90, m90, q90, hv90, hm90, hl90, hc90⟩ := Rd.atF ((hS.own_rd (i := 1) rfl)) (a := a) (X := .tmp 89) (hF.ev rfl) (by omega) (by omega)
    refine wl hF rfl rfl rfl (r_index sl24 ((hF.ev rfl).trans hv90) (hF.ev rfl) (by omega) (by first | omega | (simp at hm90; omega))) ?_; clear hF a; intro a hF
    refine wl hF rfl rfl rfl (r_load1 sc3 (hF.ev rfl) (hc90 0 _ rfl)) ?_; clear hF a; intro a hF
    refine wl hF rfl rfl rfl (r_lss (hF.ev rfl) ec) ?_; clear hF a; intro a hF
    refine wl_mvs (A := [_]) hF rfl ?_; clear hF a; intro a hF
    apply wl_and (A := [_, _, _, _, _, _, _]) (pk := 100) hF hS (tc := 93) rfl
    ·
      intro hg93 a hF; try simp only [zb1, zb2, zb3, zb4, zb5, zb6, zb7, zb8] at hg93
      refine wl_mvs (A := [_]) hF rfl ?_; clear hF a; intro a hF
      refine wl_take hF rfl rfl rfl rfl ?_
      refine wl hF rfl rfl rfl (r_nilCheck (hF.ev rfl)) ?_; clear hF a; intro a hF
      refine wl_take hF rfl rfl rfl rfl ?_
      refine wl hF rfl rfl rfl (r_field fo53_12 (hF.ev rfl)) ?_; clear hF a; intro a hF
      refine wl_take hF rfl rfl rfl rfl ?_
      refine wl hF rfl rfl rfl (r_load1 sc24 (hF.ev rfl) (hS.but1 (q := 2) (j := 15) rfl rfl)) ?_; clear hF a; intro a hF
      refine wl_take hF rfl rfl rfl rfl ?_
      refine wl hF rfl rfl rfl (r_len ul24 (hF.ev rfl)) ?_; clear hF a; intro a hF
      refine wl_take hF rfl rfl rfl rfl ?_
      refine wl hF rfl rfl rfl (r_lss (hF.ev rfl) ec) ?_; clear hF a; intro a hF
      refine wl hF rfl rfl rfl (r_pick_t (hF.ev rfl) (hF.ev rfl)) ?_; clear hF a; intro a hF
      exact wl_nil ⟨rfl, (Fr.pre (A := [_, _, _, _, _, _, _]) hF rfl).keep hF (t := 100) rfl, hS⟩
    ·
      intro hg93 a hF; try simp only [zb1, zb2, zb3, zb4, zb5, zb6, zb7, zb8] at hg93
      refine wl_mvs (A := [_, _, _, _, _, _]) hF rfl ?_; clear hF a; intro a hF
      refine wl hF rfl rfl rfl (r_pick_f (hF.ev rfl) ec) ?_; clear hF a; intro a hF
      exact wl_nil ⟨rfl, (Fr.pre (A := [_, _, _, _, _, _, _]) hF rfl).keep hF (t := 100) rfl, hS⟩
    clear hF a hS; intro a w13 hF hS
    refine wl_nil (hK17 _ _ ?_)
    refine wc_fx (t := 100) hF rfl ?_ ?_ <;> clear hF <;> intro c100 hF <;> try simp only [zb1, zb2, zb3, zb4, zb5, zb6, zb7, zb8] at c100
    ·
      refine ws fun K18 hK18 => ?_
      refine wl hF rfl rfl rfl (r_field fo63_0 (hF.ev rfl)) ?_; clear hF a; intro a hF
      refine wl hF rfl rfl rfl (r_load1 sc55 (hF.ev rfl) (hS.box (i := 9) rfl rfl)) ?_; clear hF a; intro a hF
      refine wl hF rfl rfl rfl (r_nilCheck (hF.ev rfl)) ?_; clear hF a; intro a hF
      refine wl hF rfl rfl rfl (r_field fo32_2 (hF.ev rfl)) ?_; clear hF a; intro a hF
      refine wl hF rfl rfl rfl (r_load1 sc24 (hF.ev rfl) (hS.box (i := 10) rfl rfl)) ?_; clear hF a; intro a hF
      refine wl_mvs (A := [_]) hF rfl ?_; clear hF a; intro a hF
      obtain ⟨g107, o107, m107, q107, hv107, hm107, hl107, hc107⟩ := Rd.atF ((hS.own_rd (i := 1) rfl)) (a := a) (X := .tmp 106) (hF.ev rfl) (by omega) (by omega)
      refine wl hF rfl rfl rfl (r_index sl24 ((hF.ev rfl).trans hv107) (hF.ev rfl) (by omega) (by first | omega | (simp at hm107; omega))) ?_; clear hF a; intro a hF
      refine wl hF rfl rfl rfl (r_load1 sc3 (hF.ev rfl) (hc107 0 _ rfl)) ?_; clear hF a; intro a hF
      refine wl hF rfl rfl rfl (r_add (hF.ev rfl) ec) ?_; clear hF a; intro a hF
      obtain ⟨g110, o110, m110, q110, hv110, hm110, hl110, hc110⟩ := Rd.atF ((hS.own_rd (i := 1) rfl)) (a := a) (X := .tmp 106) (hF.ev rfl) (by omega) (by omega)
      refine wl hF rfl rfl rfl (r_index sl24 ((hF.ev rfl).trans hv110) (hF.ev rfl) (by omega) (by first | omega | (simp at hm110; omega))) ?_; clear hF a; intro a hF
      refine wl_istore (q := 1) hF hS rfl hv110 (by omega) (by omega) sz3 (hF.ev rfl) rfl (hF.ev rfl) ?_; intro w14 hS_; replace hS := hS_; clear hS_; dsimp only [List.set] at hS
      refine wl_nil (hK18 _ _ ?_)
      refine wp_region_lit ?_
      refine wl_mvs (A := [_, _]) hF rfl ?_; clear hF a; intro a hF
      refine wl hF rfl rfl rfl (r_nilCheck (hF.ev rfl)) ?_; clear hF a; intro a hF
      refine wl hF rfl rfl rfl (r_field fo53_12 (hF.ev rfl)) ?_; clear hF a; intro a hF
      refine wl hF rfl rfl rfl (r_load1 sc24 (hF.ev rfl) (hS.but1 (q := 2) (j := 15) rfl rfl)) ?_; clear hF a; intro a hF
      refine wl_mvs (A := [_]) hF rfl ?_; clear hF a; intro a hF
      refine wl_bslice intEK [vi (indexOf (at0 (splitOut t.limbo (foundN t (scanN s t))) (k : Int)))] [indexOf (at0 (splitOut t.limbo (foundN t (scanN s t))) (k : Int))] rfl hF hS rfl mk24 rfl ⟨rfl, (hF.ev rfl), trivial⟩ rfl rfl rfl rfl ?_; clear hF a; intro gl_117 w15 a hS_ hF; replace hS := hS_; clear hS_
      refine wl_append (q := 1) hF hS rfl rfl (hS.own_rd (i := 0) rfl) mk24 rfl (hF.ev rfl) (hF.ev rfl) (by simp; omega) (by unfold maxLen; simp; omega) ?_; clear hF a; intro A_118 c_118 w16 a hS_ hF; replace hS := hS_; clear hS_; dsimp only [List.set, List.length_cons, List.length_nil] at hS hF
      refine wl hF rfl rfl rfl (r_nilCheck (hF.ev rfl)) ?_; clear hF a; intro a hF
      refine wl hF rfl rfl rfl (r_field fo53_12 (hF.ev rfl)) ?_; clear hF a; intro a hF
      refine wl_bstore (q := 3) (j := 15) hF hS rfl sz24 (hF.ev rfl) rfl (hF.ev rfl) rfl rfl ?_; intro w17 hS_; replace hS := hS_; clear hS_; dsimp only [List.set] at hS
      refine wl_nil ?_
      simp only [Exit.then, Exit.inBlock, ↓reduceIte]
      refine hK14 _ _ ?_
      refine wp_region_lit ?_
      refine wl hF rfl rfl rfl (r_add (hF.ev rfl) ec) ?_; clear hF a; intro a hF
      refine wl_mvs (A := [_]) hF rfl ?_; clear hF a; intro a hF
      refine wl_nil ?_
      try simp only [Exit.then, Exit.inBlock, ↓reduceIte]
      have e_ := freeAll_yes (gs := s.generations) (fr := t.free) hx c100; have e1 := congrArg Prod.fst e_; have e2 := congrArg Prod.snd e_; dsimp only at e1 e2; rw [← e1, ← e2] at hS
      refine ⟨(k + 1, (_, _, _)), (by dsimp only; omega), (Sep.headp (A := [_, _, _, _, _, _, _, _, _, _, _, _, _]) (B := [_, _, _, _, _, _, _, _, _, _, _, _]) hS [1, 2, 3, 4, 5, 6, 7, 8, 9, 10, 11, 12] (by decide) rfl rfl), (((((hF.nil.keep hF (t := 77) rfl).keep hF (t := 76) rfl).keep hF (t := 2) rfl).keep hF (t := 1) rfl).keepE hF (t := 78) rfl (wk (by omega))), by dsimp only; omega⟩
    refine wp_skip ?_
    simp only [Exit.then, Exit.inBlock, ↓reduceIte]
    refine hK14 _ _ ?_
    refine wp_region_lit ?_
    refine wl hF rfl rfl rfl (r_add (hF.ev rfl) ec) ?_; clear hF a; intro a hF
    refine wl_mvs (A := [_]) hF rfl ?_; clear hF a; intro a hF
    refine wl_nil ?_
    try simp only [Exit.then, Exit.inBlock, ↓reduceIte]
    have e_ := freeAll_no (gs := s.generations) (fr := t.free) hx (by omega); rw [← e_] at hS
    refine ⟨(k + 1, (_, _, _)), (by dsimp only; omega), hS, (((((hF.nil.keep hF (t := 77) rfl).keep hF (t := 76) rfl).keep hF (t := 2) rfl).keep hF (t := 1) rfl).keepE hF (t := 78) rfl (wk (by omega))), by dsimp only; omega⟩
  obtain rfl : k = (splitOut t.limbo (foundN t (scanN s t))).length := by omega
  rw [List.take_length] at hS
  replace hS := Sep.thr_back (t' := { t with found := (foundN t (scanN s t)), at_ := IntKind.i64.wrap (t.at_ + 1), limbo := splitIn t.limbo (foundN t (scanN s t)), free := (freeAll s.generations t.free (splitOut t.limbo (foundN t (scanN s t)))).2 }) (y0 := (_, _, _)) (y1 := (_, _, _)) (y2 := (_, _, _)) (y3 := (_, _, _)) (y4 := (_, _, _)) (Sep.headp (A := [_, _, _, _, _, _, _, _, _, _, _, _]) (B := [_, _, _, _, _, _, _, _, _, _, _, _]) hS [5, 0, 6, 7, 3, 2, 1, 4, 8, 9, 10, 11] (by decide) rfl rfl) rfl
  refine wp_exit ?_
  simp only [Exit.then, Exit.inBlock, ↓reduceIte]
  refine hK10 _ _ ?_
  refine wp_region_lit ?_
  refine wl_mvs (A := [_]) hF rfl ?_; clear hF a; intro a hF
  refine wl hF rfl rfl rfl (r_build (bd50) trivial) ?_; clear hF a; intro a hF
  refine wl_call hF rfl rfl rfl (r_call2 en83 (hF.ev rfl) (hF.ev rfl)) (thEnd_c (r := ⟨0, 0⟩) hp hS) ?_; clear hF a; rintro v w18 a ⟨rfl, hS_⟩ hF; replace hS := hS_; clear hS_
  refine wl_nil ?_
  try simp only [Exit.then, Exit.inBlock, ↓reduceIte]
  refine ret0n rfl hF ⟨rfl, ?_⟩
  unfold reclaimS
  rw [if_neg c59]
  exact (Sep.headp (A := [_, _, _, _, _, _, _]) (B := [_, _, _, _]) hS [5, 6, 1, 0] (by decide) rfl rfl)
set_option maxHeartbeats 4000000 in
set_option maxRecDepth 20000 in
theorem implStepReclaim_c {W : World} {s : Sl.State} {cs : List Value} {p : Int} (hm : stateEK.K W s cs) (hw : s.wf) (hz : (s.size : Int) ≤ 1048576) (hp0 : int64 p) : Calls Tryz.prog 21 #[.agg cs.toArray, vi p] W (Ret (Mk W (fun vs => .tuple #[.agg (stateEK.cells (stepOf isC reclaimS s p).1 vs).toArray, .bool (stepOf isC reclaimS s p).2]) (fun vs => [Part stateEK (stepOf isC reclaimS s p).1 vs]))) := by
  refine calls_fr Tryz.func21 rfl Tryz.ntmps21 rfl ?_
  intro a hF
  have hS := Sep.refl W
  obtain ⟨v0, v1, v2, rfl, r0, r1, r2⟩ := hm
  have hm : stateEK.K W s (s.encv v0 v1 v2) := ⟨_, _, _, rfl, r0, r1, r2⟩
  obtain ⟨A_a, q_a, rfl, hq_a, hn_a⟩ := r0.sl; unfold maxLen at hn_a
  obtain ⟨A_b, q_b, rfl, hq_b, hn_b⟩ := r1.sl; unfold maxLen at hn_b
  obtain ⟨A_c, q_c, rfl, hq_c, hn_c⟩ := r2.sl; unfold maxLen at hn_c
  refine ws fun K1 hK1 => ?_
  refine wl_box (cs := [_, _, _, _, _, _, _, _, _, _, _, _, _]) hF hS rfl (hF.ev rfl) rfl ?_; clear hF a; intro g1 w1 a hS_ hB_ hF; replace hS := hS_; clear hS_ hB_
  refine wl_alloc hF hS rfl zr32 ?_; clear hF a; intro g2 w2 a hS_ hB_ hF; replace hS := hS_; clear hS_ hB_
  refine wl_mvs (A := [_]) hF rfl ?_; clear hF a; intro a hF
  refine wl_nil (hK1 _ _ ?_)
  refine ws fun K2 hK2 => ?_
  refine wl hF rfl rfl rfl (r_loadn ag32 (hF.ev rfl) (hS.box_rd (i := 1) rfl) sz32) ?_; clear hF a; intro a hF
  refine wl_mvs (A := [_]) hF rfl ?_; clear hF a; intro a hF
  refine wl_mk hF hS rfl rfl rfl (r_call4 en38 (hF.ev rfl) (hF.ev rfl) ef ef) (stepIf_c (isf := isC) (stf := stepBy reclaimS) (hS.k hm) hw hz hp0 (by kernel_rfl) (by kernel_rfl) (fun w_ n hB_ => by rw [app_0]; exact reclaim1_c) (fun p' z0 z1 gt ot mt ct g l w_ hso hpe hp hmt hpc hS_ => by subst hpe; rw [app_0]; exact stpReclaim_c hp (Fit.of hso hw hp) hS_)) ?_; clear hF a; rintro vs8 w3 a hS_ hF; replace hS := hS_; clear hS_; dsimp only [List.cons_append, List.nil_append] at hS
  refine wl hF rfl rfl rfl (r_extract (hF.ev rfl) rfl) ?_; clear hF a; intro a hF
  refine wl hF rfl rfl rfl (r_extract (hF.ev rfl) rfl) ?_; clear hF a; intro a hF
  refine wl_storew hF hS (i := 1) rfl (hF.ev rfl) (hF.ev rfl) sz32 rfl rfl ?_; intro w4 hS_; replace hS := hS_; clear hS_; dsimp only [List.set, Nat.reduceAdd] at hS
  refine wl_mvs (A := [_]) hF rfl ?_; clear hF a; intro a hF
  refine wl_nil (hK2 _ _ ?_)
  refine wp_ret ?_
  try simp only [Exit.then, Exit.inBlock, ↓reduceIte]
  refine ret2c rfl ag32 hF hS (i := 1) rfl sz32 rfl rfl ⟨vs8, ?_, ?_⟩
  · rw [← stepI_of reclaim_steps] <;> rfl
  · rw [← stepI_of reclaim_steps]; exact hS.pick [0] (by decide) rfl
end Go.Proofs.YtifhfodphoeeoaaGreat.Wk
namespace Go.Proofs.YtifhfodphoeeoaaGreat.Wk
open Go Go.RowKit Sl
set_option linter.unusedVariables false
set_option linter.unusedSimpArgs false
set_option maxRecDepth 20000
def _root_.Go.Proofs.YtifhfodphoeeoaaGreat.Sl.Entry.cnt (x : Sl.Entry) : Nat := 4
def _root_.Go.Proofs.YtifhfodphoeeoaaGreat.Sl.Entry.mark (k : Int) (x : Sl.Entry) : Sl.Entry := ⟨k, k + 1, k + 1 + 1, k + 1 + 1 + 1⟩
def _root_.Go.Proofs.YtifhfodphoeeoaaGreat.Sl.Thread.cnt (x : Sl.Thread) : Nat := 14 + x.found.length + x.free.length + (crow Sl.Entry.cnt x.buffer) + (crow Sl.Entry.cnt x.work) + x.limbo.length
def _root_.Go.Proofs.YtifhfodphoeeoaaGreat.Sl.Thread.mark (k : Int) (x : Sl.Thread) : Sl.Thread := ⟨k, ⟨k + 1, k + 1 + 1, k + 1 + 1 + 1⟩, ⟨k + 1 + 1 + 1 + 1, k + 1 + 1 + 1 + 1 + 1⟩, k + 1 + 1 + 1 + 1 + 1 + 1, k + 1 + 1 + 1 + 1 + 1 + 1 + 1, k + 1 + 1 + 1 + 1 + 1 + 1 + 1 + 1, k + 1 + 1 + 1 + 1 + 1 + 1 + 1 + 1 + 1, k + 1 + 1 + 1 + 1 + 1 + 1 + 1 + 1 + 1 + 1, k + 1 + 1 + 1 + 1 + 1 + 1 + 1 + 1 + 1 + 1 + 1, k + 1 + 1 + 1 + 1 + 1 + 1 + 1 + 1 + 1 + 1 + 1 + 1, k + 1 + 1 + 1 + 1 + 1 + 1 + 1 + 1 + 1 + 1 + 1 + 1 + 1, marks (k + 1 + 1 + 1 + 1 + 1 + 1 + 1 + 1 + 1 + 1 + 1 + 1 + 1 + 1) x.found.length, marks (k + 1 + 1 + 1 + 1 + 1 + 1 + 1 + 1 + 1 + 1 + 1 + 1 + 1 + 1 + (x.found.length : Nat)) x.free.length, mrow Sl.Entry.mark Sl.Entry.cnt (k + 1 + 1 + 1 + 1 + 1 + 1 + 1 + 1 + 1 + 1 + 1 + 1 + 1 + 1 + (x.found.length : Nat) + (x.free.length : Nat)) x.buffer, mrow Sl.Entry.mark Sl.Entry.cnt (k + 1 + 1 + 1 + 1 + 1 + 1 + 1 + 1 + 1 + 1 + 1 + 1 + 1 + 1 + (x.found.length : Nat) + (x.free.length : Nat) + ((crow Sl.Entry.cnt x.buffer) : Nat)) x.work, marks (k + 1 + 1 + 1 + 1 + 1 + 1 + 1 + 1 + 1 + 1 + 1 + 1 + 1 + 1 + (x.found.length : Nat) + (x.free.length : Nat) + ((crow Sl.Entry.cnt x.buffer) : Nat) + ((crow Sl.Entry.cnt x.work) : Nat)) x.limbo.length⟩
set_option maxHeartbeats 4000000 in
set_option maxRecDepth 20000 in
theorem markEntryS_c {W w : World} {l : List Res} {va : Value} {xs : List Sl.Entry} {k0 : Int} (hS : Sep W (Own entryEK va xs :: l) w) (h0 : 0 ≤ k0) (h1 : k0 + crow Sl.Entry.cnt xs < 9223372036854775807) : Calls Tryz.prog 85 #[va, vi k0] w (Ret fun v w' => v = vi (k0 + crow Sl.Entry.cnt xs) ∧ Sep W (Own entryEK va (mrow Sl.Entry.mark Sl.Entry.cnt k0 xs) :: l) w') := by
  refine calls_fr Tryz.func85 rfl Tryz.ntmps85 rfl ?_
  intro a hF
  obtain ⟨A_a, q_a, rfl, hq_a, hn_a⟩ := (hS.own_rd (i := 0) rfl).sl; unfold maxLen at hn_a
  refine ws fun K1 hK1 => ?_
  refine wl_mvs (A := [_]) hF rfl ?_; clear hF a; intro a hF
  refine wl_nil (hK1 _ _ ?_)
  refine wp_seq_k fun K2 hK2 => ?_
  refine ws fun K3 hK3 => ?_
  refine wl_mvs (A := [_]) hF rfl ?_; clear hF a; intro a hF
  refine wl_nil (hK3 _ _ ?_)
  refine wp_block ?_
  replace hS := hS.pull (p := 0) rfl; dsimp only [List.eraseIdx] at hS
  have hL_ := ((hF.nil.keep hF (t := 4) rfl).keep hF (t := 0) rfl)
  refine wp_loop_m (σ := Nat) (fun k L_ => (5, vi k) :: (1, vi (k0 + (crow Sl.Entry.cnt (List.take k xs) : Int))) :: L_) (fun k l_ => (Own entryEK (.slice A_a xs.length q_a) (mrow Sl.Entry.mark Sl.Entry.cnt k0 (xs.take k) ++ xs.drop k)) :: l_) (fun k => (k ≤ xs.length)) (fun k => xs.length - k) 0 ((by rw [show mrow Sl.Entry.mark Sl.Entry.cnt k0 (xs.take 0) ++ xs.drop 0 = xs from by simp [mrow]]; exact hS)) ((hL_.keepE hF (t := 1) rfl (by simp [crow])).keepE hF (t := 5) rfl rfl) ?_ ?_
  · exact Nat.zero_le _
  clear hF hS hL_ a
  rintro k a w1 hk hS hF; try dsimp only at hF; try dsimp only at hS
  refine wp_seq_k fun K4 hK4 => ?_
  refine ws fun K5 hK5 => ?_
  refine wl_mvs (A := [_, _]) hF rfl ?_; clear hF a; intro a hF
  refine wl hF rfl rfl rfl (r_len ul51 (hF.ev rfl)) ?_; clear hF a; intro a hF
  refine wl hF rfl rfl rfl (r_lss (hF.ev rfl) (hF.ev rfl)) ?_; clear hF a; intro a hF
  refine wl_nil (hK5 _ _ ?_)
  refine wc_fx (t := 9) hF rfl ?_ ?_ <;> clear hF <;> intro c9 hF <;> try simp only [zb1, zb2, zb3, zb4, zb5, zb6, zb7, zb8] at c9
  ·
    have hlt : k < xs.length := by omega
    have hx := at0_nat hlt
    have hc1 := crow_le1 (c := Sl.Entry.cnt) hx
    have hc2 := crow_next (c := Sl.Entry.cnt) hx
    simp only [Sl.Entry.cnt] at hc1 hc2
    obtain ⟨vs, hS_⟩ := hS.borrow (q := 0) rfl (mix_at k0 hx); replace hS := hS_.part_open; clear hS_; dsimp only [List.set] at hS
    obtain ⟨gb, ob, qb, hvb, hlb⟩ := hS.but_sl (q := 0) rfl
    simp only [Value.slice.injEq] at hvb; obtain ⟨rfl, hlen_, rfl⟩ := hvb
    replace hS : Sep W (OwnBut entryEK _ _ k (entryEK.cells _ vs) :: _) _ := hS
    generalize hK : (k0 + (crow Sl.Entry.cnt (List.take k xs) : Int)) = K at hF
    refine wp_skip ?_
    refine hK4 _ _ ?_
    refine wp_seq_k fun K6 hK6 => ?_
    refine wp_block ?_
    refine ws fun K7 hK7 => ?_
    refine wl_mvs (A := [_, _, _]) hF rfl ?_; clear hF a; intro a hF
    refine wl hF rfl rfl rfl (r_index sl51 (hF.ev rfl) (hF.ev rfl) (by omega) (by omega)) ?_; clear hF a; intro a hF
    refine wl hF rfl rfl rfl (r_field fo100_0 (hF.ev rfl)) ?_; clear hF a; intro a hF
    refine wl_bstore (q := 0) (j := 0) hF hS rfl sz3 (hF.ev rfl) rfl (hF.ev rfl) rfl rfl ?_; intro w2 hS_; replace hS := hS_; clear hS_; dsimp only [List.set] at hS
    refine wl_nil (hK7 _ _ ?_)
    refine ws fun K8 hK8 => ?_
    refine wl_mvs (A := [_]) hF rfl ?_; clear hF a; intro a hF
    refine wl hF rfl rfl rfl (r_add (hF.ev rfl) ec) ?_; clear hF a; intro a hF
    rw [w64_id (q := K + 1) (by omega) (by omega)] at hF
    refine wl_mvs (A := [_]) hF rfl ?_; clear hF a; intro a hF
    refine wl_nil (hK8 _ _ ?_)
    refine ws fun K9 hK9 => ?_
    refine wl_mvs (A := [_, _, _]) hF rfl ?_; clear hF a; intro a hF
    refine wl hF rfl rfl rfl (r_index sl51 (hF.ev rfl) (hF.ev rfl) (by omega) (by omega)) ?_; clear hF a; intro a hF
    refine wl hF rfl rfl rfl (r_field fo100_1 (hF.ev rfl)) ?_; clear hF a; intro a hF
    refine wl_bstore (q := 0) (j := 1) hF hS rfl sz3 (hF.ev rfl) rfl (hF.ev rfl) rfl rfl ?_; intro w3 hS_; replace hS := hS_; clear hS_; dsimp only [List.set] at hS
    refine wl_nil (hK9 _ _ ?_)
    refine ws fun K10 hK10 => ?_
    refine wl_mvs (A := [_]) hF rfl ?_; clear hF a; intro a hF
    refine wl hF rfl rfl rfl (r_add (hF.ev rfl) ec) ?_; clear hF a; intro a hF
    rw [w64_id (q := K + 1 + 1) (by omega) (by omega)] at hF
    refine wl_mvs (A := [_]) hF rfl ?_; clear hF a; intro a hF
    refine wl_nil (hK10 _ _ ?_)
    refine ws fun K11 hK11 => ?_
    refine wl_mvs (A := [_, _, _]) hF rfl ?_; clear hF a; intro a hF
    refine wl hF rfl rfl rfl (r_index sl51 (hF.ev rfl) (hF.ev rfl) (by omega) (by omega)) ?_; clear hF a; intro a hF
    refine wl hF rfl rfl rfl (r_field fo100_2 (hF.ev rfl)) ?_; clear hF a; intro a hF
    refine wl_bstore (q := 0) (j := 2) hF hS rfl sz3 (hF.ev rfl) rfl (hF.ev rfl) rfl rfl ?_; intro w4 hS_; replace hS := hS_; clear hS_; dsimp only [List.set] at hS
    refine wl_nil (hK11 _ _ ?_)
    refine ws fun K12 hK12 => ?_
    refine wl_mvs (A := [_]) hF rfl ?_; clear hF a; intro a hF
    refine wl hF rfl rfl rfl (r_add (hF.ev rfl) ec) ?_; clear hF a; intro a hF
    rw [w64_id (q := K + 1 + 1 + 1) (by omega) (by omega)] at hF
    refine wl_mvs (A := [_]) hF rfl ?_; clear hF a; intro a hF
    refine wl_nil (hK12 _ _ ?_)
    refine ws fun K13 hK13 => ?_
    refine wl_mvs (A := [_, _, _]) hF rfl ?_; clear hF a; intro a hF
    refine wl hF rfl rfl rfl (r_index sl51 (hF.ev rfl) (hF.ev rfl) (by omega) (by omega)) ?_; clear hF a; intro a hF
    refine wl hF rfl rfl rfl (r_field fo100_3 (hF.ev rfl)) ?_; clear hF a; intro a hF
    refine wl_bstore (q := 0) (j := 3) hF hS rfl sz3 (hF.ev rfl) rfl (hF.ev rfl) rfl rfl ?_; intro w5 hS_; replace hS := hS_; clear hS_; dsimp only [List.set] at hS
    refine wl_nil (hK13 _ _ ?_)
    refine wp_region_lit ?_
    refine wl_mvs (A := [_]) hF rfl ?_; clear hF a; intro a hF
    refine wl hF rfl rfl rfl (r_add (hF.ev rfl) ec) ?_; clear hF a; intro a hF
    rw [w64_id (q := K + 1 + 1 + 1 + 1) (by omega) (by omega)] at hF
    refine wl_mvs (A := [_]) hF rfl ?_; clear hF a; intro a hF
    refine wl_nil ?_
    simp only [Exit.then, Exit.inBlock, ↓reduceIte]
    refine hK6 _ _ ?_
    refine wp_region_lit ?_
    refine wl_mvs (A := [_]) hF rfl ?_; clear hF a; intro a hF
    refine wl hF rfl rfl rfl (r_add (hF.ev rfl) ec) ?_; clear hF a; intro a hF
    refine wl_mvs (A := [_]) hF rfl ?_; clear hF a; intro a hF
    refine wl_nil ?_
    try simp only [Exit.then, Exit.inBlock, ↓reduceIte]
    subst hK
    replace hS := (hS.part_mk (ek := entryEK) (x := Sl.Entry.mark (k0 + (crow Sl.Entry.cnt (List.take k xs) : Int)) (at0 xs (k : Int))) (vs := vs) (l := OwnBut entryEK _ _ k _ :: l) rfl).giveback (q := 0) rfl rfl
    dsimp only [List.set] at hS; rw [mix_set k0 hx] at hS
    refine ⟨k + 1, (by omega), hS, ((((hF.nil.keep hF (t := 4) rfl).keep hF (t := 0) rfl).keepE hF (t := 1) rfl (by rw [hc2]; congr 1; omega)).keepE hF (t := 5) rfl (wk (by omega))), by omega⟩
  refine wp_exit ?_
  simp only [Exit.then, Exit.inBlock, ↓reduceIte]
  refine hK2 _ _ ?_
  refine ws fun K14 hK14 => ?_
  refine wl_mvs (A := [_, _]) hF rfl ?_; clear hF a; intro a hF
  refine wl_nil (hK14 _ _ ?_)
  refine wp_ret ?_
  try simp only [Exit.then, Exit.inBlock, ↓reduceIte]
  obtain rfl : k = xs.length := by omega
  rw [List.take_length] at hF hS
  refine ret1 rfl hF rfl ⟨rfl, ?_⟩
  rw [List.drop_length, List.append_nil] at hS; exact hS
set_option maxHeartbeats 4000000 in
set_option maxRecDepth 20000 in
theorem heldEntryS_c {W : World} {va : Value} {xs : List Sl.Entry} {k0 : Int} (ha : entryEK.Rd W va (mrow Sl.Entry.mark Sl.Entry.cnt k0 xs)) (h0 : 0 ≤ k0) (h1 : k0 + crow Sl.Entry.cnt xs < 9223372036854775807) : Calls Tryz.prog 86 #[va, vi k0] W (Ret fun v w' => v = vi (k0 + crow Sl.Entry.cnt xs) ∧ Below W.heap.size W w') := by
  refine calls_fr Tryz.func86 rfl Tryz.ntmps86 rfl ?_
  intro a hF
  obtain ⟨A_a, q_a, rfl, hq_a, hn_a⟩ := ha.sl; unfold maxLen at hn_a
  rw [mrow_length] at hq_a hn_a
  have hS := Sep.refl W
  refine ws fun K1 hK1 => ?_
  refine wl_mvs (A := [_]) hF rfl ?_; clear hF a; intro a hF
  refine wl_nil (hK1 _ _ ?_)
  refine wp_seq_k fun K2 hK2 => ?_
  refine ws fun K3 hK3 => ?_
  refine wl_mvs (A := [_]) hF rfl ?_; clear hF a; intro a hF
  refine wl_nil (hK3 _ _ ?_)
  refine wp_block ?_
  have hL_ := ((hF.nil.keep hF (t := 4) rfl).keep hF (t := 0) rfl)
  refine wp_loop_r (σ := Nat) (fun k L_ => (5, vi k) :: (1, vi (k0 + (crow Sl.Entry.cnt (List.take k xs) : Int))) :: L_) (fun k => (k ≤ xs.length)) (fun k => xs.length - k) 0 hS ((hL_.keepE hF (t := 1) rfl (by simp [crow])).keepE hF (t := 5) rfl rfl) ?_ ?_
  · exact Nat.zero_le _
  clear hF hS hL_ a
  rintro k a w1 hk hS hF; try dsimp only at hF; try dsimp only at hS
  refine wp_seq_k fun K4 hK4 => ?_
  refine ws fun K5 hK5 => ?_
  refine wl_mvs (A := [_, _]) hF rfl ?_; clear hF a; intro a hF
  refine wl hF rfl rfl rfl (r_len ul51 (hF.ev rfl)) ?_; clear hF a; intro a hF
  refine wl hF rfl rfl rfl (r_lss (hF.ev rfl) (hF.ev rfl)) ?_; clear hF a; intro a hF
  refine wl_nil (hK5 _ _ ?_)
  refine wc_fx (t := 9) hF rfl ?_ ?_ <;> clear hF <;> intro c9 hF <;> try simp only [zb1, zb2, zb3, zb4, zb5, zb6, zb7, zb8] at c9
  ·
    rw [mrow_length] at c9
    have hlt : k < xs.length := by omega
    have hx := at0_nat hlt
    have hc1 := crow_le1 (c := Sl.Entry.cnt) hx
    have hc2 := crow_next (c := Sl.Entry.cnt) hx
    simp only [Sl.Entry.cnt] at hc1 hc2
    have hmx := mrow_at (f := Sl.Entry.mark) (c := Sl.Entry.cnt) k0 hx
    generalize hK : (k0 + (crow Sl.Entry.cnt (List.take k xs) : Int)) = K at hF hmx
    have hlm : k < (mrow Sl.Entry.mark Sl.Entry.cnt k0 xs).length := by rw [mrow_length]; omega
    refine wp_skip ?_
    refine hK4 _ _ ?_
    refine wp_seq_k fun K6 hK6 => ?_
    refine wp_block ?_
    refine wp_seq_k fun K7 hK7 => ?_
    refine ws fun K8 hK8 => ?_
    refine wl_mvs (A := [_, _]) hF rfl ?_; clear hF a; intro a hF
    obtain ⟨g14, o14, m14, q14, hv14, hm14, hl14, hc14⟩ := Rd.idxF (hS.rd ha) hmx
    refine wl hF rfl rfl rfl (r_index sl51 ((hF.ev rfl).trans hv14) (hF.ev rfl) (by omega) (by omega)) ?_; clear hF a; intro a hF
    refine wl hF rfl rfl rfl (r_field fo100_0 (hF.ev rfl)) ?_; clear hF a; intro a hF
    refine wl hF rfl rfl rfl (r_load1 sc3 (hF.ev rfl) (hc14 0 _ rfl)) ?_; clear hF a; intro a hF
    refine wl_mvs (A := [_]) hF rfl ?_; clear hF a; intro a hF
    refine wl hF rfl rfl rfl (r_neq (hF.ev rfl) (hF.ev rfl)) ?_; clear hF a; intro a hF
    refine wl_nil (hK8 _ _ ?_)
    refine wc_fx (t := 18) hF rfl ?_ ?_ <;> clear hF <;> intro c18 hF <;> try simp only [zb1, zb2, zb3, zb4, zb5, zb6, zb7, zb8] at c18
    ·
      exfalso; first | exact (c18 rfl).elim | omega
    clear c18 hv14 hm14 hl14 hc14
    refine wp_skip ?_
    refine hK7 _ _ ?_
    refine ws fun K9 hK9 => ?_
    refine wl_mvs (A := [_]) hF rfl ?_; clear hF a; intro a hF
    refine wl hF rfl rfl rfl (r_add (hF.ev rfl) ec) ?_; clear hF a; intro a hF
    rw [w64_id (q := K + 1) (by omega) (by omega)] at hF
    refine wl_mvs (A := [_]) hF rfl ?_; clear hF a; intro a hF
    refine wl_nil (hK9 _ _ ?_)
    refine wp_seq_k fun K10 hK10 => ?_
    refine ws fun K11 hK11 => ?_
    refine wl_mvs (A := [_, _]) hF rfl ?_; clear hF a; intro a hF
    obtain ⟨g23, o23, m23, q23, hv23, hm23, hl23, hc23⟩ := Rd.idxF (hS.rd ha) hmx
    refine wl hF rfl rfl rfl (r_index sl51 ((hF.ev rfl).trans hv23) (hF.ev rfl) (by omega) (by omega)) ?_; clear hF a; intro a hF
    refine wl hF rfl rfl rfl (r_field fo100_1 (hF.ev rfl)) ?_; clear hF a; intro a hF
    refine wl hF rfl rfl rfl (r_load1 sc3 (hF.ev rfl) (hc23 1 _ rfl)) ?_; clear hF a; intro a hF
    refine wl_mvs (A := [_]) hF rfl ?_; clear hF a; intro a hF
    refine wl hF rfl rfl rfl (r_neq (hF.ev rfl) (hF.ev rfl)) ?_; clear hF a; intro a hF
    refine wl_nil (hK11 _ _ ?_)
    refine wc_fx (t := 27) hF rfl ?_ ?_ <;> clear hF <;> intro c27 hF <;> try simp only [zb1, zb2, zb3, zb4, zb5, zb6, zb7, zb8] at c27
    ·
      exfalso; first | exact (c27 rfl).elim | omega
    clear c27 hv23 hm23 hl23 hc23
    refine wp_skip ?_
    refine hK10 _ _ ?_
    refine ws fun K12 hK12 => ?_
    refine wl_mvs (A := [_]) hF rfl ?_; clear hF a; intro a hF
    refine wl hF rfl rfl rfl (r_add (hF.ev rfl) ec) ?_; clear hF a; intro a hF
    rw [w64_id (q := K + 1 + 1) (by omega) (by omega)] at hF
    refine wl_mvs (A := [_]) hF rfl ?_; clear hF a; intro a hF
    refine wl_nil (hK12 _ _ ?_)
    refine wp_seq_k fun K13 hK13 => ?_
    refine ws fun K14 hK14 => ?_
    refine wl_mvs (A := [_, _]) hF rfl ?_; clear hF a; intro a hF
    obtain ⟨g32, o32, m32, q32, hv32, hm32, hl32, hc32⟩ := Rd.idxF (hS.rd ha) hmx
    refine wl hF rfl rfl rfl (r_index sl51 ((hF.ev rfl).trans hv32) (hF.ev rfl) (by omega) (by omega)) ?_; clear hF a; intro a hF
    refine wl hF rfl rfl rfl (r_field fo100_2 (hF.ev rfl)) ?_; clear hF a; intro a hF
    refine wl hF rfl rfl rfl (r_load1 sc3 (hF.ev rfl) (hc32 2 _ rfl)) ?_; clear hF a; intro a hF
    refine wl_mvs (A := [_]) hF rfl ?_; clear hF a; intro a hF
    refine wl hF rfl rfl rfl (r_neq (hF.ev rfl) (hF.ev rfl)) ?_; clear hF a; intro a hF
    refine wl_nil (hK14 _ _ ?_)
    refine wc_fx (t := 36) hF rfl ?_ ?_ <;> clear hF <;> intro c36 hF <;> try simp only [zb1, zb2, zb3, zb4, zb5, zb6, zb7, zb8] at c36
    ·
      exfalso; first | exact (c36 rfl).elim | omega
    clear c36 hv32 hm32 hl32 hc32
    refine wp_skip ?_
    refine hK13 _ _ ?_
    refine ws fun K15 hK15 => ?_
    refine wl_mvs (A := [_]) hF rfl ?_; clear hF a; intro a hF
    refine wl hF rfl rfl rfl (r_add (hF.ev rfl) ec) ?_; clear hF a; intro a hF
    rw [w64_id (q := K + 1 + 1 + 1) (by omega) (by omega)] at hF
    refine wl_mvs (A := [_]) hF rfl ?_; clear hF a; intro a hF
    refine wl_nil (hK15 _ _ ?_)
    refine wp_seq_k fun K16 hK16 => ?_
    refine ws fun K17 hK17 => ?_
    refine wl_mvs (A := [_, _]) hF rfl ?_; clear hF a; intro a hF
    obtain ⟨g41, o41, m41, q41, hv41, hm41, hl41, hc41⟩ := Rd.idxF (hS.rd ha) hmx
    refine wl hF rfl rfl rfl (r_index sl51 ((hF.ev rfl).trans hv41) (hF.ev rfl) (by omega) (by omega)) ?_; clear hF a; intro a hF
    refine wl hF rfl rfl rfl (r_field fo100_3 (hF.ev rfl)) ?_; clear hF a; intro a hF
    refine wl hF rfl rfl rfl (r_load1 sc3 (hF.ev rfl) (hc41 3 _ rfl)) ?_; clear hF a; intro a hF
    refine wl_mvs (A := [_]) hF rfl ?_; clear hF a; intro a hF
    refine wl hF rfl rfl rfl (r_neq (hF.ev rfl) (hF.ev rfl)) ?_; clear hF a; intro a hF
    refine wl_nil (hK17 _ _ ?_)
    refine wc_fx (t := 45) hF rfl ?_ ?_ <;> clear hF <;> intro c45 hF <;> try simp only [zb1, zb2, zb3, zb4, zb5, zb6, zb7, zb8] at c45
    ·
      exfalso; first | exact (c45 rfl).elim | omega
    clear c45 hv41 hm41 hl41 hc41
    refine wp_skip ?_
    refine hK16 _ _ ?_
    refine wp_region_lit ?_
    refine wl_mvs (A := [_]) hF rfl ?_; clear hF a; intro a hF
    refine wl hF rfl rfl rfl (r_add (hF.ev rfl) ec) ?_; clear hF a; intro a hF
    rw [w64_id (q := K + 1 + 1 + 1 + 1) (by omega) (by omega)] at hF
    refine wl_mvs (A := [_]) hF rfl ?_; clear hF a; intro a hF
    refine wl_nil ?_
    simp only [Exit.then, Exit.inBlock, ↓reduceIte]
    refine hK6 _ _ ?_
    refine wp_region_lit ?_
    refine wl_mvs (A := [_]) hF rfl ?_; clear hF a; intro a hF
    refine wl hF rfl rfl rfl (r_add (hF.ev rfl) ec) ?_; clear hF a; intro a hF
    refine wl_mvs (A := [_]) hF rfl ?_; clear hF a; intro a hF
    refine wl_nil ?_
    try simp only [Exit.then, Exit.inBlock, ↓reduceIte]
    refine ⟨k + 1, (by omega), hS, ((((hF.nil.keep hF (t := 4) rfl).keep hF (t := 0) rfl).keepE hF (t := 1) rfl (by rw [hc2]; congr 1; omega)).keepE hF (t := 5) rfl (wk (by omega))), by omega⟩
  rw [mrow_length] at c9
  refine wp_exit ?_
  simp only [Exit.then, Exit.inBlock, ↓reduceIte]
  refine hK2 _ _ ?_
  refine ws fun K18 hK18 => ?_
  refine wl_mvs (A := [_, _]) hF rfl ?_; clear hF a; intro a hF
  refine wl_nil (hK18 _ _ ?_)
  refine wp_ret ?_
  try simp only [Exit.then, Exit.inBlock, ↓reduceIte]
  obtain rfl : k = xs.length := by omega
  rw [List.take_length] at hF
  exact ret1 rfl hF rfl ⟨rfl, hS.old⟩
set_option maxHeartbeats 4000000 in
set_option maxRecDepth 20000 in
theorem markThreadS_c {W w : World} {l : List Res} {va : Value} {xs : List Sl.Thread} {k0 : Int} (hS : Sep W (Own threadEK va xs :: l) w) (h0 : 0 ≤ k0) (h1 : k0 + crow Sl.Thread.cnt xs < 9223372036854775807) : Calls Tryz.prog 43 #[va, vi k0] w (Ret fun v w' => v = vi (k0 + crow Sl.Thread.cnt xs) ∧ Sep W (Own threadEK va (mrow Sl.Thread.mark Sl.Thread.cnt k0 xs) :: l) w') := by
  refine calls_fr Tryz.func43 rfl Tryz.ntmps43 rfl ?_
  intro a hF
  obtain ⟨A_a, q_a, rfl, hq_a, hn_a⟩ := (hS.own_rd (i := 0) rfl).sl; unfold maxLen at hn_a
  refine ws fun K1 hK1 => ?_
  refine wl_mvs (A := [_]) hF rfl ?_; clear hF a; intro a hF
  refine wl_nil (hK1 _ _ ?_)
  refine wp_seq_k fun K2 hK2 => ?_
  refine ws fun K3 hK3 => ?_
  refine wl_mvs (A := [_]) hF rfl ?_; clear hF a; intro a hF
  refine wl_nil (hK3 _ _ ?_)
  refine wp_block ?_
  replace hS := hS.pull (p := 0) rfl; dsimp only [List.eraseIdx] at hS
  have hL_ := ((hF.nil.keep hF (t := 4) rfl).keep hF (t := 0) rfl)
  refine wp_loop_m (σ := Nat) (fun k L_ => (5, vi k) :: (1, vi (k0 + (crow Sl.Thread.cnt (List.take k xs) : Int))) :: L_) (fun k l_ => (Own threadEK (.slice A_a xs.length q_a) (mrow Sl.Thread.mark Sl.Thread.cnt k0 (xs.take k) ++ xs.drop k)) :: l_) (fun k => (k ≤ xs.length)) (fun k => xs.length - k) 0 ((by rw [show mrow Sl.Thread.mark Sl.Thread.cnt k0 (xs.take 0) ++ xs.drop 0 = xs from by simp [mrow]]; exact hS)) ((hL_.keepE hF (t := 1) rfl (by simp [crow])).keepE hF (t := 5) rfl rfl) ?_ ?_
  · exact Nat.zero_le _
  clear hF hS hL_ a
  rintro k a w1 hk hS hF; try dsimp only at hF; try dsimp only at hS
  refine wp_seq_k fun K4 hK4 => ?_
  refine ws fun K5 hK5 => ?_
  refine wl_mvs (A := [_, _]) hF rfl ?_; clear hF a; intro a hF
  refine wl hF rfl rfl rfl (r_len ul30 (hF.ev rfl)) ?_; clear hF a; intro a hF
  refine wl hF rfl rfl rfl (r_lss (hF.ev rfl) (hF.ev rfl)) ?_; clear hF a; intro a hF
  refine wl_nil (hK5 _ _ ?_)
  refine wc_fx (t := 9) hF rfl ?_ ?_ <;> clear hF <;> intro c9 hF <;> try simp only [zb1, zb2, zb3, zb4, zb5, zb6, zb7, zb8] at c9
  ·
    have hlt : k < xs.length := by omega
    have hx := at0_nat hlt
    have hc1 := crow_le1 (c := Sl.Thread.cnt) hx
    have hc2 := crow_next (c := Sl.Thread.cnt) hx
    simp only [Sl.Thread.cnt] at hc1 hc2
    obtain ⟨vs, hS_⟩ := hS.borrow (q := 0) rfl (mix_at k0 hx); replace hS := hS_.part_open; clear hS_; dsimp only [List.set] at hS
    obtain ⟨gb, ob, qb, hvb, hlb⟩ := hS.but_sl (q := 5) rfl
    simp only [Value.slice.injEq] at hvb; obtain ⟨rfl, hlen_, rfl⟩ := hvb
    replace hS : Sep W (Own intEK (sv (vs.getD 0 (none, 0, 0))) _ :: Own intEK (sv (vs.getD 1 (none, 0, 0))) _ :: Own entryEK (sv (vs.getD 2 (none, 0, 0))) _ :: Own entryEK (sv (vs.getD 3 (none, 0, 0))) _ :: Own intEK (sv (vs.getD 4 (none, 0, 0))) _ :: OwnBut threadEK _ _ k (threadEK.cells _ vs) :: _) _ := hS
    generalize hK : (k0 + (crow Sl.Thread.cnt (List.take k xs) : Int)) = K at hF
    refine wp_skip ?_
    refine hK4 _ _ ?_
    refine wp_seq_k fun K6 hK6 => ?_
    refine wp_block ?_
    refine ws fun K7 hK7 => ?_
    refine wl_mvs (A := [_, _, _]) hF rfl ?_; clear hF a; intro a hF
    refine wl hF rfl rfl rfl (r_index sl30 (hF.ev rfl) (hF.ev rfl) (by omega) (by omega)) ?_; clear hF a; intro a hF
    refine wl hF rfl rfl rfl (r_field fo53_0 (hF.ev rfl)) ?_; clear hF a; intro a hF
    refine wl_bstore (q := 5) (j := 0) hF hS rfl sz3 (hF.ev rfl) rfl (hF.ev rfl) rfl rfl ?_; intro w2 hS_; replace hS := hS_; clear hS_; dsimp only [List.set] at hS
    refine wl_nil (hK7 _ _ ?_)
    refine ws fun K8 hK8 => ?_
    refine wl_mvs (A := [_]) hF rfl ?_; clear hF a; intro a hF
    refine wl hF rfl rfl rfl (r_add (hF.ev rfl) ec) ?_; clear hF a; intro a hF
    rw [w64_id (q := K + 1) (by omega) (by omega)] at hF
    refine wl_mvs (A := [_]) hF rfl ?_; clear hF a; intro a hF
    refine wl_nil (hK8 _ _ ?_)
    refine ws fun K9 hK9 => ?_
    refine wl_mvs (A := [_, _, _]) hF rfl ?_; clear hF a; intro a hF
    refine wl hF rfl rfl rfl (r_index sl30 (hF.ev rfl) (hF.ev rfl) (by omega) (by omega)) ?_; clear hF a; intro a hF
    refine wl hF rfl rfl rfl (r_field fo53_1 (hF.ev rfl)) ?_; clear hF a; intro a hF
    refine wl hF rfl rfl rfl (r_field fo48_0 (hF.ev rfl)) ?_; clear hF a; intro a hF
    refine wl_bstore (q := 5) (j := 1) hF hS rfl sz3 (hF.ev rfl) rfl (hF.ev rfl) rfl rfl ?_; intro w3 hS_; replace hS := hS_; clear hS_; dsimp only [List.set] at hS
    refine wl_nil (hK9 _ _ ?_)
    refine ws fun K10 hK10 => ?_
    refine wl_mvs (A := [_]) hF rfl ?_; clear hF a; intro a hF
    refine wl hF rfl rfl rfl (r_add (hF.ev rfl) ec) ?_; clear hF a; intro a hF
    rw [w64_id (q := K + 1 + 1) (by omega) (by omega)] at hF
    refine wl_mvs (A := [_]) hF rfl ?_; clear hF a; intro a hF
    refine wl_nil (hK10 _ _ ?_)
    refine ws fun K11 hK11 => ?_
    refine wl_mvs (A := [_, _, _]) hF rfl ?_; clear hF a; intro a hF
    refine wl hF rfl rfl rfl (r_index sl30 (hF.ev rfl) (hF.ev rfl) (by omega) (by omega)) ?_; clear hF a; intro a hF
    refine wl hF rfl rfl rfl (r_field fo53_1 (hF.ev rfl)) ?_; clear hF a; intro a hF
    refine wl hF rfl rfl rfl (r_field fo48_1 (hF.ev rfl)) ?_; clear hF a; intro a hF
    refine wl_bstore (q := 5) (j := 2) hF hS rfl sz3 (hF.ev rfl) rfl (hF.ev rfl) rfl rfl ?_; intro w4 hS_; replace hS := hS_; clear hS_; dsimp only [List.set] at hS
    refine wl_nil (hK11 _ _ ?_)
    refine ws fun K12 hK12 => ?_
    refine wl_mvs (A := [_]) hF rfl ?_; clear hF a; intro a hF
    refine wl hF rfl rfl rfl (r_add (hF.ev rfl) ec) ?_; clear hF a; intro a hF
    rw [w64_id (q := K + 1 + 1 + 1) (by omega) (by omega)] at hF
    refine wl_mvs (A := [_]) hF rfl ?_; clear hF a; intro a hF
    refine wl_nil (hK12 _ _ ?_)
    refine ws fun K13 hK13 => ?_
    refine wl_mvs (A := [_, _, _]) hF rfl ?_; clear hF a; intro a hF
    refine wl hF rfl rfl rfl (r_index sl30 (hF.ev rfl) (hF.ev rfl) (by omega) (by omega)) ?_; clear hF a; intro a hF
    refine wl hF rfl rfl rfl (r_field fo53_1 (hF.ev rfl)) ?_; clear hF a; intro a hF
    refine wl hF rfl rfl rfl (r_field fo48_2 (hF.ev rfl)) ?_; clear hF a; intro a hF
    refine wl_bstore (q := 5) (j := 3) hF hS rfl sz3 (hF.ev rfl) rfl (hF.ev rfl) rfl rfl ?_; intro w5 hS_; replace hS := hS_; clear hS_; dsimp only [List.set] at hS
    refine wl_nil (hK13 _ _ ?_)
    refine ws fun K14 hK14 => ?_
    refine wl_mvs (A := [_]) hF rfl ?_; clear hF a; intro a hF
    refine wl hF rfl rfl rfl (r_add (hF.ev rfl) ec) ?_; clear hF a; intro a hF
    rw [w64_id (q := K + 1 + 1 + 1 + 1) (by omega) (by omega)] at hF
    refine wl_mvs (A := [_]) hF rfl ?_; clear hF a; intro a hF
    refine wl_nil (hK14 _ _ ?_)
    refine ws fun K15 hK15 => ?_
    refine wl_mvs (A := [_, _, _]) hF rfl ?_; clear hF a; intro a hF
    refine wl hF rfl rfl rfl (r_index sl30 (hF.ev rfl) (hF.ev rfl) (by omega) (by omega)) ?_; clear hF a; intro a hF
    refine wl hF rfl rfl rfl (r_field fo53_2 (hF.ev rfl)) ?_; clear hF a; intro a hF
    refine wl hF rfl rfl rfl (r_field fo50_0 (hF.ev rfl)) ?_; clear hF a; intro a hF
    refine wl_bstore (q := 5) (j := 4) hF hS rfl sz3 (hF.ev rfl) rfl (hF.ev rfl) rfl rfl ?_; intro w6 hS_; replace hS := hS_; clear hS_; dsimp only [List.set] at hS
    refine wl_nil (hK15 _ _ ?_)
    refine ws fun K16 hK16 => ?_
    refine wl_mvs (A := [_]) hF rfl ?_; clear hF a; intro a hF
    refine wl hF rfl rfl rfl (r_add (hF.ev rfl) ec) ?_; clear hF a; intro a hF
    rw [w64_id (q := K + 1 + 1 + 1 + 1 + 1) (by omega) (by omega)] at hF
    refine wl_mvs (A := [_]) hF rfl ?_; clear hF a; intro a hF
    refine wl_nil (hK16 _ _ ?_)
    refine ws fun K17 hK17 => ?_
    refine wl_mvs (A := [_, _, _]) hF rfl ?_; clear hF a; intro a hF
    refine wl hF rfl rfl rfl (r_index sl30 (hF.ev rfl) (hF.ev rfl) (by omega) (by omega)) ?_; clear hF a; intro a hF
    refine wl hF rfl rfl rfl (r_field fo53_2 (hF.ev rfl)) ?_; clear hF a; intro a hF
    refine wl hF rfl rfl rfl (r_field fo50_1 (hF.ev rfl)) ?_; clear hF a; intro a hF
    refine wl_bstore (q := 5) (j := 5) hF hS rfl sz3 (hF.ev rfl) rfl (hF.ev rfl) rfl rfl ?_; intro w7 hS_; replace hS := hS_; clear hS_; dsimp only [List.set] at hS
    refine wl_nil (hK17 _ _ ?_)
    refine ws fun K18 hK18 => ?_
    refine wl_mvs (A := [_]) hF rfl ?_; clear hF a; intro a hF
    refine wl hF rfl rfl rfl (r_add (hF.ev rfl) ec) ?_; clear hF a; intro a hF
    rw [w64_id (q := K + 1 + 1 + 1 + 1 + 1 + 1) (by omega) (by omega)] at hF
    refine wl_mvs (A := [_]) hF rfl ?_; clear hF a; intro a hF
    refine wl_nil (hK18 _ _ ?_)
    refine ws fun K19 hK19 => ?_
    refine wl_mvs (A := [_, _, _]) hF rfl ?_; clear hF a; intro a hF
    refine wl hF rfl rfl rfl (r_index sl30 (hF.ev rfl) (hF.ev rfl) (by omega) (by omega)) ?_; clear hF a; intro a hF
    refine wl hF rfl rfl rfl (r_field fo53_3 (hF.ev rfl)) ?_; clear hF a; intro a hF
    refine wl_bstore (q := 5) (j := 6) hF hS rfl sz3 (hF.ev rfl) rfl (hF.ev rfl) rfl rfl ?_; intro w8 hS_; replace hS := hS_; clear hS_; dsimp only [List.set] at hS
    refine wl_nil (hK19 _ _ ?_)
    refine ws fun K20 hK20 => ?_
    refine wl_mvs (A := [_]) hF rfl ?_; clear hF a; intro a hF
    refine wl hF rfl rfl rfl (r_add (hF.ev rfl) ec) ?_; clear hF a; intro a hF
    rw [w64_id (q := K + 1 + 1 + 1 + 1 + 1 + 1 + 1) (by omega) (by omega)] at hF
    refine wl_mvs (A := [_]) hF rfl ?_; clear hF a; intro a hF
    refine wl_nil (hK20 _ _ ?_)
    refine ws fun K21 hK21 => ?_
    refine wl_mvs (A := [_, _, _]) hF rfl ?_; clear hF a; intro a hF
    refine wl hF rfl rfl rfl (r_index sl30 (hF.ev rfl) (hF.ev rfl) (by omega) (by omega)) ?_; clear hF a; intro a hF
    refine wl hF rfl rfl rfl (r_field fo53_4 (hF.ev rfl)) ?_; clear hF a; intro a hF
    refine wl_bstore (q := 5) (j := 7) hF hS rfl sz3 (hF.ev rfl) rfl (hF.ev rfl) rfl rfl ?_; intro w9 hS_; replace hS := hS_; clear hS_; dsimp only [List.set] at hS
    refine wl_nil (hK21 _ _ ?_)
    refine ws fun K22 hK22 => ?_
    refine wl_mvs (A := [_]) hF rfl ?_; clear hF a; intro a hF
    refine wl hF rfl rfl rfl (r_add (hF.ev rfl) ec) ?_; clear hF a; intro a hF
    rw [w64_id (q := K + 1 + 1 + 1 + 1 + 1 + 1 + 1 + 1) (by omega) (by omega)] at hF
    refine wl_mvs (A := [_]) hF rfl ?_; clear hF a; intro a hF
    refine wl_nil (hK22 _ _ ?_)
    refine ws fun K23 hK23 => ?_
    refine wl_mvs (A := [_, _, _]) hF rfl ?_; clear hF a; intro a hF
    refine wl hF rfl rfl rfl (r_index sl30 (hF.ev rfl) (hF.ev rfl) (by omega) (by omega)) ?_; clear hF a; intro a hF
    refine wl hF rfl rfl rfl (r_field fo53_5 (hF.ev rfl)) ?_; clear hF a; intro a hF
    refine wl_bstore (q := 5) (j := 8) hF hS rfl sz3 (hF.ev rfl) rfl (hF.ev rfl) rfl rfl ?_; intro w10 hS_; replace hS := hS_; clear hS_; dsimp only [List.set] at hS
    refine wl_nil (hK23 _ _ ?_)
    refine ws fun K24 hK24 => ?_
    refine wl_mvs (A := [_]) hF rfl ?_; clear hF a; intro a hF
    refine wl hF rfl rfl rfl (r_add (hF.ev rfl) ec) ?_; clear hF a; intro a hF
    rw [w64_id (q := K + 1 + 1 + 1 + 1 + 1 + 1 + 1 + 1 + 1) (by omega) (by omega)] at hF
    refine wl_mvs (A := [_]) hF rfl ?_; clear hF a; intro a hF
    refine wl_nil (hK24 _ _ ?_)
    refine ws fun K25 hK25 => ?_
    refine wl_mvs (A := [_, _, _]) hF rfl ?_; clear hF a; intro a hF
    refine wl hF rfl rfl rfl (r_index sl30 (hF.ev rfl) (hF.ev rfl) (by omega) (by omega)) ?_; clear hF a; intro a hF
    refine wl hF rfl rfl rfl (r_field fo53_6 (hF.ev rfl)) ?_; clear hF a; intro a hF
    refine wl_bstore (q := 5) (j := 9) hF hS rfl sz3 (hF.ev rfl) rfl (hF.ev rfl) rfl rfl ?_; intro w11 hS_; replace hS := hS_; clear hS_; dsimp only [List.set] at hS
    refine wl_nil (hK25 _ _ ?_)
    refine ws fun K26 hK26 => ?_
    refine wl_mvs (A := [_]) hF rfl ?_; clear hF a; intro a hF
    refine wl hF rfl rfl rfl (r_add (hF.ev rfl) ec) ?_; clear hF a; intro a hF
    rw [w64_id (q := K + 1 + 1 + 1 + 1 + 1 + 1 + 1 + 1 + 1 + 1) (by omega) (by omega)] at hF
    refine wl_mvs (A := [_]) hF rfl ?_; clear hF a; intro a hF
    refine wl_nil (hK26 _ _ ?_)
    refine ws fun K27 hK27 => ?_
    refine wl_mvs (A := [_, _, _]) hF rfl ?_; clear hF a; intro a hF
    refine wl hF rfl rfl rfl (r_index sl30 (hF.ev rfl) (hF.ev rfl) (by omega) (by omega)) ?_; clear hF a; intro a hF
    refine wl hF rfl rfl rfl (r_field fo53_7 (hF.ev rfl)) ?_; clear hF a; intro a hF
    refine wl_bstore (q := 5) (j := 10) hF hS rfl sz3 (hF.ev rfl) rfl (hF.ev rfl) rfl rfl ?_; intro w12 hS_; replace hS := hS_; clear hS_; dsimp only [List.set] at hS
    refine wl_nil (hK27 _ _ ?_)
    refine ws fun K28 hK28 => ?_
    refine wl_mvs (A := [_]) hF rfl ?_; clear hF a; intro a hF
    refine wl hF rfl rfl rfl (r_add (hF.ev rfl) ec) ?_; clear hF a; intro a hF
    rw [w64_id (q := K + 1 + 1 + 1 + 1 + 1 + 1 + 1 + 1 + 1 + 1 + 1) (by omega) (by omega)] at hF
    refine wl_mvs (A := [_]) hF rfl ?_; clear hF a; intro a hF
    refine wl_nil (hK28 _ _ ?_)
    refine ws fun K29 hK29 => ?_
    refine wl_mvs (A := [_, _, _]) hF rfl ?_; clear hF a; intro a hF
    refine wl hF rfl rfl rfl (r_index sl30 (hF.ev rfl) (hF.ev rfl) (by omega) (by omega)) ?_; clear hF a; intro a hF
    refine wl hF rfl rfl rfl (r_field fo53_8 (hF.ev rfl)) ?_; clear hF a; intro a hF
    refine wl_bstore (q := 5) (j := 11) hF hS rfl sz3 (hF.ev rfl) rfl (hF.ev rfl) rfl rfl ?_; intro w13 hS_; replace hS := hS_; clear hS_; dsimp only [List.set] at hS
    refine wl_nil (hK29 _ _ ?_)
    refine ws fun K30 hK30 => ?_
    refine wl_mvs (A := [_]) hF rfl ?_; clear hF a; intro a hF
    refine wl hF rfl rfl rfl (r_add (hF.ev rfl) ec) ?_; clear hF a; intro a hF
    rw [w64_id (q := K + 1 + 1 + 1 + 1 + 1 + 1 + 1 + 1 + 1 + 1 + 1 + 1) (by omega) (by omega)] at hF
    refine wl_mvs (A := [_]) hF rfl ?_; clear hF a; intro a hF
    refine wl_nil (hK30 _ _ ?_)
    refine ws fun K31 hK31 => ?_
    refine wl_mvs (A := [_, _, _]) hF rfl ?_; clear hF a; intro a hF
    refine wl hF rfl rfl rfl (r_index sl30 (hF.ev rfl) (hF.ev rfl) (by omega) (by omega)) ?_; clear hF a; intro a hF
    refine wl hF rfl rfl rfl (r_field fo53_9 (hF.ev rfl)) ?_; clear hF a; intro a hF
    refine wl_bstore (q := 5) (j := 12) hF hS rfl sz3 (hF.ev rfl) rfl (hF.ev rfl) rfl rfl ?_; intro w14 hS_; replace hS := hS_; clear hS_; dsimp only [List.set] at hS
    refine wl_nil (hK31 _ _ ?_)
    refine ws fun K32 hK32 => ?_
    refine wl_mvs (A := [_]) hF rfl ?_; clear hF a; intro a hF
    refine wl hF rfl rfl rfl (r_add (hF.ev rfl) ec) ?_; clear hF a; intro a hF
    rw [w64_id (q := K + 1 + 1 + 1 + 1 + 1 + 1 + 1 + 1 + 1 + 1 + 1 + 1 + 1) (by omega) (by omega)] at hF
    refine wl_mvs (A := [_]) hF rfl ?_; clear hF a; intro a hF
    refine wl_nil (hK32 _ _ ?_)
    refine ws fun K33 hK33 => ?_
    refine wl_mvs (A := [_, _, _]) hF rfl ?_; clear hF a; intro a hF
    refine wl hF rfl rfl rfl (r_index sl30 (hF.ev rfl) (hF.ev rfl) (by omega) (by omega)) ?_; clear hF a; intro a hF
    refine wl hF rfl rfl rfl (r_field fo53_10 (hF.ev rfl)) ?_; clear hF a; intro a hF
    refine wl_bstore (q := 5) (j := 13) hF hS rfl sz3 (hF.ev rfl) rfl (hF.ev rfl) rfl rfl ?_; intro w15 hS_; replace hS := hS_; clear hS_; dsimp only [List.set] at hS
    refine wl_nil (hK33 _ _ ?_)
    refine ws fun K34 hK34 => ?_
    refine wl_mvs (A := [_]) hF rfl ?_; clear hF a; intro a hF
    refine wl hF rfl rfl rfl (r_add (hF.ev rfl) ec) ?_; clear hF a; intro a hF
    rw [w64_id (q := K + 1 + 1 + 1 + 1 + 1 + 1 + 1 + 1 + 1 + 1 + 1 + 1 + 1 + 1) (by omega) (by omega)] at hF
    refine wl_mvs (A := [_]) hF rfl ?_; clear hF a; intro a hF
    refine wl_nil (hK34 _ _ ?_)
    refine ws fun K35 hK35 => ?_
    refine wl_mvs (A := [_, _]) hF rfl ?_; clear hF a; intro a hF
    refine wl hF rfl rfl rfl (r_index sl30 (hF.ev rfl) (hF.ev rfl) (by omega) (by omega)) ?_; clear hF a; intro a hF
    refine wl hF rfl rfl rfl (r_field fo53_11 (hF.ev rfl)) ?_; clear hF a; intro a hF
    refine wl hF rfl rfl rfl (r_load1 sc24 (hF.ev rfl) (hS.but1 (q := 5) (j := 14) rfl rfl)) ?_; clear hF a; intro a hF
    refine wl_mvs (A := [_]) hF rfl ?_; clear hF a; intro a hF
    refine wl_call hF rfl rfl rfl (r_call2 en27 (hF.ev rfl) (hF.ev rfl)) (markIntS_c hS (q := 0) rfl (by omega) (by first | omega | (simp only [marks_length]; omega))) ?_; clear hF a; rintro v w16 a ⟨rfl, hS_⟩ hF; replace hS := hS_; clear hS_; dsimp only [List.set] at hS
    refine wl_mvs (A := [_]) hF rfl ?_; clear hF a; intro a hF
    refine wl_nil (hK35 _ _ ?_)
    refine ws fun K36 hK36 => ?_
    refine wl_mvs (A := [_, _]) hF rfl ?_; clear hF a; intro a hF
    refine wl hF rfl rfl rfl (r_index sl30 (hF.ev rfl) (hF.ev rfl) (by omega) (by omega)) ?_; clear hF a; intro a hF
    refine wl hF rfl rfl rfl (r_field fo53_12 (hF.ev rfl)) ?_; clear hF a; intro a hF
    refine wl hF rfl rfl rfl (r_load1 sc24 (hF.ev rfl) (hS.but1 (q := 5) (j := 15) rfl rfl)) ?_; clear hF a; intro a hF
    refine wl_mvs (A := [_]) hF rfl ?_; clear hF a; intro a hF
    refine wl_call hF rfl rfl rfl (r_call2 en27 (hF.ev rfl) (hF.ev rfl)) (markIntS_c hS (q := 1) rfl (by omega) (by first | omega | (simp only [marks_length]; omega))) ?_; clear hF a; rintro v w17 a ⟨rfl, hS_⟩ hF; replace hS := hS_; clear hS_; dsimp only [List.set] at hS
    refine wl_mvs (A := [_]) hF rfl ?_; clear hF a; intro a hF
    refine wl_nil (hK36 _ _ ?_)
    refine ws fun K37 hK37 => ?_
    refine wl_mvs (A := [_, _]) hF rfl ?_; clear hF a; intro a hF
    refine wl hF rfl rfl rfl (r_index sl30 (hF.ev rfl) (hF.ev rfl) (by omega) (by omega)) ?_; clear hF a; intro a hF
    refine wl hF rfl rfl rfl (r_field fo53_13 (hF.ev rfl)) ?_; clear hF a; intro a hF
    refine wl hF rfl rfl rfl (r_load1 sc51 (hF.ev rfl) (hS.but1 (q := 5) (j := 16) rfl rfl)) ?_; clear hF a; intro a hF
    refine wl_mvs (A := [_]) hF rfl ?_; clear hF a; intro a hF
    replace hS := hS.pull (p := 2) rfl; dsimp only [List.eraseIdx] at hS
    refine wl_call hF rfl rfl rfl (r_call2 en85 (hF.ev rfl) (hF.ev rfl)) (markEntryS_c hS (by omega) (by omega)) ?_; clear hF a; rintro v w18 a ⟨rfl, hS_⟩ hF; replace hS := hS_; clear hS_
    refine wl_mvs (A := [_]) hF rfl ?_; clear hF a; intro a hF
    refine wl_nil (hK37 _ _ ?_)
    refine ws fun K38 hK38 => ?_
    refine wl_mvs (A := [_, _]) hF rfl ?_; clear hF a; intro a hF
    refine wl hF rfl rfl rfl (r_index sl30 (hF.ev rfl) (hF.ev rfl) (by omega) (by omega)) ?_; clear hF a; intro a hF
    refine wl hF rfl rfl rfl (r_field fo53_14 (hF.ev rfl)) ?_; clear hF a; intro a hF
    refine wl hF rfl rfl rfl (r_load1 sc51 (hF.ev rfl) (hS.but1 (q := 5) (j := 17) rfl rfl)) ?_; clear hF a; intro a hF
    refine wl_mvs (A := [_]) hF rfl ?_; clear hF a; intro a hF
    replace hS := hS.pull (p := 3) rfl; dsimp only [List.eraseIdx] at hS
    refine wl_call hF rfl rfl rfl (r_call2 en85 (hF.ev rfl) (hF.ev rfl)) (markEntryS_c hS (by omega) (by omega)) ?_; clear hF a; rintro v w19 a ⟨rfl, hS_⟩ hF; replace hS := hS_; clear hS_
    refine wl_mvs (A := [_]) hF rfl ?_; clear hF a; intro a hF
    refine wl_nil (hK38 _ _ ?_)
    refine wp_region_lit ?_
    refine wl_mvs (A := [_, _]) hF rfl ?_; clear hF a; intro a hF
    refine wl hF rfl rfl rfl (r_index sl30 (hF.ev rfl) (hF.ev rfl) (by omega) (by omega)) ?_; clear hF a; intro a hF
    refine wl hF rfl rfl rfl (r_field fo53_15 (hF.ev rfl)) ?_; clear hF a; intro a hF
    refine wl hF rfl rfl rfl (r_load1 sc24 (hF.ev rfl) (hS.but1 (q := 5) (j := 18) rfl rfl)) ?_; clear hF a; intro a hF
    refine wl_mvs (A := [_]) hF rfl ?_; clear hF a; intro a hF
    refine wl_call hF rfl rfl rfl (r_call2 en27 (hF.ev rfl) (hF.ev rfl)) (markIntS_c hS (q := 4) rfl (by omega) (by first | omega | (simp only [marks_length]; omega))) ?_; clear hF a; rintro v w20 a ⟨rfl, hS_⟩ hF; replace hS := hS_; clear hS_; dsimp only [List.set] at hS
    refine wl_mvs (A := [_]) hF rfl ?_; clear hF a; intro a hF
    refine wl_nil ?_
    simp only [Exit.then, Exit.inBlock, ↓reduceIte]
    refine hK6 _ _ ?_
    refine wp_region_lit ?_
    refine wl_mvs (A := [_]) hF rfl ?_; clear hF a; intro a hF
    refine wl hF rfl rfl rfl (r_add (hF.ev rfl) ec) ?_; clear hF a; intro a hF
    refine wl_mvs (A := [_]) hF rfl ?_; clear hF a; intro a hF
    refine wl_nil ?_
    try simp only [Exit.then, Exit.inBlock, ↓reduceIte]
    replace hS := Sep.headp (A := [_, _, _, _, _, _]) (B := [_, _, _, _, _, _]) hS [2, 3, 1, 0, 4, 5] (by decide) rfl rfl
    subst hK
    replace hS := (hS.part_mk (ek := threadEK) (x := Sl.Thread.mark (k0 + (crow Sl.Thread.cnt (List.take k xs) : Int)) (at0 xs (k : Int))) (vs := vs) (l := OwnBut threadEK _ _ k _ :: l) rfl).giveback (q := 0) rfl rfl
    dsimp only [List.set] at hS; rw [mix_set k0 hx] at hS
    refine ⟨k + 1, (by omega), hS, ((((hF.nil.keep hF (t := 4) rfl).keep hF (t := 0) rfl).keepE hF (t := 1) rfl (by rw [hc2]; congr 1; omega)).keepE hF (t := 5) rfl (wk (by omega))), by omega⟩
  refine wp_exit ?_
  simp only [Exit.then, Exit.inBlock, ↓reduceIte]
  refine hK2 _ _ ?_
  refine ws fun K39 hK39 => ?_
  refine wl_mvs (A := [_, _]) hF rfl ?_; clear hF a; intro a hF
  refine wl_nil (hK39 _ _ ?_)
  refine wp_ret ?_
  try simp only [Exit.then, Exit.inBlock, ↓reduceIte]
  obtain rfl : k = xs.length := by omega
  rw [List.take_length] at hF hS
  refine ret1 rfl hF rfl ⟨rfl, ?_⟩
  rw [List.drop_length, List.append_nil] at hS; exact hS
set_option maxHeartbeats 4000000 in
set_option maxRecDepth 20000 in
theorem heldThreadS_c {W : World} {va : Value} {xs : List Sl.Thread} {k0 : Int} (ha : threadEK.Rd W va (mrow Sl.Thread.mark Sl.Thread.cnt k0 xs)) (h0 : 0 ≤ k0) (h1 : k0 + crow Sl.Thread.cnt xs < 9223372036854775807) : Calls Tryz.prog 44 #[va, vi k0] W (Ret fun v w' => v = vi (k0 + crow Sl.Thread.cnt xs) ∧ Below W.heap.size W w') := by
  refine calls_fr Tryz.func44 rfl Tryz.ntmps44 rfl ?_
  intro a hF
  obtain ⟨A_a, q_a, rfl, hq_a, hn_a⟩ := ha.sl; unfold maxLen at hn_a
  rw [mrow_length] at hq_a hn_a
  have hS := Sep.refl W
  refine ws fun K1 hK1 => ?_
  refine wl_mvs (A := [_]) hF rfl ?_; clear hF a; intro a hF
  refine wl_nil (hK1 _ _ ?_)
  refine wp_seq_k fun K2 hK2 => ?_
  refine ws fun K3 hK3 => ?_
  refine wl_mvs (A := [_]) hF rfl ?_; clear hF a; intro a hF
  refine wl_nil (hK3 _ _ ?_)
  refine wp_block ?_
  have hL_ := ((hF.nil.keep hF (t := 4) rfl).keep hF (t := 0) rfl)
  refine wp_loop_r (σ := Nat) (fun k L_ => (5, vi k) :: (1, vi (k0 + (crow Sl.Thread.cnt (List.take k xs) : Int))) :: L_) (fun k => (k ≤ xs.length)) (fun k => xs.length - k) 0 hS ((hL_.keepE hF (t := 1) rfl (by simp [crow])).keepE hF (t := 5) rfl rfl) ?_ ?_
  · exact Nat.zero_le _
  clear hF hS hL_ a
  rintro k a w1 hk hS hF; try dsimp only at hF; try dsimp only at hS
  refine wp_seq_k fun K4 hK4 => ?_
  refine ws fun K5 hK5 => ?_
  refine wl_mvs (A := [_, _]) hF rfl ?_; clear hF a; intro a hF
  refine wl hF rfl rfl rfl (r_len ul30 (hF.ev rfl)) ?_; clear hF a; intro a hF
  refine wl hF rfl rfl rfl (r_lss (hF.ev rfl) (hF.ev rfl)) ?_; clear hF a; intro a hF
  refine wl_nil (hK5 _ _ ?_)
  refine wc_fx (t := 9) hF rfl ?_ ?_ <;> clear hF <;> intro c9 hF <;> try simp only [zb1, zb2, zb3, zb4, zb5, zb6, zb7, zb8] at c9
  ·
    rw [mrow_length] at c9
    have hlt : k < xs.length := by omega
    have hx := at0_nat hlt
    have hc1 := crow_le1 (c := Sl.Thread.cnt) hx
    have hc2 := crow_next (c := Sl.Thread.cnt) hx
    simp only [Sl.Thread.cnt] at hc1 hc2
    have hmx := mrow_at (f := Sl.Thread.mark) (c := Sl.Thread.cnt) k0 hx
    generalize hK : (k0 + (crow Sl.Thread.cnt (List.take k xs) : Int)) = K at hF hmx
    have hlm : k < (mrow Sl.Thread.mark Sl.Thread.cnt k0 xs).length := by rw [mrow_length]; omega
    refine wp_skip ?_
    refine hK4 _ _ ?_
    refine wp_seq_k fun K6 hK6 => ?_
    refine wp_block ?_
    refine wp_seq_k fun K7 hK7 => ?_
    refine ws fun K8 hK8 => ?_
    refine wl_mvs (A := [_, _]) hF rfl ?_; clear hF a; intro a hF
    obtain ⟨g14, o14, m14, q14, cs14, hv14, hm14, hl14, hk14, hz14, hc14⟩ := Rd.idx (ha) hmx
    have hkk14 := hk14; obtain ⟨v14_0, v14_1, v14_2, v14_3, v14_4, rfl, r14_0, r14_1, r14_2, r14_3, r14_4⟩ := hk14
    refine wl hF rfl rfl rfl (r_index sl30 ((hF.ev rfl).trans hv14) (hF.ev rfl) (by omega) (by omega)) ?_; clear hF a; intro a hF
    refine wl hF rfl rfl rfl (r_field fo53_0 (hF.ev rfl)) ?_; clear hF a; intro a hF
    refine wl hF rfl rfl rfl (r_load1 sc3 (hF.ev rfl) (cellB hS.old (hc14 0 _ rfl))) ?_; clear hF a; intro a hF
    refine wl_mvs (A := [_]) hF rfl ?_; clear hF a; intro a hF
    refine wl hF rfl rfl rfl (r_neq (hF.ev rfl) (hF.ev rfl)) ?_; clear hF a; intro a hF
    refine wl_nil (hK8 _ _ ?_)
    refine wc_fx (t := 18) hF rfl ?_ ?_ <;> clear hF <;> intro c18 hF <;> try simp only [zb1, zb2, zb3, zb4, zb5, zb6, zb7, zb8] at c18
    ·
      exfalso; first | exact (c18 rfl).elim | omega
    clear c18 hv14 hm14 hl14 hc14 hz14 hkk14 r14_0 r14_1 r14_2 r14_3 r14_4
    refine wp_skip ?_
    refine hK7 _ _ ?_
    refine ws fun K9 hK9 => ?_
    refine wl_mvs (A := [_]) hF rfl ?_; clear hF a; intro a hF
    refine wl hF rfl rfl rfl (r_add (hF.ev rfl) ec) ?_; clear hF a; intro a hF
    rw [w64_id (q := K + 1) (by omega) (by omega)] at hF
    refine wl_mvs (A := [_]) hF rfl ?_; clear hF a; intro a hF
    refine wl_nil (hK9 _ _ ?_)
    refine wp_seq_k fun K10 hK10 => ?_
    refine ws fun K11 hK11 => ?_
    refine wl_mvs (A := [_, _]) hF rfl ?_; clear hF a; intro a hF
    obtain ⟨g23, o23, m23, q23, cs23, hv23, hm23, hl23, hk23, hz23, hc23⟩ := Rd.idx (ha) hmx
    have hkk23 := hk23; obtain ⟨v23_0, v23_1, v23_2, v23_3, v23_4, rfl, r23_0, r23_1, r23_2, r23_3, r23_4⟩ := hk23
    refine wl hF rfl rfl rfl (r_index sl30 ((hF.ev rfl).trans hv23) (hF.ev rfl) (by omega) (by omega)) ?_; clear hF a; intro a hF
    refine wl hF rfl rfl rfl (r_field fo53_1 (hF.ev rfl)) ?_; clear hF a; intro a hF
    refine wl hF rfl rfl rfl (r_field fo48_0 (hF.ev rfl)) ?_; clear hF a; intro a hF
    refine wl hF rfl rfl rfl (r_load1 sc3 (hF.ev rfl) (cellB hS.old (hc23 1 _ rfl))) ?_; clear hF a; intro a hF
    refine wl_mvs (A := [_]) hF rfl ?_; clear hF a; intro a hF
    refine wl hF rfl rfl rfl (r_neq (hF.ev rfl) (hF.ev rfl)) ?_; clear hF a; intro a hF
    refine wl_nil (hK11 _ _ ?_)
    refine wc_fx (t := 28) hF rfl ?_ ?_ <;> clear hF <;> intro c28 hF <;> try simp only [zb1, zb2, zb3, zb4, zb5, zb6, zb7, zb8] at c28
    ·
      exfalso; first | exact (c28 rfl).elim | omega
    clear c28 hv23 hm23 hl23 hc23 hz23 hkk23 r23_0 r23_1 r23_2 r23_3 r23_4
    refine wp_skip ?_
    refine hK10 _ _ ?_
    refine ws fun K12 hK12 => ?_
    refine wl_mvs (A := [_]) hF rfl ?_; clear hF a; intro a hF
    refine wl hF rfl rfl rfl (r_add (hF.ev rfl) ec) ?_; clear hF a; intro a hF
    rw [w64_id (q := K + 1 + 1) (by omega) (by omega)] at hF
    refine wl_mvs (A := [_]) hF rfl ?_; clear hF a; intro a hF
    refine wl_nil (hK12 _ _ ?_)
    refine wp_seq_k fun K13 hK13 => ?_
    refine ws fun K14 hK14 => ?_
    refine wl_mvs (A := [_, _]) hF rfl ?_; clear hF a; intro a hF
    obtain ⟨g33, o33, m33, q33, cs33, hv33, hm33, hl33, hk33, hz33, hc33⟩ := Rd.idx (ha) hmx
    have hkk33 := hk33; obtain ⟨v33_0, v33_1, v33_2, v33_3, v33_4, rfl, r33_0, r33_1, r33_2, r33_3, r33_4⟩ := hk33
    refine wl hF rfl rfl rfl (r_index sl30 ((hF.ev rfl).trans hv33) (hF.ev rfl) (by omega) (by omega)) ?_; clear hF a; intro a hF
    refine wl hF rfl rfl rfl (r_field fo53_1 (hF.ev rfl)) ?_; clear hF a; intro a hF
    refine wl hF rfl rfl rfl (r_field fo48_1 (hF.ev rfl)) ?_; clear hF a; intro a hF
    refine wl hF rfl rfl rfl (r_load1 sc3 (hF.ev rfl) (cellB hS.old (hc33 2 _ rfl))) ?_; clear hF a; intro a hF
    refine wl_mvs (A := [_]) hF rfl ?_; clear hF a; intro a hF
    refine wl hF rfl rfl rfl (r_neq (hF.ev rfl) (hF.ev rfl)) ?_; clear hF a; intro a hF
    refine wl_nil (hK14 _ _ ?_)
    refine wc_fx (t := 38) hF rfl ?_ ?_ <;> clear hF <;> intro c38 hF <;> try simp only [zb1, zb2, zb3, zb4, zb5, zb6, zb7, zb8] at c38
    ·
      exfalso; first | exact (c38 rfl).elim | omega
    clear c38 hv33 hm33 hl33 hc33 hz33 hkk33 r33_0 r33_1 r33_2 r33_3 r33_4
    refine wp_skip ?_
    refine hK13 _ _ ?_
    refine ws fun K15 hK15 => ?_
    refine wl_mvs (A := [_]) hF rfl ?_; clear hF a; intro a hF
    refine wl hF rfl rfl rfl (r_add (hF.ev rfl) ec) ?_; clear hF a; intro a hF
    rw [w64_id (q := K + 1 + 1 + 1) (by omega) (by omega)] at hF
    refine wl_mvs (A := [_]) hF rfl ?_; clear hF a; intro a hF
    refine wl_nil (hK15 _ _ ?_)
    refine wp_seq_k fun K16 hK16 => ?_
    refine ws fun K17 hK17 => ?_
    refine wl_mvs (A := [_, _]) hF rfl ?_; clear hF a; intro a hF
    obtain ⟨g43, o43, m43, q43, cs43, hv43, hm43, hl43, hk43, hz43, hc43⟩ := Rd.idx (ha) hmx
    have hkk43 := hk43; obtain ⟨v43_0, v43_1, v43_2, v43_3, v43_4, rfl, r43_0, r43_1, r43_2, r43_3, r43_4⟩ := hk43
    refine wl hF rfl rfl rfl (r_index sl30 ((hF.ev rfl).trans hv43) (hF.ev rfl) (by omega) (by omega)) ?_; clear hF a; intro a hF
    refine wl hF rfl rfl rfl (r_field fo53_1 (hF.ev rfl)) ?_; clear hF a; intro a hF
    refine wl hF rfl rfl rfl (r_field fo48_2 (hF.ev rfl)) ?_; clear hF a; intro a hF
    refine wl hF rfl rfl rfl (r_load1 sc3 (hF.ev rfl) (cellB hS.old (hc43 3 _ rfl))) ?_; clear hF a; intro a hF
    refine wl_mvs (A := [_]) hF rfl ?_; clear hF a; intro a hF
    refine wl hF rfl rfl rfl (r_neq (hF.ev rfl) (hF.ev rfl)) ?_; clear hF a; intro a hF
    refine wl_nil (hK17 _ _ ?_)
    refine wc_fx (t := 48) hF rfl ?_ ?_ <;> clear hF <;> intro c48 hF <;> try simp only [zb1, zb2, zb3, zb4, zb5, zb6, zb7, zb8] at c48
    ·
      exfalso; first | exact (c48 rfl).elim | omega
    clear c48 hv43 hm43 hl43 hc43 hz43 hkk43 r43_0 r43_1 r43_2 r43_3 r43_4
    refine wp_skip ?_
    refine hK16 _ _ ?_
    refine ws fun K18 hK18 => ?_
    refine wl_mvs (A := [_]) hF rfl ?_; clear hF a; intro a hF
    refine wl hF rfl rfl rfl (r_add (hF.ev rfl) ec) ?_; clear hF a; intro a hF
    rw [w64_id (q := K + 1 + 1 + 1 + 1) (by omega) (by omega)] at hF
    refine wl_mvs (A := [_]) hF rfl ?_; clear hF a; intro a hF
    refine wl_nil (hK18 _ _ ?_)
    refine wp_seq_k fun K19 hK19 => ?_
    refine ws fun K20 hK20 => ?_
    refine wl_mvs (A := [_, _]) hF rfl ?_; clear hF a; intro a hF
    obtain ⟨g53, o53, m53, q53, cs53, hv53, hm53, hl53, hk53, hz53, hc53⟩ := Rd.idx (ha) hmx
    have hkk53 := hk53; obtain ⟨v53_0, v53_1, v53_2, v53_3, v53_4, rfl, r53_0, r53_1, r53_2, r53_3, r53_4⟩ := hk53
    refine wl hF rfl rfl rfl (r_index sl30 ((hF.ev rfl).trans hv53) (hF.ev rfl) (by omega) (by omega)) ?_; clear hF a; intro a hF
    refine wl hF rfl rfl rfl (r_field fo53_2 (hF.ev rfl)) ?_; clear hF a; intro a hF
    refine wl hF rfl rfl rfl (r_field fo50_0 (hF.ev rfl)) ?_; clear hF a; intro a hF
    refine wl hF rfl rfl rfl (r_load1 sc3 (hF.ev rfl) (cellB hS.old (hc53 4 _ rfl))) ?_; clear hF a; intro a hF
    refine wl_mvs (A := [_]) hF rfl ?_; clear hF a; intro a hF
    refine wl hF rfl rfl rfl (r_neq (hF.ev rfl) (hF.ev rfl)) ?_; clear hF a; intro a hF
    refine wl_nil (hK20 _ _ ?_)
    refine wc_fx (t := 58) hF rfl ?_ ?_ <;> clear hF <;> intro c58 hF <;> try simp only [zb1, zb2, zb3, zb4, zb5, zb6, zb7, zb8] at c58
    ·
      exfalso; first | exact (c58 rfl).elim | omega
    clear c58 hv53 hm53 hl53 hc53 hz53 hkk53 r53_0 r53_1 r53_2 r53_3 r53_4
    refine wp_skip ?_
    refine hK19 _ _ ?_
    refine ws fun K21 hK21 => ?_
    refine wl_mvs (A := [_]) hF rfl ?_; clear hF a; intro a hF
    refine wl hF rfl rfl rfl (r_add (hF.ev rfl) ec) ?_; clear hF a; intro a hF
    rw [w64_id (q := K + 1 + 1 + 1 + 1 + 1) (by omega) (by omega)] at hF
    refine wl_mvs (A := [_]) hF rfl ?_; clear hF a; intro a hF
    refine wl_nil (hK21 _ _ ?_)
    refine wp_seq_k fun K22 hK22 => ?_
    refine ws fun K23 hK23 => ?_
    refine wl_mvs (A := [_, _]) hF rfl ?_; clear hF a; intro a hF
    obtain ⟨g63, o63, m63, q63, cs63, hv63, hm63, hl63, hk63, hz63, hc63⟩ := Rd.idx (ha) hmx
    have hkk63 := hk63; obtain ⟨v63_0, v63_1, v63_2, v63_3, v63_4, rfl, r63_0, r63_1, r63_2, r63_3, r63_4⟩ := hk63
    refine wl hF rfl rfl rfl (r_index sl30 ((hF.ev rfl).trans hv63) (hF.ev rfl) (by omega) (by omega)) ?_; clear hF a; intro a hF
    refine wl hF rfl rfl rfl (r_field fo53_2 (hF.ev rfl)) ?_; clear hF a; intro a hF
    refine wl hF rfl rfl rfl (r_field fo50_1 (hF.ev rfl)) ?_; clear hF a; intro a hF
    refine wl hF rfl rfl rfl (r_load1 sc3 (hF.ev rfl) (cellB hS.old (hc63 5 _ rfl))) ?_; clear hF a; intro a hF
    refine wl_mvs (A := [_]) hF rfl ?_; clear hF a; intro a hF
    refine wl hF rfl rfl rfl (r_neq (hF.ev rfl) (hF.ev rfl)) ?_; clear hF a; intro a hF
    refine wl_nil (hK23 _ _ ?_)
    refine wc_fx (t := 68) hF rfl ?_ ?_ <;> clear hF <;> intro c68 hF <;> try simp only [zb1, zb2, zb3, zb4, zb5, zb6, zb7, zb8] at c68
    ·
      exfalso; first | exact (c68 rfl).elim | omega
    clear c68 hv63 hm63 hl63 hc63 hz63 hkk63 r63_0 r63_1 r63_2 r63_3 r63_4
    refine wp_skip ?_
    refine hK22 _ _ ?_
    refine ws fun K24 hK24 => ?_
    refine wl_mvs (A := [_]) hF rfl ?_; clear hF a; intro a hF
    refine wl hF rfl rfl rfl (r_add (hF.ev rfl) ec) ?_; clear hF a; intro a hF
    rw [w64_id (q := K + 1 + 1 + 1 + 1 + 1 + 1) (by omega) (by omega)] at hF
    refine wl_mvs (A := [_]) hF rfl ?_; clear hF a; intro a hF
    refine wl_nil (hK24 _ _ ?_)
    refine wp_seq_k fun K25 hK25 => ?_
    refine ws fun K26 hK26 => ?_
    refine wl_mvs (A := [_, _]) hF rfl ?_; clear hF a; intro a hF
    obtain ⟨g73, o73, m73, q73, cs73, hv73, hm73, hl73, hk73, hz73, hc73⟩ := Rd.idx (ha) hmx
    have hkk73 := hk73; obtain ⟨v73_0, v73_1, v73_2, v73_3, v73_4, rfl, r73_0, r73_1, r73_2, r73_3, r73_4⟩ := hk73
    refine wl hF rfl rfl rfl (r_index sl30 ((hF.ev rfl).trans hv73) (hF.ev rfl) (by omega) (by omega)) ?_; clear hF a; intro a hF
    refine wl hF rfl rfl rfl (r_field fo53_3 (hF.ev rfl)) ?_; clear hF a; intro a hF
    refine wl hF rfl rfl rfl (r_load1 sc3 (hF.ev rfl) (cellB hS.old (hc73 6 _ rfl))) ?_; clear hF a; intro a hF
    refine wl_mvs (A := [_]) hF rfl ?_; clear hF a; intro a hF
    refine wl hF rfl rfl rfl (r_neq (hF.ev rfl) (hF.ev rfl)) ?_; clear hF a; intro a hF
    refine wl_nil (hK26 _ _ ?_)
    refine wc_fx (t := 77) hF rfl ?_ ?_ <;> clear hF <;> intro c77 hF <;> try simp only [zb1, zb2, zb3, zb4, zb5, zb6, zb7, zb8] at c77
    ·
      exfalso; first | exact (c77 rfl).elim | omega
    clear c77 hv73 hm73 hl73 hc73 hz73 hkk73 r73_0 r73_1 r73_2 r73_3 r73_4
    refine wp_skip ?_
    refine hK25 _ _ ?_
    refine ws fun K27 hK27 => ?_
    refine wl_mvs (A := [_]) hF rfl ?_; clear hF a; intro a hF
    refine wl hF rfl rfl rfl (r_add (hF.ev rfl) ec) ?_; clear hF a; intro a hF
    rw [w64_id (q := K + 1 + 1 + 1 + 1 + 1 + 1 + 1) (by omega) (by omega)] at hF
    refine wl_mvs (A := [_]) hF rfl ?_; clear hF a; intro a hF
    refine wl_nil (hK27 _ _ ?_)
    refine wp_seq_k fun K28 hK28 => ?_
    refine ws fun K29 hK29 => ?_
    refine wl_mvs (A := [_, _]) hF rfl ?_; clear hF a; intro a hF
    obtain ⟨g82, o82, m82, q82, cs82, hv82, hm82, hl82, hk82, hz82, hc82⟩ := Rd.idx (ha) hmx
    have hkk82 := hk82; obtain ⟨v82_0, v82_1, v82_2, v82_3, v82_4, rfl, r82_0, r82_1, r82_2, r82_3, r82_4⟩ := hk82
    refine wl hF rfl rfl rfl (r_index sl30 ((hF.ev rfl).trans hv82) (hF.ev rfl) (by omega) (by omega)) ?_; clear hF a; intro a hF
    refine wl hF rfl rfl rfl (r_field fo53_4 (hF.ev rfl)) ?_; clear hF a; intro a hF
    refine wl hF rfl rfl rfl (r_load1 sc3 (hF.ev rfl) (cellB hS.old (hc82 7 _ rfl))) ?_; clear hF a; intro a hF
    refine wl_mvs (A := [_]) hF rfl ?_; clear hF a; intro a hF
    refine wl hF rfl rfl rfl (r_neq (hF.ev rfl) (hF.ev rfl)) ?_; clear hF a; intro a hF
    refine wl_nil (hK29 _ _ ?_)
    refine wc_fx (t := 86) hF rfl ?_ ?_ <;> clear hF <;> intro c86 hF <;> try simp only [zb1, zb2, zb3, zb4, zb5, zb6, zb7, zb8] at c86
    ·
      exfalso; first | exact (c86 rfl).elim | omega
    clear c86 hv82 hm82 hl82 hc82 hz82 hkk82 r82_0 r82_1 r82_2 r82_3 r82_4
    refine wp_skip ?_
    refine hK28 _ _ ?_
    refine ws fun K30 hK30 => ?_
    refine wl_mvs (A := [_]) hF rfl ?_; clear hF a; intro a hF
    refine wl hF rfl rfl rfl (r_add (hF.ev rfl) ec) ?_; clear hF a; intro a hF
    rw [w64_id (q := K + 1 + 1 + 1 + 1 + 1 + 1 + 1 + 1) (by omega) (by omega)] at hF
    refine wl_mvs (A := [_]) hF rfl ?_; clear hF a; intro a hF
    refine wl_nil (hK30 _ _ ?_)
    refine wp_seq_k fun K31 hK31 => ?_
    refine ws fun K32 hK32 => ?_
    refine wl_mvs (A := [_, _]) hF rfl ?_; clear hF a; intro a hF
    obtain ⟨g91, o91, m91, q91, cs91, hv91, hm91, hl91, hk91, hz91, hc91⟩ := Rd.idx (ha) hmx
    have hkk91 := hk91; obtain ⟨v91_0, v91_1, v91_2, v91_3, v91_4, rfl, r91_0, r91_1, r91_2, r91_3, r91_4⟩ := hk91
    refine wl hF rfl rfl rfl (r_index sl30 ((hF.ev rfl).trans hv91) (hF.ev rfl) (by omega) (by omega)) ?_; clear hF a; intro a hF
    refine wl hF rfl rfl rfl (r_field fo53_5 (hF.ev rfl)) ?_; clear hF a; intro a hF
    refine wl hF rfl rfl rfl (r_load1 sc3 (hF.ev rfl) (cellB hS.old (hc91 8 _ rfl))) ?_; clear hF a; intro a hF
    refine wl_mvs (A := [_]) hF rfl ?_; clear hF a; intro a hF
    refine wl hF rfl rfl rfl (r_neq (hF.ev rfl) (hF.ev rfl)) ?_; clear hF a; intro a hF
    refine wl_nil (hK32 _ _ ?_)
    refine wc_fx (t := 95) hF rfl ?_ ?_ <;> clear hF <;> intro c95 hF <;> try simp only [zb1, zb2, zb3, zb4, zb5, zb6, zb7, zb8] at c95
    ·
      exfalso; first | exact (c95 rfl).elim | omega
    clear c95 hv91 hm91 hl91 hc91 hz91 hkk91 r91_0 r91_1 r91_2 r91_3 r91_4
    refine wp_skip ?_
    refine hK31 _ _ ?_
    refine ws fun K33 hK33 => ?_
    refine wl_mvs (A := [_]) hF rfl ?_; clear hF a; intro a hF
    refine wl hF rfl rfl rfl (r_add (hF.ev rfl) ec) ?_; clear hF a; intro a hF
    rw [w64_id (q := K + 1 + 1 + 1 + 1 + 1 + 1 + 1 + 1 + 1) (by omega) (by omega)] at hF
    refine wl_mvs (A := [_]) hF rfl ?_; clear hF a; intro a hF
    refine wl_nil (hK33 _ _ ?_)
    refine wp_seq_k fun K34 hK34 => ?_
    refine ws fun K35 hK35 => ?_
    refine wl_mvs (A := [_, _]) hF rfl ?_; clear hF a; intro a hF
    obtain ⟨g100, o100, m100, q100, cs100, hv100, hm100, hl100, hk100, hz100, hc100⟩ := Rd.idx (ha) hmx
    have hkk100 := hk100; obtain ⟨v100_0, v100_1, v100_2, v100_3, v100_4, rfl, r100_0, r100_1, r100_2, r100_3, r100_4⟩ := hk100
    refine wl hF rfl rfl rfl (r_index sl30 ((hF.ev rfl).trans hv100) (hF.ev rfl) (by omega) (by omega)) ?_; clear hF a; intro a hF
    refine wl hF rfl rfl rfl (r_field fo53_6 (hF.ev rfl)) ?_; clear hF a; intro a hF
    refine wl hF rfl rfl rfl (r_load1 sc3 (hF.ev rfl) (cellB hS.old (hc100 9 _ rfl))) ?_; clear hF a; intro a hF
    refine wl_mvs (A := [_]) hF rfl ?_; clear hF a; intro a hF
    refine wl hF rfl rfl rfl (r_neq (hF.ev rfl) (hF.ev rfl)) ?_; clear hF a; intro a hF
    refine wl_nil (hK35 _ _ ?_)
    refine wc_fx (t := 104) hF rfl ?_ ?_ <;> clear hF <;> intro c104 hF <;> try simp only [zb1, zb2, zb3, zb4, zb5, zb6, zb7, zb8] at c104
    ·
      exfalso; first | exact (c104 rfl).elim | omega
    clear c104 hv100 hm100 hl100 hc100 hz100 hkk100 r100_0 r100_1 r100_2 r100_3 r100_4
    refine wp_skip ?_
    refine hK34 _ _ ?_
    refine ws fun K36 hK36 => ?_
    refine wl_mvs (A := [_]) hF rfl ?_; clear hF a; intro a hF
    refine wl hF rfl rfl rfl (r_add (hF.ev rfl) ec) ?_; clear hF a; intro a hF
    rw [w64_id (q := K + 1 + 1 + 1 + 1 + 1 + 1 + 1 + 1 + 1 + 1) (by omega) (by omega)] at hF
    refine wl_mvs (A := [_]) hF rfl ?_; clear hF a; intro a hF
    refine wl_nil (hK36 _ _ ?_)
    refine wp_seq_k fun K37 hK37 => ?_
    refine ws fun K38 hK38 => ?_
    refine wl_mvs (A := [_, _]) hF rfl ?_; clear hF a; intro a hF
    obtain ⟨g109, o109, m109, q109, cs109, hv109, hm109, hl109, hk109, hz109, hc109⟩ := Rd.idx (ha) hmx
    have hkk109 := hk109; obtain ⟨v109_0, v109_1, v109_2, v109_3, v109_4, rfl, r109_0, r109_1, r109_2, r109_3, r109_4⟩ := hk109
    refine wl hF rfl rfl rfl (r_index sl30 ((hF.ev rfl).trans hv109) (hF.ev rfl) (by omega) (by omega)) ?_; clear hF a; intro a hF
    refine wl hF rfl rfl rfl (r_field fo53_7 (hF.ev rfl)) ?_; clear hF a; intro a hF
    refine wl hF rfl rfl rfl (r_load1 sc3 (hF.ev rfl) (cellB hS.old (hc109 10 _ rfl))) ?_; clear hF a; intro a hF
    refine wl_mvs (A := [_]) hF rfl ?_; clear hF a; intro a hF
    refine wl hF rfl rfl rfl (r_neq (hF.ev rfl) (hF.ev rfl)) ?_; clear hF a; intro a hF
    refine wl_nil (hK38 _ _ ?_)
    refine wc_fx (t := 113) hF rfl ?_ ?_ <;> clear hF <;> intro c113 hF <;> try simp only [zb1, zb2, zb3, zb4, zb5, zb6, zb7, zb8] at c113
    ·
      exfalso; first | exact (c113 rfl).elim | omega
    clear c113 hv109 hm109 hl109 hc109 hz109 hkk109 r109_0 r109_1 r109_2 r109_3 r109_4
    refine wp_skip ?_
    refine hK37 _ _ ?_
    refine ws fun K39 hK39 => ?_
    refine wl_mvs (A := [_]) hF rfl ?_; clear hF a; intro a hF
    refine wl hF rfl rfl rfl (r_add (hF.ev rfl) ec) ?_; clear hF a; intro a hF
    rw [w64_id (q := K + 1 + 1 + 1 + 1 + 1 + 1 + 1 + 1 + 1 + 1 + 1) (by omega) (by omega)] at hF
    refine wl_mvs (A := [_]) hF rfl ?_; clear hF a; intro a hF
    refine wl_nil (hK39 _ _ ?_)
    refine wp_seq_k fun K40 hK40 => ?_
    refine ws fun K41 hK41 => ?_
    refine wl_mvs (A := [_, _]) hF rfl ?_; clear hF a; intro a hF
    obtain ⟨g118, o118, m118, q118, cs118, hv118, hm118, hl118, hk118, hz118, hc118⟩ := Rd.idx (ha) hmx
    have hkk118 := hk118; obtain ⟨v118_0, v118_1, v118_2, v118_3, v118_4, rfl, r118_0, r118_1, r118_2, r118_3, r118_4⟩ := hk118
    refine wl hF rfl rfl rfl (r_index sl30 ((hF.ev rfl).trans hv118) (hF.ev rfl) (by omega) (by omega)) ?_; clear hF a; intro a hF
    refine wl hF rfl rfl rfl (r_field fo53_8 (hF.ev rfl)) ?_; clear hF a; intro a hF
    refine wl hF rfl rfl rfl (r_load1 sc3 (hF.ev rfl) (cellB hS.old (hc118 11 _ rfl))) ?_; clear hF a; intro a hF
    refine wl_mvs (A := [_]) hF rfl ?_; clear hF a; intro a hF
    refine wl hF rfl rfl rfl (r_neq (hF.ev rfl) (hF.ev rfl)) ?_; clear hF a; intro a hF
    refine wl_nil (hK41 _ _ ?_)
    refine wc_fx (t := 122) hF rfl ?_ ?_ <;> clear hF <;> intro c122 hF <;> try simp only [zb1, zb2, zb3, zb4, zb5, zb6, zb7, zb8] at c122
    ·
      exfalso; first | exact (c122 rfl).elim | omega
    clear c122 hv118 hm118 hl118 hc118 hz118 hkk118 r118_0 r118_1 r118_2 r118_3 r118_4
    refine wp_skip ?_
    refine hK40 _ _ ?_
    refine ws fun K42 hK42 => ?_
    refine wl_mvs (A := [_]) hF rfl ?_; clear hF a; intro a hF
    refine wl hF rfl rfl rfl (r_add (hF.ev rfl) ec) ?_; clear hF a; intro a hF
    rw [w64_id (q := K + 1 + 1 + 1 + 1 + 1 + 1 + 1 + 1 + 1 + 1 + 1 + 1) (by omega) (by omega)] at hF
    refine wl_mvs (A := [_]) hF rfl ?_; clear hF a; intro a hF
    refine wl_nil (hK42 _ _ ?_)
    refine wp_seq_k fun K43 hK43 => ?_
    refine ws fun K44 hK44 => ?_
    refine wl_mvs (A := [_, _]) hF rfl ?_; clear hF a; intro a hF
    obtain ⟨g127, o127, m127, q127, cs127, hv127, hm127, hl127, hk127, hz127, hc127⟩ := Rd.idx (ha) hmx
    have hkk127 := hk127; obtain ⟨v127_0, v127_1, v127_2, v127_3, v127_4, rfl, r127_0, r127_1, r127_2, r127_3, r127_4⟩ := hk127
    refine wl hF rfl rfl rfl (r_index sl30 ((hF.ev rfl).trans hv127) (hF.ev rfl) (by omega) (by omega)) ?_; clear hF a; intro a hF
    refine wl hF rfl rfl rfl (r_field fo53_9 (hF.ev rfl)) ?_; clear hF a; intro a hF
    refine wl hF rfl rfl rfl (r_load1 sc3 (hF.ev rfl) (cellB hS.old (hc127 12 _ rfl))) ?_; clear hF a; intro a hF
    refine wl_mvs (A := [_]) hF rfl ?_; clear hF a; intro a hF
    refine wl hF rfl rfl rfl (r_neq (hF.ev rfl) (hF.ev rfl)) ?_; clear hF a; intro a hF
    refine wl_nil (hK44 _ _ ?_)
    refine wc_fx (t := 131) hF rfl ?_ ?_ <;> clear hF <;> intro c131 hF <;> try simp only [zb1, zb2, zb3, zb4, zb5, zb6, zb7, zb8] at c131
    ·
      exfalso; first | exact (c131 rfl).elim | omega
    clear c131 hv127 hm127 hl127 hc127 hz127 hkk127 r127_0 r127_1 r127_2 r127_3 r127_4
    refine wp_skip ?_
    refine hK43 _ _ ?_
    refine ws fun K45 hK45 => ?_
    refine wl_mvs (A := [_]) hF rfl ?_; clear hF a; intro a hF
    refine wl hF rfl rfl rfl (r_add (hF.ev rfl) ec) ?_; clear hF a; intro a hF
    rw [w64_id (q := K + 1 + 1 + 1 + 1 + 1 + 1 + 1 + 1 + 1 + 1 + 1 + 1 + 1) (by omega) (by omega)] at hF
    refine wl_mvs (A := [_]) hF rfl ?_; clear hF a; intro a hF
    refine wl_nil (hK45 _ _ ?_)
    refine wp_seq_k fun K46 hK46 => ?_
    refine ws fun K47 hK47 => ?_
    refine wl_mvs (A := [_, _]) hF rfl ?_; clear hF a; intro a hF
    obtain ⟨g136, o136, m136, q136, cs136, hv136, hm136, hl136, hk136, hz136, hc136⟩ := Rd.idx (ha) hmx
    have hkk136 := hk136; obtain ⟨v136_0, v136_1, v136_2, v136_3, v136_4, rfl, r136_0, r136_1, r136_2, r136_3, r136_4⟩ := hk136
    refine wl hF rfl rfl rfl (r_index sl30 ((hF.ev rfl).trans hv136) (hF.ev rfl) (by omega) (by omega)) ?_; clear hF a; intro a hF
    refine wl hF rfl rfl rfl (r_field fo53_10 (hF.ev rfl)) ?_; clear hF a; intro a hF
    refine wl hF rfl rfl rfl (r_load1 sc3 (hF.ev rfl) (cellB hS.old (hc136 13 _ rfl))) ?_; clear hF a; intro a hF
    refine wl_mvs (A := [_]) hF rfl ?_; clear hF a; intro a hF
    refine wl hF rfl rfl rfl (r_neq (hF.ev rfl) (hF.ev rfl)) ?_; clear hF a; intro a hF
    refine wl_nil (hK47 _ _ ?_)
    refine wc_fx (t := 140) hF rfl ?_ ?_ <;> clear hF <;> intro c140 hF <;> try simp only [zb1, zb2, zb3, zb4, zb5, zb6, zb7, zb8] at c140
    ·
      exfalso; first | exact (c140 rfl).elim | omega
    clear c140 hv136 hm136 hl136 hc136 hz136 hkk136 r136_0 r136_1 r136_2 r136_3 r136_4
    refine wp_skip ?_
    refine hK46 _ _ ?_
    refine ws fun K48 hK48 => ?_
    refine wl_mvs (A := [_]) hF rfl ?_; clear hF a; intro a hF
    refine wl hF rfl rfl rfl (r_add (hF.ev rfl) ec) ?_; clear hF a; intro a hF
    rw [w64_id (q := K + 1 + 1 + 1 + 1 + 1 + 1 + 1 + 1 + 1 + 1 + 1 + 1 + 1 + 1) (by omega) (by omega)] at hF
    refine wl_mvs (A := [_]) hF rfl ?_; clear hF a; intro a hF
    refine wl_nil (hK48 _ _ ?_)
    refine ws fun K49 hK49 => ?_
    refine wl_mvs (A := [_, _]) hF rfl ?_; clear hF a; intro a hF
    obtain ⟨g145, o145, m145, q145, cs145, hv145, hm145, hl145, hk145, hz145, hc145⟩ := Rd.idx (ha) hmx
    have hkk145 := hk145; obtain ⟨v145_0, v145_1, v145_2, v145_3, v145_4, rfl, r145_0, r145_1, r145_2, r145_3, r145_4⟩ := hk145
    refine wl hF rfl rfl rfl (r_index sl30 ((hF.ev rfl).trans hv145) (hF.ev rfl) (by omega) (by omega)) ?_; clear hF a; intro a hF
    refine wl hF rfl rfl rfl (r_field fo53_11 (hF.ev rfl)) ?_; clear hF a; intro a hF
    refine wl hF rfl rfl rfl (r_load1 sc24 (hF.ev rfl) (cellB hS.old (hc145 14 _ rfl))) ?_; clear hF a; intro a hF
    refine wl_mvs (A := [_]) hF rfl ?_; clear hF a; intro a hF
    refine wl_call hF rfl rfl rfl (r_call2 en28 (hF.ev rfl) (hF.ev rfl)) (heldIntS_c (hS.rd r145_0) (by omega) (by first | omega | (simp only [marks_length]; omega))) ?_; clear hF a; rintro v w2 a ⟨rfl, hB_⟩ hF; replace hS := hS.ext hB_; clear hB_
    refine wl_mvs (A := [_]) hF rfl ?_; clear hF a; intro a hF
    refine wl_nil (hK49 _ _ ?_)
    refine wp_seq_k fun K50 hK50 => ?_
    refine ws fun K51 hK51 => ?_
    refine wl_mvs (A := [_]) hF rfl ?_; clear hF a; intro a hF
    refine wl hF rfl rfl rfl (r_lss (hF.ev rfl) ec) ?_; clear hF a; intro a hF
    refine wl_nil (hK51 _ _ ?_)
    refine wc_fx (t := 151) hF rfl ?_ ?_ <;> clear hF <;> intro c151 hF <;> try simp only [zb1, zb2, zb3, zb4, zb5, zb6, zb7, zb8] at c151
    ·
      exfalso; first | exact (c151 rfl).elim | omega
    clear c151 hv145 hm145 hl145 hc145 hz145 hkk145 r145_0 r145_1 r145_2 r145_3 r145_4
    refine wp_skip ?_
    refine hK50 _ _ ?_
    refine ws fun K52 hK52 => ?_
    refine wl_mvs (A := [_, _]) hF rfl ?_; clear hF a; intro a hF
    obtain ⟨g154, o154, m154, q154, cs154, hv154, hm154, hl154, hk154, hz154, hc154⟩ := Rd.idx (ha) hmx
    have hkk154 := hk154; obtain ⟨v154_0, v154_1, v154_2, v154_3, v154_4, rfl, r154_0, r154_1, r154_2, r154_3, r154_4⟩ := hk154
    refine wl hF rfl rfl rfl (r_index sl30 ((hF.ev rfl).trans hv154) (hF.ev rfl) (by omega) (by omega)) ?_; clear hF a; intro a hF
    refine wl hF rfl rfl rfl (r_field fo53_12 (hF.ev rfl)) ?_; clear hF a; intro a hF
    refine wl hF rfl rfl rfl (r_load1 sc24 (hF.ev rfl) (cellB hS.old (hc154 15 _ rfl))) ?_; clear hF a; intro a hF
    refine wl_mvs (A := [_]) hF rfl ?_; clear hF a; intro a hF
    refine wl_call hF rfl rfl rfl (r_call2 en28 (hF.ev rfl) (hF.ev rfl)) (heldIntS_c (hS.rd r154_1) (by omega) (by first | omega | (simp only [marks_length]; omega))) ?_; clear hF a; rintro v w3 a ⟨rfl, hB_⟩ hF; replace hS := hS.ext hB_; clear hB_
    refine wl_mvs (A := [_]) hF rfl ?_; clear hF a; intro a hF
    refine wl_nil (hK52 _ _ ?_)
    refine wp_seq_k fun K53 hK53 => ?_
    refine ws fun K54 hK54 => ?_
    refine wl_mvs (A := [_]) hF rfl ?_; clear hF a; intro a hF
    refine wl hF rfl rfl rfl (r_lss (hF.ev rfl) ec) ?_; clear hF a; intro a hF
    refine wl_nil (hK54 _ _ ?_)
    refine wc_fx (t := 160) hF rfl ?_ ?_ <;> clear hF <;> intro c160 hF <;> try simp only [zb1, zb2, zb3, zb4, zb5, zb6, zb7, zb8] at c160
    ·
      exfalso; first | exact (c160 rfl).elim | omega
    clear c160 hv154 hm154 hl154 hc154 hz154 hkk154 r154_0 r154_1 r154_2 r154_3 r154_4
    refine wp_skip ?_
    refine hK53 _ _ ?_
    refine ws fun K55 hK55 => ?_
    refine wl_mvs (A := [_, _]) hF rfl ?_; clear hF a; intro a hF
    obtain ⟨g163, o163, m163, q163, cs163, hv163, hm163, hl163, hk163, hz163, hc163⟩ := Rd.idx (ha) hmx
    have hkk163 := hk163; obtain ⟨v163_0, v163_1, v163_2, v163_3, v163_4, rfl, r163_0, r163_1, r163_2, r163_3, r163_4⟩ := hk163
    refine wl hF rfl rfl rfl (r_index sl30 ((hF.ev rfl).trans hv163) (hF.ev rfl) (by omega) (by omega)) ?_; clear hF a; intro a hF
    refine wl hF rfl rfl rfl (r_field fo53_13 (hF.ev rfl)) ?_; clear hF a; intro a hF
    refine wl hF rfl rfl rfl (r_load1 sc51 (hF.ev rfl) (cellB hS.old (hc163 16 _ rfl))) ?_; clear hF a; intro a hF
    refine wl_mvs (A := [_]) hF rfl ?_; clear hF a; intro a hF
    refine wl_call hF rfl rfl rfl (r_call2 en86 (hF.ev rfl) (hF.ev rfl)) (heldEntryS_c (xs := _) (hS.rd r163_2) (by omega) (by omega)) ?_; clear hF a; rintro v w4 a ⟨rfl, hB_⟩ hF; replace hS := hS.ext hB_; clear hB_
    refine wl_mvs (A := [_]) hF rfl ?_; clear hF a; intro a hF
    refine wl_nil (hK55 _ _ ?_)
    refine wp_seq_k fun K56 hK56 => ?_
    refine ws fun K57 hK57 => ?_
    refine wl_mvs (A := [_]) hF rfl ?_; clear hF a; intro a hF
    refine wl hF rfl rfl rfl (r_lss (hF.ev rfl) ec) ?_; clear hF a; intro a hF
    refine wl_nil (hK57 _ _ ?_)
    refine wc_fx (t := 169) hF rfl ?_ ?_ <;> clear hF <;> intro c169 hF <;> try simp only [zb1, zb2, zb3, zb4, zb5, zb6, zb7, zb8] at c169
    ·
      exfalso; first | exact (c169 rfl).elim | omega
    clear c169 hv163 hm163 hl163 hc163 hz163 hkk163 r163_0 r163_1 r163_2 r163_3 r163_4
    refine wp_skip ?_
    refine hK56 _ _ ?_
    refine ws fun K58 hK58 => ?_
    refine wl_mvs (A := [_, _]) hF rfl ?_; clear hF a; intro a hF
    obtain ⟨g172, o172, m172, q172, cs172, hv172, hm172, hl172, hk172, hz172, hc172⟩ := Rd.idx (ha) hmx
    have hkk172 := hk172; obtain ⟨v172_0, v172_1, v172_2, v172_3, v172_4, rfl, r172_0, r172_1, r172_2, r172_3, r172_4⟩ := hk172
    refine wl hF rfl rfl rfl (r_index sl30 ((hF.ev rfl).trans hv172) (hF.ev rfl) (by omega) (by omega)) ?_; clear hF a; intro a hF
    refine wl hF rfl rfl rfl (r_field fo53_14 (hF.ev rfl)) ?_; clear hF a; intro a hF
    refine wl hF rfl rfl rfl (r_load1 sc51 (hF.ev rfl) (cellB hS.old (hc172 17 _ rfl))) ?_; clear hF a; intro a hF
    refine wl_mvs (A := [_]) hF rfl ?_; clear hF a; intro a hF
    refine wl_call hF rfl rfl rfl (r_call2 en86 (hF.ev rfl) (hF.ev rfl)) (heldEntryS_c (xs := _) (hS.rd r172_3) (by omega) (by omega)) ?_; clear hF a; rintro v w5 a ⟨rfl, hB_⟩ hF; replace hS := hS.ext hB_; clear hB_
    refine wl_mvs (A := [_]) hF rfl ?_; clear hF a; intro a hF
    refine wl_nil (hK58 _ _ ?_)
    refine wp_seq_k fun K59 hK59 => ?_
    refine ws fun K60 hK60 => ?_
    refine wl_mvs (A := [_]) hF rfl ?_; clear hF a; intro a hF
    refine wl hF rfl rfl rfl (r_lss (hF.ev rfl) ec) ?_; clear hF a; intro a hF
    refine wl_nil (hK60 _ _ ?_)
    refine wc_fx (t := 178) hF rfl ?_ ?_ <;> clear hF <;> intro c178 hF <;> try simp only [zb1, zb2, zb3, zb4, zb5, zb6, zb7, zb8] at c178
    ·
      exfalso; first | exact (c178 rfl).elim | omega
    clear c178 hv172 hm172 hl172 hc172 hz172 hkk172 r172_0 r172_1 r172_2 r172_3 r172_4
    refine wp_skip ?_
    refine hK59 _ _ ?_
    refine ws fun K61 hK61 => ?_
    refine wl_mvs (A := [_, _]) hF rfl ?_; clear hF a; intro a hF
    obtain ⟨g181, o181, m181, q181, cs181, hv181, hm181, hl181, hk181, hz181, hc181⟩ := Rd.idx (ha) hmx
    have hkk181 := hk181; obtain ⟨v181_0, v181_1, v181_2, v181_3, v181_4, rfl, r181_0, r181_1, r181_2, r181_3, r181_4⟩ := hk181
    refine wl hF rfl rfl rfl (r_index sl30 ((hF.ev rfl).trans hv181) (hF.ev rfl) (by omega) (by omega)) ?_; clear hF a; intro a hF
    refine wl hF rfl rfl rfl (r_field fo53_15 (hF.ev rfl)) ?_; clear hF a; intro a hF
    refine wl hF rfl rfl rfl (r_load1 sc24 (hF.ev rfl) (cellB hS.old (hc181 18 _ rfl))) ?_; clear hF a; intro a hF
    refine wl_mvs (A := [_]) hF rfl ?_; clear hF a; intro a hF
    refine wl_call hF rfl rfl rfl (r_call2 en28 (hF.ev rfl) (hF.ev rfl)) (heldIntS_c (hS.rd r181_4) (by omega) (by first | omega | (simp only [marks_length]; omega))) ?_; clear hF a; rintro v w6 a ⟨rfl, hB_⟩ hF; replace hS := hS.ext hB_; clear hB_
    refine wl_mvs (A := [_]) hF rfl ?_; clear hF a; intro a hF
    refine wl_nil (hK61 _ _ ?_)
    refine ws fun K62 hK62 => ?_
    refine wl_mvs (A := [_]) hF rfl ?_; clear hF a; intro a hF
    refine wl hF rfl rfl rfl (r_lss (hF.ev rfl) ec) ?_; clear hF a; intro a hF
    refine wl_nil (hK62 _ _ ?_)
    refine wc_fx (t := 187) hF rfl ?_ ?_ <;> clear hF <;> intro c187 hF <;> try simp only [zb1, zb2, zb3, zb4, zb5, zb6, zb7, zb8] at c187
    ·
      exfalso; first | exact (c187 rfl).elim | omega
    clear c187 hv181 hm181 hl181 hc181 hz181 hkk181 r181_0 r181_1 r181_2 r181_3 r181_4
    refine wp_skip ?_
    simp only [Exit.then, Exit.inBlock, ↓reduceIte]
    refine hK6 _ _ ?_
    refine wp_region_lit ?_
    refine wl_mvs (A := [_]) hF rfl ?_; clear hF a; intro a hF
    refine wl hF rfl rfl rfl (r_add (hF.ev rfl) ec) ?_; clear hF a; intro a hF
    refine wl_mvs (A := [_]) hF rfl ?_; clear hF a; intro a hF
    refine wl_nil ?_
    try simp only [Exit.then, Exit.inBlock, ↓reduceIte]
    refine ⟨k + 1, (by omega), hS, ((((hF.nil.keep hF (t := 4) rfl).keep hF (t := 0) rfl).keepE hF (t := 1) rfl (by rw [hc2]; congr 1; omega)).keepE hF (t := 5) rfl (wk (by omega))), by omega⟩
  rw [mrow_length] at c9
  refine wp_exit ?_
  simp only [Exit.then, Exit.inBlock, ↓reduceIte]
  refine hK2 _ _ ?_
  refine ws fun K63 hK63 => ?_
  refine wl_mvs (A := [_, _]) hF rfl ?_; clear hF a; intro a hF
  refine wl_nil (hK63 _ _ ?_)
  refine wp_ret ?_
  try simp only [Exit.then, Exit.inBlock, ↓reduceIte]
  obtain rfl : k = xs.length := by omega
  rw [List.take_length] at hF
  exact ret1 rfl hF rfl ⟨rfl, hS.old⟩
end Go.Proofs.YtifhfodphoeeoaaGreat.Wk
namespace Go.Proofs.YtifhfodphoeeoaaGreat.Wk
open Go Go.RowKit Sl
set_option linter.unusedVariables false
set_option linter.unusedSimpArgs false
set_option maxRecDepth 20000
def _root_.Go.Proofs.YtifhfodphoeeoaaGreat.Sl.State.cnt (s : Sl.State) : Nat := s.cells.length + s.generations.length + crow Sl.Thread.cnt s.threads
def _root_.Go.Proofs.YtifhfodphoeeoaaGreat.Sl.State.mark (k : Int) (s : Sl.State) : Sl.State := { s with cells := marks k s.cells.length, generations := marks (k + s.cells.length) s.generations.length, threads := mrow Sl.Thread.mark Sl.Thread.cnt (k + s.cells.length + s.generations.length) s.threads }
theorem crow_four (xs : List Entry) : crow Sl.Entry.cnt xs = 4 * xs.length := by
  induction xs with
  | nil => rfl
  | cons x xs ih => simp only [crow, ih, List.length_cons, Sl.Entry.cnt]; omega
theorem thread_cnt (t : Sl.Thread) : t.cnt ≤ 14 + 4 * t.size := by
  unfold Sl.Thread.cnt Sl.Thread.size
  rw [crow_four, crow_four]; omega
theorem threads_cnt (xs : List Sl.Thread) : crow Sl.Thread.cnt xs ≤ 14 * xs.length + 4 * crow Sl.Thread.size xs := by
  induction xs with
  | nil => simp [crow]
  | cons x xs ih =>
    have := thread_cnt x
    simp only [crow, List.length_cons]; omega
theorem state_cnt (s : Sl.State) : s.cnt ≤ 14 * s.size := by
  have := threads_cnt s.threads
  unfold Sl.State.cnt Sl.State.size; omega
set_option maxHeartbeats 4000000 in
set_option maxRecDepth 20000 in
theorem markState_c {W w : World} {l : List Res} {s : Sl.State} {vs : List Slv} {k0 : Int} (hS : Sep W (Part stateEK s vs :: l) w) (h0 : 0 ≤ k0) (h1 : k0 + s.cnt < 9223372036854775807) : Calls Tryz.prog 14 #[.agg (stateEK.cells s vs).toArray, vi k0] w (Ret fun v w' => v = vi (k0 + s.cnt) ∧ Sep W (Part stateEK (s.mark k0) vs :: l) w') := by
  refine calls_fr Tryz.func14 rfl Tryz.ntmps14 rfl ?_
  intro a hF
  unfold Sl.State.cnt at *
  replace hS : Sep W (Own intEK (sv (vs.getD 0 (none, 0, 0))) s.cells :: Own intEK (sv (vs.getD 1 (none, 0, 0))) s.generations :: Own threadEK (sv (vs.getD 2 (none, 0, 0))) s.threads :: l) w := hS.part_open
  refine ws fun K1 hK1 => ?_
  refine wl_box (cs := [_, _, _, _, _, _, _, _, _, _, _, _, _]) hF hS rfl (hF.ev rfl) rfl ?_; clear hF a; intro g1 w1 a hS_ hB_ hF; replace hS := hS_; clear hS_ hB_
  refine wl_mvs (A := [_]) hF rfl ?_; clear hF a; intro a hF
  refine wl_nil (hK1 _ _ ?_)
  refine ws fun K2 hK2 => ?_
  refine wl hF rfl rfl rfl (r_field fo32_1 (hF.ev rfl)) ?_; clear hF a; intro a hF
  refine wl hF rfl rfl rfl (r_load1 sc24 (hF.ev rfl) (hS.box (i := 0) rfl rfl)) ?_; clear hF a; intro a hF
  refine wl_mvs (A := [_]) hF rfl ?_; clear hF a; intro a hF
  refine wl_call hF rfl rfl rfl (r_call2 en27 (hF.ev rfl) (hF.ev rfl)) (markIntS_c hS (q := 1) rfl (by omega) (by first | omega | (simp only [marks_length]; omega))) ?_; clear hF a; rintro v w2 a ⟨rfl, hS_⟩ hF; replace hS := hS_; clear hS_; dsimp only [List.set] at hS
  refine wl_mvs (A := [_]) hF rfl ?_; clear hF a; intro a hF
  refine wl_nil (hK2 _ _ ?_)
  refine ws fun K3 hK3 => ?_
  refine wl hF rfl rfl rfl (r_field fo32_2 (hF.ev rfl)) ?_; clear hF a; intro a hF
  refine wl hF rfl rfl rfl (r_load1 sc24 (hF.ev rfl) (hS.box (i := 0) rfl rfl)) ?_; clear hF a; intro a hF
  refine wl_mvs (A := [_]) hF rfl ?_; clear hF a; intro a hF
  refine wl_call hF rfl rfl rfl (r_call2 en27 (hF.ev rfl) (hF.ev rfl)) (markIntS_c hS (q := 2) rfl (by omega) (by first | omega | (simp only [marks_length]; omega))) ?_; clear hF a; rintro v w3 a ⟨rfl, hS_⟩ hF; replace hS := hS_; clear hS_; dsimp only [List.set] at hS
  refine wl_mvs (A := [_]) hF rfl ?_; clear hF a; intro a hF
  refine wl_nil (hK3 _ _ ?_)
  refine ws fun K4 hK4 => ?_
  refine wl hF rfl rfl rfl (r_field fo32_3 (hF.ev rfl)) ?_; clear hF a; intro a hF
  refine wl hF rfl rfl rfl (r_load1 sc30 (hF.ev rfl) (hS.box (i := 0) rfl rfl)) ?_; clear hF a; intro a hF
  refine wl_mvs (A := [_]) hF rfl ?_; clear hF a; intro a hF
  replace hS := hS.pull (p := 3) rfl; dsimp only [List.eraseIdx] at hS
  refine wl_call hF rfl rfl rfl (r_call2 en43 (hF.ev rfl) (hF.ev rfl)) (markThreadS_c hS (by omega) (by omega)) ?_; clear hF a; rintro v w4 a ⟨rfl, hS_⟩ hF; replace hS := hS_; clear hS_
  refine wl_mvs (A := [_]) hF rfl ?_; clear hF a; intro a hF
  refine wl_nil (hK4 _ _ ?_)
  refine ws fun K5 hK5 => ?_
  refine wl_mvs (A := [_, _]) hF rfl ?_; clear hF a; intro a hF
  refine wl_nil (hK5 _ _ ?_)
  refine wp_ret ?_
  try simp only [Exit.then, Exit.inBlock, ↓reduceIte]
  refine ret1 rfl hF rfl ⟨by congr 1; omega, ?_⟩
  exact (Sep.headp (A := [_, _, _, _]) (B := [_, _, _]) hS [2, 3, 0] (by decide) rfl rfl).part_mk (ek := stateEK) (x := s.mark k0) (vs := vs) rfl
set_option maxHeartbeats 4000000 in
set_option maxRecDepth 20000 in
theorem heldState_c {W : World} {s : Sl.State} {cs : List Value} {k0 : Int} (hm : stateEK.K W (s.mark k0) cs) (h0 : 0 ≤ k0) (h1 : k0 + s.cnt < 9223372036854775807) : Calls Tryz.prog 15 #[.agg cs.toArray, vi k0] W (Ret fun v w' => v = vi (k0 + s.cnt) ∧ Below W.heap.size W w') := by
  refine calls_fr Tryz.func15 rfl Tryz.ntmps15 rfl ?_
  intro a hF
  obtain ⟨v0, v1, v2, rfl, r0, r1, r2⟩ := hm
  unfold Sl.State.cnt at *
  have hS := Sep.refl W
  refine ws fun K1 hK1 => ?_
  refine wl_box (cs := [_, _, _, _, _, _, _, _, _, _, _, _, _]) hF hS rfl (hF.ev rfl) rfl ?_; clear hF a; intro g1 w1 a hS_ hB_ hF; replace hS := hS_; clear hS_ hB_
  refine wl_mvs (A := [_]) hF rfl ?_; clear hF a; intro a hF
  refine wl_nil (hK1 _ _ ?_)
  refine ws fun K2 hK2 => ?_
  refine wl hF rfl rfl rfl (r_field fo32_1 (hF.ev rfl)) ?_; clear hF a; intro a hF
  refine wl hF rfl rfl rfl (r_load1 sc24 (hF.ev rfl) (hS.box (i := 0) rfl rfl)) ?_; clear hF a; intro a hF
  refine wl_mvs (A := [_]) hF rfl ?_; clear hF a; intro a hF
  refine wl_call hF rfl rfl rfl (r_call2 en28 (hF.ev rfl) (hF.ev rfl)) (heldIntS_c (hS.rd r0) (by omega) (by omega)) ?_; clear hF a; rintro v w2 a ⟨rfl, hB_⟩ hF; replace hS := hS.ext hB_; clear hB_
  refine wl_mvs (A := [_]) hF rfl ?_; clear hF a; intro a hF
  refine wl_nil (hK2 _ _ ?_)
  refine wp_seq_k fun K3 hK3 => ?_
  refine ws fun K4 hK4 => ?_
  refine wl_mvs (A := [_]) hF rfl ?_; clear hF a; intro a hF
  refine wl hF rfl rfl rfl (r_lss (hF.ev rfl) ec) ?_; clear hF a; intro a hF
  refine wl_nil (hK4 _ _ ?_)
  refine wc_fx (t := 10) hF rfl ?_ ?_ <;> clear hF <;> intro c10 hF <;> try simp only [zb1, zb2, zb3, zb4, zb5, zb6, zb7, zb8] at c10
  ·
    exfalso; first | omega | exact (c10 rfl).elim | (simp_all; done)
  refine wp_skip ?_
  refine hK3 _ _ ?_
  refine ws fun K5 hK5 => ?_
  refine wl hF rfl rfl rfl (r_field fo32_2 (hF.ev rfl)) ?_; clear hF a; intro a hF
  refine wl hF rfl rfl rfl (r_load1 sc24 (hF.ev rfl) (hS.box (i := 0) rfl rfl)) ?_; clear hF a; intro a hF
  refine wl_mvs (A := [_]) hF rfl ?_; clear hF a; intro a hF
  refine wl_call hF rfl rfl rfl (r_call2 en28 (hF.ev rfl) (hF.ev rfl)) (heldIntS_c (hS.rd r1) (by omega) (by omega)) ?_; clear hF a; rintro v w3 a ⟨rfl, hB_⟩ hF; replace hS := hS.ext hB_; clear hB_
  refine wl_mvs (A := [_]) hF rfl ?_; clear hF a; intro a hF
  refine wl_nil (hK5 _ _ ?_)
  refine wp_seq_k fun K6 hK6 => ?_
  refine ws fun K7 hK7 => ?_
  refine wl_mvs (A := [_]) hF rfl ?_; clear hF a; intro a hF
  refine wl hF rfl rfl rfl (r_lss (hF.ev rfl) ec) ?_; clear hF a; intro a hF
  refine wl_nil (hK7 _ _ ?_)
  refine wc_fx (t := 16) hF rfl ?_ ?_ <;> clear hF <;> intro c16 hF <;> try simp only [zb1, zb2, zb3, zb4, zb5, zb6, zb7, zb8] at c16
  ·
    exfalso; first | omega | exact (c16 rfl).elim | (simp_all; done)
  refine wp_skip ?_
  refine hK6 _ _ ?_
  refine ws fun K8 hK8 => ?_
  refine wl hF rfl rfl rfl (r_field fo32_3 (hF.ev rfl)) ?_; clear hF a; intro a hF
  refine wl hF rfl rfl rfl (r_load1 sc30 (hF.ev rfl) (hS.box (i := 0) rfl rfl)) ?_; clear hF a; intro a hF
  refine wl_mvs (A := [_]) hF rfl ?_; clear hF a; intro a hF
  refine wl_call hF rfl rfl rfl (r_call2 en44 (hF.ev rfl) (hF.ev rfl)) (heldThreadS_c (xs := s.threads) (hS.rd r2) (by omega) (by omega)) ?_; clear hF a; rintro v w4 a ⟨rfl, hB_⟩ hF; replace hS := hS.ext hB_; clear hB_
  refine wl_mvs (A := [_]) hF rfl ?_; clear hF a; intro a hF
  refine wl_nil (hK8 _ _ ?_)
  refine wp_seq_k fun K9 hK9 => ?_
  refine ws fun K10 hK10 => ?_
  refine wl_mvs (A := [_]) hF rfl ?_; clear hF a; intro a hF
  refine wl hF rfl rfl rfl (r_lss (hF.ev rfl) ec) ?_; clear hF a; intro a hF
  refine wl_nil (hK10 _ _ ?_)
  refine wc_fx (t := 22) hF rfl ?_ ?_ <;> clear hF <;> intro c22 hF <;> try simp only [zb1, zb2, zb3, zb4, zb5, zb6, zb7, zb8] at c22
  ·
    exfalso; first | omega | exact (c22 rfl).elim | (simp_all; done)
  refine wp_skip ?_
  refine hK9 _ _ ?_
  refine ws fun K11 hK11 => ?_
  refine wl_mvs (A := [_, _]) hF rfl ?_; clear hF a; intro a hF
  refine wl_nil (hK11 _ _ ?_)
  refine wp_ret ?_
  try simp only [Exit.then, Exit.inBlock, ↓reduceIte]
  exact ret1 rfl hF rfl ⟨by congr 1; omega, hS.old⟩
end Go.Proofs.YtifhfodphoeeoaaGreat.Wk
namespace Go.Proofs.YtifhfodphoeeoaaGreat.Wk
open Go Go.RowKit Sl
set_option linter.unusedVariables false
set_option linter.unusedSimpArgs false
set_option maxRecDepth 20000
set_option maxHeartbeats 4000000 in
set_option maxRecDepth 20000 in
theorem law_FnExactStepReclaim {W : World} {s : Sl.State} {cs : List Value} (hm : stateEK.K W s cs) (hw : s.wf) {p : Int} (hp : int64 p) : Calls Tryz.prog 6 #[.agg cs.toArray, vi p] W (Ret fun v w' => v = .bool true ∧ Below W.heap.size W w') := by
  refine calls_fr Tryz.func6 rfl Tryz.ntmps6 rfl ?_
  intro a hF
  have hS := Sep.refl W
  obtain ⟨v0, v1, v2, rfl, r0, r1, r2⟩ := hm
  have hm : stateEK.K W s (s.encv v0 v1 v2) := ⟨_, _, _, rfl, r0, r1, r2⟩
  have hcs := state_cnt s
  have hsz_ := stepOf_size (isf := isC) (f := reclaimS) (s := s) (p := p) 1 reclaimS_size
  have hcs_ := state_cnt s
  have hcn_ := state_cnt (stepOf isC reclaimS s p).1
  refine ws fun K1 hK1 => ?_
  refine wl_box (cs := [_, _, _, _, _, _, _, _, _, _, _, _, _]) hF hS rfl (hF.ev rfl) rfl ?_; clear hF a; intro g1 w1 a hS_ hB_ hF; replace hS := hS_; clear hS_ hB_
  refine wl_mvs (A := [_]) hF rfl ?_; clear hF a; intro a hF
  refine wl_nil (hK1 _ _ ?_)
  refine ws fun K2 hK2 => ?_
  refine wl_mvs (A := [_]) hF rfl ?_; clear hF a; intro a hF
  refine wl_nil (hK2 _ _ ?_)
  refine ws fun K3 hK3 => ?_
  refine wl hF rfl rfl rfl (r_loadn ag27 (hF.ev rfl) (hS.box_rd (i := 0) rfl) sz27) ?_; clear hF a; intro a hF
  refine wl_mvs (A := [_]) hF rfl ?_; clear hF a; intro a hF
  refine wl_call hF rfl rfl rfl (r_call2 en9 (hF.ev rfl) (hF.ev rfl)) (szState_c (hS.k hm) (by omega) (by omega)) ?_; clear hF a; rintro v w2 a ⟨⟨r18, rfl, e1_18, e2_18, e3_18⟩, hB_⟩ hF; replace hS := hS.ext hB_; clear hB_
  refine wl_mvs (A := [_]) hF rfl ?_; clear hF a; intro a hF
  refine wl_nil (hK3 _ _ ?_)
  refine wp_seq_k fun K4 hK4 => ?_
  refine ws fun K5 hK5 => ?_
  refine wl_mvs (A := [_]) hF rfl ?_; clear hF a; intro a hF
  refine wl hF rfl rfl rfl (r_lss (hF.ev rfl) ec) ?_; clear hF a; intro a hF
  refine wl_nil (hK5 _ _ ?_)
  first | refine wc_dec (hF.ev rfl) (fun c20 => ?_) (fun c20 => ?_) | refine wc_ndec (hF.ev rfl) (fun c20 => ?_) (fun c20 => ?_) | refine wc_b (hF.ev rfl) (fun c20 => ?_) (fun c20 => ?_)
  ·
    refine ws fun K6 hK6 => ?_
    refine wl_mvs (A := [_]) hF rfl ?_; clear hF a; intro a hF
    refine wl_nil (hK6 _ _ ?_)
    refine wp_ret ?_
    try simp only [Exit.then, Exit.inBlock, ↓reduceIte]
    exact ret1 rfl hF rfl ⟨rfl, hS.old⟩
  refine wp_skip ?_
  refine hK4 _ _ ?_
  refine ws fun K7 hK7 => ?_
  refine wl hF rfl rfl rfl (r_loadn ag27 (hF.ev rfl) (hS.box_rd (i := 0) rfl) sz27) ?_; clear hF a; intro a hF
  refine wl_mk hF hS rfl rfl rfl (r_call1 en11 (hF.ev rfl)) (toState_c (hS.k hm) (by omega)) ?_; clear hF a; rintro vs23 w3 a hS_ hF; replace hS := hS_; clear hS_; dsimp only [List.cons_append, List.nil_append] at hS
  refine wl_mvs (A := [_]) hF rfl ?_; clear hF a; intro a hF
  refine wl_mk hF hS rfl rfl rfl (r_call2 en20 (hF.ev rfl) (hF.ev rfl)) (specStepReclaim_c (hS.part_k (i := 0) rfl) hw (by omega) hp) ?_; clear hF a; rintro vs25 w4 a hS_ hF; replace hS := hS_; clear hS_; dsimp only [List.cons_append, List.nil_append] at hS
  refine wl_mvs (A := [_]) hF rfl ?_; clear hF a; intro a hF
  refine wl hF rfl rfl rfl (r_extract (hF.ev rfl) rfl) ?_; clear hF a; intro a hF
  refine wl hF rfl rfl rfl (r_extract (hF.ev rfl) rfl) ?_; clear hF a; intro a hF
  refine wl_alloc hF hS rfl zr32 ?_; clear hF a; intro g2 w5 a hS_ hB_ hF; replace hS := hS_; clear hS_ hB_
  refine wl_storew hF hS (i := 0) rfl (hF.ev rfl) (hF.ev rfl) sz32 rfl rfl ?_; intro w6 hS_; replace hS := hS_; clear hS_; dsimp only [List.set, Nat.reduceAdd] at hS
  refine wl_mvs (A := [_]) hF rfl ?_; clear hF a; intro a hF
  refine wl_nil (hK7 _ _ ?_)
  refine ws fun K8 hK8 => ?_
  refine wl hF rfl rfl rfl (r_loadn ag27 (hF.ev rfl) (hS.box_rd (i := 3) rfl) sz27) ?_; clear hF a; intro a hF
  refine wl_mk hF hS rfl rfl rfl (r_call1 en11 (hF.ev rfl)) (toState_c (hS.k hm) (by omega)) ?_; clear hF a; rintro vs29 w7 a hS_ hF; replace hS := hS_; clear hS_; dsimp only [List.cons_append, List.nil_append] at hS
  refine wl_alloc hF hS rfl zr32 ?_; clear hF a; intro g3 w8 a hS_ hB_ hF; replace hS := hS_; clear hS_ hB_
  refine wl_storew hF hS (i := 0) rfl (hF.ev rfl) (hF.ev rfl) sz32 rfl rfl ?_; intro w9 hS_; replace hS := hS_; clear hS_; dsimp only [List.set, Nat.reduceAdd] at hS
  refine wl_nil (hK8 _ _ ?_)
  refine ws fun K9 hK9 => ?_
  refine wl hF rfl rfl rfl (r_loadn ag32 (hF.ev rfl) (hS.box_rd (i := 0) rfl) sz32) ?_; clear hF a; intro a hF
  refine wl_mvs (A := [_]) hF rfl ?_; clear hF a; intro a hF
  refine wl_mk hF hS rfl rfl rfl (r_call2 en21 (hF.ev rfl) (hF.ev rfl)) (implStepReclaim_c (hS.part_k (i := 1) rfl) hw (by omega) hp) ?_; clear hF a; rintro vs33 w10 a hS_ hF; replace hS := hS_; clear hS_; dsimp only [List.cons_append, List.nil_append] at hS
  refine wl_mvs (A := [_]) hF rfl ?_; clear hF a; intro a hF
  refine wl hF rfl rfl rfl (r_extract (hF.ev rfl) rfl) ?_; clear hF a; intro a hF
  refine wl hF rfl rfl rfl (r_extract (hF.ev rfl) rfl) ?_; clear hF a; intro a hF
  refine wl_alloc hF hS rfl zr32 ?_; clear hF a; intro g4 w11 a hS_ hB_ hF; replace hS := hS_; clear hS_ hB_
  refine wl_storew hF hS (i := 0) rfl (hF.ev rfl) (hF.ev rfl) sz32 rfl rfl ?_; intro w12 hS_; replace hS := hS_; clear hS_; dsimp only [List.set, Nat.reduceAdd] at hS
  refine wl_mvs (A := [_]) hF rfl ?_; clear hF a; intro a hF
  refine wl_nil (hK9 _ _ ?_)
  refine wp_seq_k fun K10 hK10 => ?_
  refine ws fun K11 hK11 => ?_
  refine wl hF rfl rfl rfl (r_loadn ag32 (hF.ev rfl) (hS.box_rd (i := 0) rfl) sz32) ?_; clear hF a; intro a hF
  refine wl hF rfl rfl rfl (r_loadn ag32 (hF.ev rfl) (hS.box_rd (i := 4) rfl) sz32) ?_; clear hF a; intro a hF
  refine wl_call hF rfl rfl rfl (r_call2 en13 (hF.ev rfl) (hF.ev rfl)) (eqState_same (hS.part_k (i := 1) rfl) (hS.part_k (i := 5) rfl)) ?_; clear hF a; rintro v w13 a ⟨rfl, hB_⟩ hF; replace hS := hS.ext hB_; clear hB_
  refine wl hF rfl rfl rfl (r_not (hF.ev rfl)) ?_; clear hF a; intro a hF
  refine wl_mvs (A := [_, _, _]) hF rfl ?_; clear hF a; intro a hF
  refine wl_take hF rfl rfl rfl rfl ?_
  refine wl hF rfl rfl rfl (r_neqb bl4 (hF.ev rfl) (hF.ev rfl)) ?_; clear hF a; intro a hF
  refine wl hF rfl rfl rfl (r_pick_f (hF.ev rfl) (hF.ev rfl)) ?_; clear hF a; intro a hF
  refine wl_nil (hK11 _ _ ?_)
  first | refine wc_dec (hF.ev rfl) (fun c44 => ?_) (fun c44 => ?_) | refine wc_ndec (hF.ev rfl) (fun c44 => ?_) (fun c44 => ?_) | refine wc_b (hF.ev rfl) (fun c44 => ?_) (fun c44 => ?_)
  · exfalso; first | omega | exact (c44 rfl).elim | (simp_all; done)
  refine wp_skip ?_
  refine hK10 _ _ ?_
  refine wp_seq_k fun K12 hK12 => ?_
  refine wp_seq_k fun K13 hK13 => ?_
  refine wp_region_todo (is := [0, 1, 2, 3, 4]) [] [] (by kernel_rfl) hF hS ⟨trivial, by decide, by decide, by decide⟩ (by kernel_rfl) ?_; clear hF; intro hl_ wd hSd
  refine todo_quiet hl_ (by kernel_rfl) rfl rfl rfl rfl rfl (fun a w_ hF hB_ => r_loadn ag32 (hF.ev rfl) ((hSd.ext hB_).box_rd (i := 2) rfl) sz32) ?_
  refine todo_quiet hl_ (by kernel_rfl) rfl rfl rfl rfl rfl (fun a w_ hF hB_ => r_loadn ag27 (hF.ev rfl) ((hSd.ext hB_).box_rd (i := 7) rfl) sz27) ?_
  refine todo_mk hl_ rfl (by kernel_rfl) rfl rfl rfl rfl rfl (fun a w_ hF => r_call1 en11 (hF.ev rfl)) (fun w_ hS => toState_c (hS.k hm) (by omega)) ?_; rintro vs47
  refine todo_rd hl_ rfl (by kernel_rfl) rfl rfl rfl rfl rfl (fun a w_ hF => r_call2 en13 (hF.ev rfl) (hF.ev rfl)) (fun w_ hS => eqState_same (hS.part_k (i := 4) rfl) (hS.part_k (i := 0) rfl)) ?_
  refine todo_pure hl_ (by kernel_rfl) rfl (gw0 rfl) rfl rfl rfl (fun a w_ hF => r_not (hF.ev rfl)) ?_
  refine todo_fin hl_ rfl (by kernel_rfl) (tl := []) rfl ?_; clear hS a; intro a w14 hF hA_
  have hS := hA_.sep; clear hA_
  clear hl_; try clear hSd
  try dsimp only [List.cons_append, List.nil_append, List.set] at hS
  try clear wd
  refine wl_nil ⟨rfl, ?_⟩
  refine hK13 _ _ ?_
  refine wc_false (hF.ev rfl) ?_
  refine wp_skip ?_
  refine hK12 _ _ ?_
  refine ws fun K14 hK14 => ?_
  refine wl_mvs (A := [_]) hF rfl ?_; clear hF a; intro a hF
  refine wl_nil (hK14 _ _ ?_)
  refine ws fun K15 hK15 => ?_
  refine wl hF rfl rfl rfl (r_loadn ag32 (hF.ev rfl) (hS.box_rd (i := 3) rfl) sz32) ?_; clear hF a; intro a hF
  refine wl_mvs (A := [_]) hF rfl ?_; clear hF a; intro a hF
  replace hS := hS.pull (p := 4) rfl; dsimp only [List.eraseIdx] at hS
  refine wl_call hF rfl rfl rfl (r_call2 en14 (hF.ev rfl) (hF.ev rfl)) (markState_c hS (by omega) (by omega)) ?_; clear hF a; rintro v w15 a ⟨rfl, hS_⟩ hF; replace hS := hS_; clear hS_
  refine wl_mvs (A := [_]) hF rfl ?_; clear hF a; intro a hF
  refine wl_nil (hK15 _ _ ?_)
  refine wp_seq_k fun K16 hK16 => ?_
  refine ws fun K17 hK17 => ?_
  refine wl_mvs (A := [_]) hF rfl ?_; clear hF a; intro a hF
  refine wl hF rfl rfl rfl (r_lss (hF.ev rfl) ec) ?_; clear hF a; intro a hF
  refine wl_mvs (A := [_]) hF rfl ?_; clear hF a; intro a hF
  revert hF; intro hF0; refine bsplit (t := 55) hF0 rfl (fun b55 hF => ?_) (fun b55 hF => ?_)
  · exfalso; clear hF hF0; try simp only [decide_eq_true_eq, decide_eq_false_iff_not, Bool.not_eq_true', Bool.not_eq_false'] at b55
    first | omega | exact (b55 rfl).elim | (simp_all; done)
  clear hF0
  refine wl_take hF rfl rfl rfl rfl ?_
  refine wl hF rfl rfl rfl (r_loadn ag32 (hF.ev rfl) (hS.box_rd (i := 2) rfl) sz32) ?_; clear hF a; intro a hF
  refine wl_take hF rfl rfl rfl rfl ?_
  refine wl hF rfl rfl rfl (r_loadn ag32 (hF.ev rfl) (hS.box_rd (i := 5) rfl) sz32) ?_; clear hF a; intro a hF
  refine wl_take hF rfl rfl rfl rfl ?_
  refine wl_call hF rfl rfl rfl (r_call2 en13 (hF.ev rfl) (hF.ev rfl)) (eqState_same (hS.part_k (i := 3) rfl) (hS.part_k (i := 6) rfl)) ?_; clear hF a; rintro v w16 a ⟨rfl, hB_⟩ hF; replace hS := hS.ext hB_; clear hB_
  refine wl_take hF rfl rfl rfl rfl ?_
  refine wl hF rfl rfl rfl (r_not (hF.ev rfl)) ?_; clear hF a; intro a hF
  refine wl hF rfl rfl rfl (r_pick_f (hF.ev rfl) (hF.ev rfl)) ?_; clear hF a; intro a hF
  refine wl_mvs (A := [_, _, _]) hF rfl ?_; clear hF a; intro a hF
  refine wl_take hF rfl rfl rfl rfl ?_
  refine wl hF rfl rfl rfl (r_neqb bl4 (hF.ev rfl) (hF.ev rfl)) ?_; clear hF a; intro a hF
  refine wl hF rfl rfl rfl (r_pick_f (hF.ev rfl) (hF.ev rfl)) ?_; clear hF a; intro a hF
  refine wl_nil (hK17 _ _ ?_)
  first | refine wc_dec (hF.ev rfl) (fun c65 => ?_) (fun c65 => ?_) | refine wc_ndec (hF.ev rfl) (fun c65 => ?_) (fun c65 => ?_) | refine wc_b (hF.ev rfl) (fun c65 => ?_) (fun c65 => ?_)
  · exfalso; first | omega | exact (c65 rfl).elim | (simp_all; done)
  refine wp_skip ?_
  refine hK16 _ _ ?_
  refine ws fun K18 hK18 => ?_
  refine wl_mvs (A := [_]) hF rfl ?_; clear hF a; intro a hF
  refine wl_nil (hK18 _ _ ?_)
  refine ws fun K19 hK19 => ?_
  refine wl hF rfl rfl rfl (r_loadn ag32 (hF.ev rfl) (hS.box_rd (i := 2) rfl) sz32) ?_; clear hF a; intro a hF
  refine wl_mvs (A := [_]) hF rfl ?_; clear hF a; intro a hF
  replace hS := hS.pull (p := 3) rfl; dsimp only [List.eraseIdx] at hS
  refine wl_call hF rfl rfl rfl (r_call2 en14 (hF.ev rfl) (hF.ev rfl)) (markState_c hS (by omega) (by omega)) ?_; clear hF a; rintro v w17 a ⟨rfl, hS_⟩ hF; replace hS := hS_; clear hS_
  refine wl_mvs (A := [_]) hF rfl ?_; clear hF a; intro a hF
  refine wl_nil (hK19 _ _ ?_)
  refine ws fun K20 hK20 => ?_
  refine wl_mvs (A := [_]) hF rfl ?_; clear hF a; intro a hF
  refine wl_nil (hK20 _ _ ?_)
  refine ws fun K21 hK21 => ?_
  refine wl hF rfl rfl rfl (r_loadn ag32 (hF.ev rfl) (hS.box_rd (i := 3) rfl) sz32) ?_; clear hF a; intro a hF
  refine wl_mvs (A := [_]) hF rfl ?_; clear hF a; intro a hF
  refine wl_call hF rfl rfl rfl (r_call2 en15 (hF.ev rfl) (hF.ev rfl)) (heldState_c (s := _) (hS.part_k (i := 0) rfl) (by omega) (by omega)) ?_; clear hF a; rintro v w18 a ⟨rfl, hB_⟩ hF; replace hS := hS.ext hB_; clear hB_
  refine wl_mvs (A := [_]) hF rfl ?_; clear hF a; intro a hF
  refine wl_nil (hK21 _ _ ?_)
  refine wp_seq_k fun K22 hK22 => ?_
  refine ws fun K23 hK23 => ?_
  refine wl_mvs (A := [_]) hF rfl ?_; clear hF a; intro a hF
  refine wl hF rfl rfl rfl (r_lss (hF.ev rfl) ec) ?_; clear hF a; intro a hF
  refine wl_nil (hK23 _ _ ?_)
  first | refine wc_dec (hF.ev rfl) (fun c73 => ?_) (fun c73 => ?_) | refine wc_ndec (hF.ev rfl) (fun c73 => ?_) (fun c73 => ?_) | refine wc_b (hF.ev rfl) (fun c73 => ?_) (fun c73 => ?_)
  · exfalso; first | omega | exact (c73 rfl).elim | (simp_all; done)
  refine wp_skip ?_
  refine hK22 _ _ ?_
  refine wp_seq_k fun K24 hK24 => ?_
  refine ws fun K25 hK25 => ?_
  refine wl_mvs (A := [_, _]) hF rfl ?_; clear hF a; intro a hF
  refine wl hF rfl rfl rfl (r_neq (hF.ev rfl) (hF.ev rfl)) ?_; clear hF a; intro a hF
  refine wl_nil (hK25 _ _ ?_)
  first | refine wc_dec (hF.ev rfl) (fun c76 => ?_) (fun c76 => ?_) | refine wc_ndec (hF.ev rfl) (fun c76 => ?_) (fun c76 => ?_) | refine wc_b (hF.ev rfl) (fun c76 => ?_) (fun c76 => ?_)
  · exfalso; first | omega | exact (c76 rfl).elim | (simp_all; done)
  refine wp_skip ?_
  refine hK24 _ _ ?_
  refine ws fun K26 hK26 => ?_
  refine wl hF rfl rfl rfl (r_loadn ag27 (hF.ev rfl) (hS.box_rd (i := 8) rfl) sz27) ?_; clear hF a; intro a hF
  refine wl_mk hF hS rfl rfl rfl (r_call1 en11 (hF.ev rfl)) (toState_c (hS.k hm) (by omega)) ?_; clear hF a; rintro vs79 w19 a hS_ hF; replace hS := hS_; clear hS_; dsimp only [List.cons_append, List.nil_append] at hS
  refine wl_mvs (A := [_]) hF rfl ?_; clear hF a; intro a hF
  refine wl_mk hF hS rfl rfl rfl (r_call2 en21 (hF.ev rfl) (hF.ev rfl)) (implStepReclaim_c (hS.part_k (i := 0) rfl) hw (by omega) hp) ?_; clear hF a; rintro vs81 w20 a hS_ hF; replace hS := hS_; clear hS_; dsimp only [List.cons_append, List.nil_append] at hS
  refine wl_mvs (A := [_]) hF rfl ?_; clear hF a; intro a hF
  refine wl hF rfl rfl rfl (r_extract (hF.ev rfl) rfl) ?_; clear hF a; intro a hF
  refine wl hF rfl rfl rfl (r_extract (hF.ev rfl) rfl) ?_; clear hF a; intro a hF
  refine wl_alloc hF hS rfl zr32 ?_; clear hF a; intro g5 w21 a hS_ hB_ hF; replace hS := hS_; clear hS_ hB_
  refine wl_storew hF hS (i := 0) rfl (hF.ev rfl) (hF.ev rfl) sz32 rfl rfl ?_; intro w22 hS_; replace hS := hS_; clear hS_; dsimp only [List.set, Nat.reduceAdd] at hS
  refine wl_mvs (A := [_]) hF rfl ?_; clear hF a; intro a hF
  refine wl_nil (hK26 _ _ ?_)
  refine wp_seq_k fun K27 hK27 => ?_
  refine ws fun K28 hK28 => ?_
  refine wl hF rfl rfl rfl (r_loadn ag32 (hF.ev rfl) (hS.box_rd (i := 0) rfl) sz32) ?_; clear hF a; intro a hF
  refine wl hF rfl rfl rfl (r_loadn ag32 (hF.ev rfl) (hS.box_rd (i := 8) rfl) sz32) ?_; clear hF a; intro a hF
  refine wl_call hF rfl rfl rfl (r_call2 en13 (hF.ev rfl) (hF.ev rfl)) (eqState_same (hS.part_k (i := 1) rfl) (hS.part_k (i := 9) rfl)) ?_; clear hF a; rintro v w23 a ⟨rfl, hB_⟩ hF; replace hS := hS.ext hB_; clear hB_
  refine wl hF rfl rfl rfl (r_not (hF.ev rfl)) ?_; clear hF a; intro a hF
  refine wl_mvs (A := [_, _, _]) hF rfl ?_; clear hF a; intro a hF
  refine wl_take hF rfl rfl rfl rfl ?_
  refine wl hF rfl rfl rfl (r_neqb bl4 (hF.ev rfl) (hF.ev rfl)) ?_; clear hF a; intro a hF
  refine wl hF rfl rfl rfl (r_pick_f (hF.ev rfl) (hF.ev rfl)) ?_; clear hF a; intro a hF
  refine wl_nil (hK28 _ _ ?_)
  first | refine wc_dec (hF.ev rfl) (fun c92 => ?_) (fun c92 => ?_) | refine wc_ndec (hF.ev rfl) (fun c92 => ?_) (fun c92 => ?_) | refine wc_b (hF.ev rfl) (fun c92 => ?_) (fun c92 => ?_)
  · exfalso; first | omega | exact (c92 rfl).elim | (simp_all; done)
  refine wp_skip ?_
  refine hK27 _ _ ?_
  refine ws fun K29 hK29 => ?_
  refine wl_mvs (A := [_]) hF rfl ?_; clear hF a; intro a hF
  refine wl_nil (hK29 _ _ ?_)
  refine ws fun K30 hK30 => ?_
  refine wl hF rfl rfl rfl (r_loadn ag32 (hF.ev rfl) (hS.box_rd (i := 6) rfl) sz32) ?_; clear hF a; intro a hF
  refine wl_mvs (A := [_]) hF rfl ?_; clear hF a; intro a hF
  refine wl_call hF rfl rfl rfl (r_call2 en15 (hF.ev rfl) (hF.ev rfl)) (heldState_c (s := _) (hS.part_k (i := 3) rfl) (by omega) (by omega)) ?_; clear hF a; rintro v w24 a ⟨rfl, hB_⟩ hF; replace hS := hS.ext hB_; clear hB_
  refine wl_mvs (A := [_]) hF rfl ?_; clear hF a; intro a hF
  refine wl_nil (hK30 _ _ ?_)
  refine wp_seq_k fun K31 hK31 => ?_
  refine ws fun K32 hK32 => ?_
  refine wl_mvs (A := [_]) hF rfl ?_; clear hF a; intro a hF
  refine wl hF rfl rfl rfl (r_lss (hF.ev rfl) ec) ?_; clear hF a; intro a hF
  refine wl_nil (hK32 _ _ ?_)
  first | refine wc_dec (hF.ev rfl) (fun c97 => ?_) (fun c97 => ?_) | refine wc_ndec (hF.ev rfl) (fun c97 => ?_) (fun c97 => ?_) | refine wc_b (hF.ev rfl) (fun c97 => ?_) (fun c97 => ?_)
  · exfalso; first | omega | exact (c97 rfl).elim | (simp_all; done)
  refine wp_skip ?_
  refine hK31 _ _ ?_
  refine wp_seq_k fun K33 hK33 => ?_
  refine ws fun K34 hK34 => ?_
  refine wl_mvs (A := [_, _]) hF rfl ?_; clear hF a; intro a hF
  refine wl hF rfl rfl rfl (r_neq (hF.ev rfl) (hF.ev rfl)) ?_; clear hF a; intro a hF
  refine wl_nil (hK34 _ _ ?_)
  first | refine wc_dec (hF.ev rfl) (fun c100 => ?_) (fun c100 => ?_) | refine wc_ndec (hF.ev rfl) (fun c100 => ?_) (fun c100 => ?_) | refine wc_b (hF.ev rfl) (fun c100 => ?_) (fun c100 => ?_)
  · exfalso; first | omega | exact (c100 rfl).elim | (simp_all; done)
  refine wp_skip ?_
  refine hK33 _ _ ?_
  refine ws fun K35 hK35 => ?_
  refine wl_mvs (A := [_]) hF rfl ?_; clear hF a; intro a hF
  refine wl_nil (hK35 _ _ ?_)
  refine wp_ret ?_
  try simp only [Exit.then, Exit.inBlock, ↓reduceIte]
  exact ret1 rfl hF rfl ⟨rfl, hS.old⟩
end Go.Proofs.YtifhfodphoeeoaaGreat.Wk
namespace Go.Proofs.YtifhfodphoeeoaaGreat.Sl
open Go
section
variable {P : Program} {h s : List Char} {X : List (List Char)}
/-- a row of signs, by their numbers -/
def ch (l : List Nat) : List Char := l.map Char.ofNat
/-- the blank -/
abbrev sp : Char := Char.ofNat 32
theorem words_sp : ∀ (w r : List Char), Sl.sp ∉ w → wordsSigns (w ++ Sl.sp :: r) = w :: wordsSigns r
  | [], r, _ => rfl
  | c :: w, r, h => by
    have hc : c ≠ Sl.sp := fun e => h (e ▸ List.mem_cons_self)
    have ih := words_sp w r (fun e => h (List.mem_cons_of_mem _ e))
    rw [List.cons_append, wordsSigns.eq_3 _ _ (fun e => hc e), ih]
theorem strip_cut : stripLifts liftWords ("cut".toList :: X) = ([], "cut".toList :: X) := by kernel_rfl
theorem made_of (e : behindMainWord (wordsSigns P.initOrder.toList) = "cut".toList :: X) : P.make = some .cut := by
  unfold Program.make; rw [e]; rfl
theorem final_of (e : behindMainWord (wordsSigns P.initOrder.toList) = "cut".toList :: X) : P.liftsFinal = false := by
  unfold Program.liftsFinal Program.headLifts; rw [e]; dsimp only; rw [strip_cut]; rfl
theorem enter_of (e : behindMainWord (wordsSigns P.initOrder.toList) = "cut".toList :: X) (h1 : P.laysLater = false) (h2 : P.bearsReflect = false) (h3 : P.doorFits [] = true) : P.mayEnter = true := by
  unfold Program.mayEnter; rw [e]; dsimp only; rw [strip_cut, h1, h2, h3]; rfl
end
end Go.Proofs.YtifhfodphoeeoaaGreat.Sl
namespace Go.Proofs.YtifhfodphoeeoaaGreat.Wk
open Go Go.RowKit Sl
end Go.Proofs.YtifhfodphoeeoaaGreat.Wk
namespace Go.Proofs.YtifhfodphoeeoaaGreat
open Go Go.RowKit Sl Wk
set_option linter.unusedVariables false
set_option linter.unusedSimpArgs false
set_option maxRecDepth 20000
theorem op3 : Opens Tryz.prog 3 1 (fun _ n cs => cs = [vi n]) int64 := opens_int (by kernel_rfl) (by kernel_rfl)
theorem fd23_0 : fldB Tryz.prog 23 0 = some (3, 0) := by kernel_rfl
theorem fd23_1 : fldB Tryz.prog 23 1 = some (3, 1) := by kernel_rfl
theorem fd23_2 : fldB Tryz.prog 23 2 = some (3, 2) := by kernel_rfl
theorem fd23_3 : fldB Tryz.prog 23 3 = some (3, 3) := by kernel_rfl
theorem fd23_4 : fldB Tryz.prog 23 4 = some (3, 4) := by kernel_rfl
theorem fd23_5 : fldB Tryz.prog 23 5 = some (3, 5) := by kernel_rfl
theorem op23 : Opens Tryz.prog 23 6 (fun _ x cs => cs = Config.enc x) Config.wf := by
  refine ⟨by kernel_rfl, fun H enc W sp fuel cs y h => ?_⟩
  have hl : cs.length = 6 := (trod_len fd23_0 h).trans (by kernel_rfl)
  have e6 : cs.drop 6 = [] := List.drop_eq_nil_of_le (by omega)
  obtain ⟨x0, k0, w0⟩ := Opens.field op3 fd23_0 h
  obtain ⟨x1, k1, w1⟩ := Opens.field op3 fd23_1 h
  obtain ⟨x2, k2, w2⟩ := Opens.field op3 fd23_2 h
  obtain ⟨x3, k3, w3⟩ := Opens.field op3 fd23_3 h
  obtain ⟨x4, k4, w4⟩ := Opens.field op3 fd23_4 h
  obtain ⟨x5, k5, w5⟩ := Opens.field op3 fd23_5 h
  have e5 : cs.drop 5 = [vi x5] ++ [] := by rw [drop_split cs 5 1, e6]; exact congrArg (· ++ _) k5
  have e4 : cs.drop 4 = [vi x4] ++ ([vi x5] ++ []) := by rw [drop_split cs 4 1, e5]; exact congrArg (· ++ _) k4
  have e3 : cs.drop 3 = [vi x3] ++ ([vi x4] ++ ([vi x5] ++ [])) := by rw [drop_split cs 3 1, e4]; exact congrArg (· ++ _) k3
  have e2 : cs.drop 2 = [vi x2] ++ ([vi x3] ++ ([vi x4] ++ ([vi x5] ++ []))) := by rw [drop_split cs 2 1, e3]; exact congrArg (· ++ _) k2
  have e1 : cs.drop 1 = [vi x1] ++ ([vi x2] ++ ([vi x3] ++ ([vi x4] ++ ([vi x5] ++ [])))) := by rw [drop_split cs 1 1, e2]; exact congrArg (· ++ _) k1
  have e0 : cs.drop 0 = [vi x0] ++ ([vi x1] ++ ([vi x2] ++ ([vi x3] ++ ([vi x4] ++ ([vi x5] ++ []))))) := by rw [drop_split cs 0 1, e1]; exact congrArg (· ++ _) k0
  exact ⟨⟨x0, x1, x2, x3, x4, x5⟩, (List.drop_zero (l := cs)).symm.trans e0, hl, w0, w1, w2, w3, w4, w5⟩
theorem op24 : Opens Tryz.prog 24 1 (fun W xs cs => ∃ v, cs = [v] ∧ intEK.Rd W v xs) (fun xs => ∀ x ∈ xs, int64 x) := opens_slice op3 (by decide) (by kernel_rfl) (by kernel_rfl)
theorem fd71_0 : fldB Tryz.prog 71 0 = some (3, 0) := by kernel_rfl
theorem fd71_1 : fldB Tryz.prog 71 1 = some (3, 1) := by kernel_rfl
theorem fd71_2 : fldB Tryz.prog 71 2 = some (3, 2) := by kernel_rfl
theorem op71 : Opens Tryz.prog 71 3 (fun _ x cs => cs = Op.enc x) Op.wf := by
  refine ⟨by kernel_rfl, fun H enc W sp fuel cs y h => ?_⟩
  have hl : cs.length = 3 := (trod_len fd71_0 h).trans (by kernel_rfl)
  have e3 : cs.drop 3 = [] := List.drop_eq_nil_of_le (by omega)
  obtain ⟨x0, k0, w0⟩ := Opens.field op3 fd71_0 h
  obtain ⟨x1, k1, w1⟩ := Opens.field op3 fd71_1 h
  obtain ⟨x2, k2, w2⟩ := Opens.field op3 fd71_2 h
  have e2 : cs.drop 2 = [vi x2] ++ [] := by rw [drop_split cs 2 1, e3]; exact congrArg (· ++ _) k2
  have e1 : cs.drop 1 = [vi x1] ++ ([vi x2] ++ []) := by rw [drop_split cs 1 1, e2]; exact congrArg (· ++ _) k1
  have e0 : cs.drop 0 = [vi x0] ++ ([vi x1] ++ ([vi x2] ++ [])) := by rw [drop_split cs 0 1, e1]; exact congrArg (· ++ _) k0
  exact ⟨⟨x0, x1, x2⟩, (List.drop_zero (l := cs)).symm.trans e0, hl, w0, w1, w2⟩
theorem fd72_0 : fldB Tryz.prog 72 0 = some (3, 0) := by kernel_rfl
theorem fd72_1 : fldB Tryz.prog 72 1 = some (3, 1) := by kernel_rfl
theorem op72 : Opens Tryz.prog 72 2 (fun _ x cs => cs = Result.enc x) Result.wf := by
  refine ⟨by kernel_rfl, fun H enc W sp fuel cs y h => ?_⟩
  have hl : cs.length = 2 := (trod_len fd72_0 h).trans (by kernel_rfl)
  have e2 : cs.drop 2 = [] := List.drop_eq_nil_of_le (by omega)
  obtain ⟨x0, k0, w0⟩ := Opens.field op3 fd72_0 h
  obtain ⟨x1, k1, w1⟩ := Opens.field op3 fd72_1 h
  have e1 : cs.drop 1 = [vi x1] ++ [] := by rw [drop_split cs 1 1, e2]; exact congrArg (· ++ _) k1
  have e0 : cs.drop 0 = [vi x0] ++ ([vi x1] ++ []) := by rw [drop_split cs 0 1, e1]; exact congrArg (· ++ _) k0
  exact ⟨⟨x0, x1⟩, (List.drop_zero (l := cs)).symm.trans e0, hl, w0, w1⟩
theorem fd144_0 : fldB Tryz.prog 144 0 = some (3, 0) := by kernel_rfl
theorem fd144_1 : fldB Tryz.prog 144 1 = some (3, 1) := by kernel_rfl
theorem fd144_2 : fldB Tryz.prog 144 2 = some (3, 2) := by kernel_rfl
theorem fd144_3 : fldB Tryz.prog 144 3 = some (3, 3) := by kernel_rfl
theorem op144 : Opens Tryz.prog 144 4 (fun _ x cs => cs = Entry.enc x) Entry.wf := by
  refine ⟨by kernel_rfl, fun H enc W sp fuel cs y h => ?_⟩
  have hl : cs.length = 4 := (trod_len fd144_0 h).trans (by kernel_rfl)
  have e4 : cs.drop 4 = [] := List.drop_eq_nil_of_le (by omega)
  obtain ⟨x0, k0, w0⟩ := Opens.field op3 fd144_0 h
  obtain ⟨x1, k1, w1⟩ := Opens.field op3 fd144_1 h
  obtain ⟨x2, k2, w2⟩ := Opens.field op3 fd144_2 h
  obtain ⟨x3, k3, w3⟩ := Opens.field op3 fd144_3 h
  have e3 : cs.drop 3 = [vi x3] ++ [] := by rw [drop_split cs 3 1, e4]; exact congrArg (· ++ _) k3
  have e2 : cs.drop 2 = [vi x2] ++ ([vi x3] ++ []) := by rw [drop_split cs 2 1, e3]; exact congrArg (· ++ _) k2
  have e1 : cs.drop 1 = [vi x1] ++ ([vi x2] ++ ([vi x3] ++ [])) := by rw [drop_split cs 1 1, e2]; exact congrArg (· ++ _) k1
  have e0 : cs.drop 0 = [vi x0] ++ ([vi x1] ++ ([vi x2] ++ ([vi x3] ++ []))) := by rw [drop_split cs 0 1, e1]; exact congrArg (· ++ _) k0
  exact ⟨⟨x0, x1, x2, x3⟩, (List.drop_zero (l := cs)).symm.trans e0, hl, w0, w1, w2, w3⟩
theorem op73 : Opens Tryz.prog 73 1 (fun W xs cs => ∃ v, cs = [v] ∧ entryEK.Rd W v xs) (fun xs => ∀ x ∈ xs, Entry.wf x) := opens_slice op144 (by decide) (by kernel_rfl) (by kernel_rfl)
theorem fd75_0 : fldB Tryz.prog 75 0 = some (3, 0) := by kernel_rfl
theorem fd75_1 : fldB Tryz.prog 75 1 = some (71, 1) := by kernel_rfl
theorem fd75_2 : fldB Tryz.prog 75 2 = some (72, 4) := by kernel_rfl
theorem fd75_3 : fldB Tryz.prog 75 3 = some (3, 6) := by kernel_rfl
theorem fd75_4 : fldB Tryz.prog 75 4 = some (3, 7) := by kernel_rfl
theorem fd75_5 : fldB Tryz.prog 75 5 = some (3, 8) := by kernel_rfl
theorem fd75_6 : fldB Tryz.prog 75 6 = some (3, 9) := by kernel_rfl
theorem fd75_7 : fldB Tryz.prog 75 7 = some (3, 10) := by kernel_rfl
theorem fd75_8 : fldB Tryz.prog 75 8 = some (3, 11) := by kernel_rfl
theorem fd75_9 : fldB Tryz.prog 75 9 = some (3, 12) := by kernel_rfl
theorem fd75_10 : fldB Tryz.prog 75 10 = some (3, 13) := by kernel_rfl
theorem fd75_11 : fldB Tryz.prog 75 11 = some (24, 14) := by kernel_rfl
theorem fd75_12 : fldB Tryz.prog 75 12 = some (24, 15) := by kernel_rfl
theorem fd75_13 : fldB Tryz.prog 75 13 = some (73, 16) := by kernel_rfl
theorem fd75_14 : fldB Tryz.prog 75 14 = some (73, 17) := by kernel_rfl
theorem fd75_15 : fldB Tryz.prog 75 15 = some (24, 18) := by kernel_rfl
theorem op75 : Opens Tryz.prog 75 19 Thread.K Thread.wf := by
  refine ⟨by kernel_rfl, fun H enc W sp fuel cs y h => ?_⟩
  have hl : cs.length = 19 := (trod_len fd75_0 h).trans (by kernel_rfl)
  have e19 : cs.drop 19 = [] := List.drop_eq_nil_of_le (by omega)
  obtain ⟨x0, k0, w0⟩ := Opens.field op3 fd75_0 h
  obtain ⟨x1, k1, w1⟩ := Opens.field op71 fd75_1 h
  obtain ⟨x2, k2, w2⟩ := Opens.field op72 fd75_2 h
  obtain ⟨x3, k3, w3⟩ := Opens.field op3 fd75_3 h
  obtain ⟨x4, k4, w4⟩ := Opens.field op3 fd75_4 h
  obtain ⟨x5, k5, w5⟩ := Opens.field op3 fd75_5 h
  obtain ⟨x6, k6, w6⟩ := Opens.field op3 fd75_6 h
  obtain ⟨x7, k7, w7⟩ := Opens.field op3 fd75_7 h
  obtain ⟨x8, k8, w8⟩ := Opens.field op3 fd75_8 h
  obtain ⟨x9, k9, w9⟩ := Opens.field op3 fd75_9 h
  obtain ⟨x10, k10, w10⟩ := Opens.field op3 fd75_10 h
  obtain ⟨x11, ⟨v11, k11, r11⟩, w11⟩ := Opens.field op24 fd75_11 h
  obtain ⟨x12, ⟨v12, k12, r12⟩, w12⟩ := Opens.field op24 fd75_12 h
  obtain ⟨x13, ⟨v13, k13, r13⟩, w13⟩ := Opens.field op73 fd75_13 h
  obtain ⟨x14, ⟨v14, k14, r14⟩, w14⟩ := Opens.field op73 fd75_14 h
  obtain ⟨x15, ⟨v15, k15, r15⟩, w15⟩ := Opens.field op24 fd75_15 h
  have e18 : cs.drop 18 = [v15] ++ [] := by rw [drop_split cs 18 1, e19]; exact congrArg (· ++ _) k15
  have e17 : cs.drop 17 = [v14] ++ ([v15] ++ []) := by rw [drop_split cs 17 1, e18]; exact congrArg (· ++ _) k14
  have e16 : cs.drop 16 = [v13] ++ ([v14] ++ ([v15] ++ [])) := by rw [drop_split cs 16 1, e17]; exact congrArg (· ++ _) k13
  have e15 : cs.drop 15 = [v12] ++ ([v13] ++ ([v14] ++ ([v15] ++ []))) := by rw [drop_split cs 15 1, e16]; exact congrArg (· ++ _) k12
  have e14 : cs.drop 14 = [v11] ++ ([v12] ++ ([v13] ++ ([v14] ++ ([v15] ++ [])))) := by rw [drop_split cs 14 1, e15]; exact congrArg (· ++ _) k11
  have e13 : cs.drop 13 = [vi x10] ++ ([v11] ++ ([v12] ++ ([v13] ++ ([v14] ++ ([v15] ++ []))))) := by rw [drop_split cs 13 1, e14]; exact congrArg (· ++ _) k10
  have e12 : cs.drop 12 = [vi x9] ++ ([vi x10] ++ ([v11] ++ ([v12] ++ ([v13] ++ ([v14] ++ ([v15] ++ [])))))) := by rw [drop_split cs 12 1, e13]; exact congrArg (· ++ _) k9
  have e11 : cs.drop 11 = [vi x8] ++ ([vi x9] ++ ([vi x10] ++ ([v11] ++ ([v12] ++ ([v13] ++ ([v14] ++ ([v15] ++ []))))))) := by rw [drop_split cs 11 1, e12]; exact congrArg (· ++ _) k8
  have e10 : cs.drop 10 = [vi x7] ++ ([vi x8] ++ ([vi x9] ++ ([vi x10] ++ ([v11] ++ ([v12] ++ ([v13] ++ ([v14] ++ ([v15] ++ [])))))))) := by rw [drop_split cs 10 1, e11]; exact congrArg (· ++ _) k7
  have e9 : cs.drop 9 = [vi x6] ++ ([vi x7] ++ ([vi x8] ++ ([vi x9] ++ ([vi x10] ++ ([v11] ++ ([v12] ++ ([v13] ++ ([v14] ++ ([v15] ++ []))))))))) := by rw [drop_split cs 9 1, e10]; exact congrArg (· ++ _) k6
  have e8 : cs.drop 8 = [vi x5] ++ ([vi x6] ++ ([vi x7] ++ ([vi x8] ++ ([vi x9] ++ ([vi x10] ++ ([v11] ++ ([v12] ++ ([v13] ++ ([v14] ++ ([v15] ++ [])))))))))) := by rw [drop_split cs 8 1, e9]; exact congrArg (· ++ _) k5
  have e7 : cs.drop 7 = [vi x4] ++ ([vi x5] ++ ([vi x6] ++ ([vi x7] ++ ([vi x8] ++ ([vi x9] ++ ([vi x10] ++ ([v11] ++ ([v12] ++ ([v13] ++ ([v14] ++ ([v15] ++ []))))))))))) := by rw [drop_split cs 7 1, e8]; exact congrArg (· ++ _) k4
  have e6 : cs.drop 6 = [vi x3] ++ ([vi x4] ++ ([vi x5] ++ ([vi x6] ++ ([vi x7] ++ ([vi x8] ++ ([vi x9] ++ ([vi x10] ++ ([v11] ++ ([v12] ++ ([v13] ++ ([v14] ++ ([v15] ++ [])))))))))))) := by rw [drop_split cs 6 1, e7]; exact congrArg (· ++ _) k3
  have e4 : cs.drop 4 = Result.enc x2 ++ ([vi x3] ++ ([vi x4] ++ ([vi x5] ++ ([vi x6] ++ ([vi x7] ++ ([vi x8] ++ ([vi x9] ++ ([vi x10] ++ ([v11] ++ ([v12] ++ ([v13] ++ ([v14] ++ ([v15] ++ []))))))))))))) := by rw [drop_split cs 4 2, e6]; exact congrArg (· ++ _) k2
  have e1 : cs.drop 1 = Op.enc x1 ++ (Result.enc x2 ++ ([vi x3] ++ ([vi x4] ++ ([vi x5] ++ ([vi x6] ++ ([vi x7] ++ ([vi x8] ++ ([vi x9] ++ ([vi x10] ++ ([v11] ++ ([v12] ++ ([v13] ++ ([v14] ++ ([v15] ++ [])))))))))))))) := by rw [drop_split cs 1 3, e4]; exact congrArg (· ++ _) k1
  have e0 : cs.drop 0 = [vi x0] ++ (Op.enc x1 ++ (Result.enc x2 ++ ([vi x3] ++ ([vi x4] ++ ([vi x5] ++ ([vi x6] ++ ([vi x7] ++ ([vi x8] ++ ([vi x9] ++ ([vi x10] ++ ([v11] ++ ([v12] ++ ([v13] ++ ([v14] ++ ([v15] ++ []))))))))))))))) := by rw [drop_split cs 0 1, e1]; exact congrArg (· ++ _) k0
  exact ⟨⟨x0, x1, x2, x3, x4, x5, x6, x7, x8, x9, x10, x11, x12, x13, x14, x15⟩, ⟨v11, v12, v13, v14, v15, (List.drop_zero (l := cs)).symm.trans e0, r11, r12, r13, r14, r15⟩, hl, w0, w1, w2, w3, w4, w5, w6, w7, w8, w9, w10, w11, w12, w13, w14, w15⟩
theorem op25 : Opens Tryz.prog 25 1 (fun W xs cs => ∃ v, cs = [v] ∧ threadEK.Rd W v xs) (fun xs => ∀ x ∈ xs, Thread.wf x) := opens_slice op75 (by decide) (by kernel_rfl) (by kernel_rfl)
theorem fd27_0 : fldB Tryz.prog 27 0 = some (23, 0) := by kernel_rfl
theorem fd27_1 : fldB Tryz.prog 27 1 = some (24, 6) := by kernel_rfl
theorem fd27_2 : fldB Tryz.prog 27 2 = some (24, 7) := by kernel_rfl
theorem fd27_3 : fldB Tryz.prog 27 3 = some (25, 8) := by kernel_rfl
theorem fd27_4 : fldB Tryz.prog 27 4 = some (3, 9) := by kernel_rfl
theorem fd27_5 : fldB Tryz.prog 27 5 = some (3, 10) := by kernel_rfl
theorem fd27_6 : fldB Tryz.prog 27 6 = some (3, 11) := by kernel_rfl
theorem fd27_7 : fldB Tryz.prog 27 7 = some (3, 12) := by kernel_rfl
theorem op27 : Opens Tryz.prog 27 13 State.K State.wf := by
  refine ⟨by kernel_rfl, fun H enc W sp fuel cs y h => ?_⟩
  have hl : cs.length = 13 := (trod_len fd27_0 h).trans (by kernel_rfl)
  have e13 : cs.drop 13 = [] := List.drop_eq_nil_of_le (by omega)
  obtain ⟨x0, k0, w0⟩ := Opens.field op23 fd27_0 h
  obtain ⟨x1, ⟨v1, k1, r1⟩, w1⟩ := Opens.field op24 fd27_1 h
  obtain ⟨x2, ⟨v2, k2, r2⟩, w2⟩ := Opens.field op24 fd27_2 h
  obtain ⟨x3, ⟨v3, k3, r3⟩, w3⟩ := Opens.field op25 fd27_3 h
  obtain ⟨x4, k4, w4⟩ := Opens.field op3 fd27_4 h
  obtain ⟨x5, k5, w5⟩ := Opens.field op3 fd27_5 h
  obtain ⟨x6, k6, w6⟩ := Opens.field op3 fd27_6 h
  obtain ⟨x7, k7, w7⟩ := Opens.field op3 fd27_7 h
  have e12 : cs.drop 12 = [vi x7] ++ [] := by rw [drop_split cs 12 1, e13]; exact congrArg (· ++ _) k7
  have e11 : cs.drop 11 = [vi x6] ++ ([vi x7] ++ []) := by rw [drop_split cs 11 1, e12]; exact congrArg (· ++ _) k6
  have e10 : cs.drop 10 = [vi x5] ++ ([vi x6] ++ ([vi x7] ++ [])) := by rw [drop_split cs 10 1, e11]; exact congrArg (· ++ _) k5
  have e9 : cs.drop 9 = [vi x4] ++ ([vi x5] ++ ([vi x6] ++ ([vi x7] ++ []))) := by rw [drop_split cs 9 1, e10]; exact congrArg (· ++ _) k4
  have e8 : cs.drop 8 = [v3] ++ ([vi x4] ++ ([vi x5] ++ ([vi x6] ++ ([vi x7] ++ [])))) := by rw [drop_split cs 8 1, e9]; exact congrArg (· ++ _) k3
  have e7 : cs.drop 7 = [v2] ++ ([v3] ++ ([vi x4] ++ ([vi x5] ++ ([vi x6] ++ ([vi x7] ++ []))))) := by rw [drop_split cs 7 1, e8]; exact congrArg (· ++ _) k2
  have e6 : cs.drop 6 = [v1] ++ ([v2] ++ ([v3] ++ ([vi x4] ++ ([vi x5] ++ ([vi x6] ++ ([vi x7] ++ [])))))) := by rw [drop_split cs 6 1, e7]; exact congrArg (· ++ _) k1
  have e0 : cs.drop 0 = Config.enc x0 ++ ([v1] ++ ([v2] ++ ([v3] ++ ([vi x4] ++ ([vi x5] ++ ([vi x6] ++ ([vi x7] ++ []))))))) := by rw [drop_split cs 0 6, e6]; exact congrArg (· ++ _) k0
  exact ⟨⟨x0, x1, x2, x3, x4, x5, x6, x7⟩, ⟨v1, v2, v3, (List.drop_zero (l := cs)).symm.trans e0, r1, r2, r3⟩, hl, w0, w1, w2, w3, w4, w5, w6, w7⟩
namespace fnExactStepReclaim
open Go.ChangeShapes Go.WideShapes Go.ChangeAt Go.RowKit
theorem laidOut : laidOutB Tryz.prog = true := by kernel_rfl
theorem own : ownKnob Tryz.prog.godebug = none := by kernel_rfl
set_option maxRecDepth 100000 in
theorem lifted (os : Os) (started : os.Started) (H : Type) (enc : TypeId × Value → H) :
    ReturnsInHanded {} Tryz.checked os 6 .any (Rows.fnExactStepReclaimSpec.pre6 enc Tryz.prog Tryz.f6 Rows.fnExactStepReclaimRow.domain false) (Rows.fnExactStepReclaimSpec.post enc Tryz.prog Tryz.f6 false true false false) := by
  refine returnsInHanded_of_change_sized (C := Tryz.checked) own started (by kernel_rfl) Tryz.func6
    (ChangeSpec.witness6 (enc := enc) (C := Tryz.checked) false ⟨#[], #[.agg #[.int .i64 0, .int .i64 0, .int .i64 0, .int .i64 0, .int .i64 0, .int .i64 0, .slice none 0 0, .slice none 0 0, .slice none 0 0, .int .i64 0, .int .i64 0, .int .i64 0, .int .i64 0], .int .i64 0], []⟩ 8 (by kernel_rfl) (by kernel_rfl) (by kernel_rfl) (by kernel_rfl)) ?_
  intro W base args ds gs before hval0 hW hcnd hsz0 _
  have hval : ∀ (j : Nat) t v, Tryz.f6.params[j]? = some t → args[j]? = some v → Value.okWide Tryz.prog W .any base t v := hval0
  have hW' := hW
  obtain ⟨p, q, hA0, hV, rfl, hfz, hnd⟩ := hW
  have hA : DataW.TrodAll enc Tryz.prog W 0 (fun _ => true) true Tryz.f6.params.toList args.toList ds p := hA0
  rw [Tryz.params6] at hA hval
  obtain ⟨v0, vs0, d0, ds0, p0, q0, hargs, rfl, rfl, h0, r0⟩ := trodAll_cons hA
  obtain ⟨v1, vs1, d1, ds1, p1, q1, rfl, rfl, rfl, h1, r1⟩ := trodAll_cons r0
  obtain ⟨rfl, rfl, rfl⟩ := trodAll_nil r1
  obtain rfl : args = #[v0, v1] := by cases args; simp_all
  obtain ⟨rfl, rfl⟩ := trodVars_none hV
  have kk0 := h0
  have lt0 : ∀ x ∈ p0, x.block < W.heap.size := by obtain ⟨m, hm⟩ := kk0; exact DataW.trod_lt m _ _ _ hm
  obtain ⟨c0, rfl⟩ := okWide_struct fd27_0 (hval 0 27 v0 rfl rfl)
  obtain ⟨m0, hm0⟩ := h0; rw [agg_cells] at hm0
  obtain ⟨x0, k0, _, ok0⟩ := (op27).2 _ _ _ _ _ _ _ hm0; clear hm0
  have kk1 := h1
  have lt1 : ∀ x ∈ p1, x.block < W.heap.size := by obtain ⟨m, hm⟩ := kk1; exact DataW.trod_lt m _ _ _ hm
  obtain ⟨x1, rfl, _, _, ok1⟩ := open_int (by kernel_rfl : Tryz.prog.underlying 3 = some (.int .i64)) (hval 1 3 v1 rfl rfl) h1; replace ok1 := wf_i64 ok1
  clear hA0 hval0
  refine (law_FnExactStepReclaim k0 ok0 ok1).mono ?_
  rintro e W' ⟨v, rfl, rfl, bel⟩
  exact ⟨_, rfl, _, _, _, [], _, [], hW', trodAll_mk1 (shut_bool (by kernel_rfl : Tryz.prog.underlying 4 = some .bool) _), (trodAll_cons_mk (Below.trod laidOut (by kernel_rfl) (of_decide_eq_true (by kernel_rfl)) kk0 bel lt0) (trodAll_cons_mk (Below.trod laidOut (by kernel_rfl) (of_decide_eq_true (by kernel_rfl)) kk1 bel lt1) trodAll_mk0)), rfl, bel.frame _, fun h => by cases h⟩
def restSigns : List Char := Sl.ch [97, 116, 32, 108, 111, 111, 112, 46, 101, 120, 97, 109, 112, 108, 101, 47, 103, 48, 49, 54, 50, 56, 47, 108, 97, 119, 115, 46, 70, 110, 69, 120, 97, 99, 116, 83, 116, 101, 112, 66, 101, 103, 105, 110, 32, 108, 111, 111, 112, 46, 101, 120, 97, 109, 112, 108, 101, 47, 103, 48, 49, 54, 50, 56, 47, 108, 97, 119, 115, 46, 70, 110, 69, 120, 97, 99, 116, 83, 116, 101, 112, 87, 97, 108, 107, 32, 108, 111, 111, 112, 46, 101, 120, 97, 109, 112, 108, 101, 47, 103, 48, 49, 54, 50, 56, 47, 108, 97, 119, 115, 46, 70, 110, 69, 120, 97, 99, 116, 83, 116, 101, 112, 82, 101, 97, 100, 32, 108, 111, 111, 112, 46, 101, 120, 97, 109, 112, 108, 101, 47, 103, 48, 49, 54, 50, 56, 47, 108, 97, 119, 115, 46, 70, 110, 69, 120, 97, 99, 116, 83, 116, 101, 112, 82, 101, 99, 108, 97, 105, 109, 32, 108, 111, 111, 112, 46, 101, 120, 97, 109, 112, 108, 101, 47, 103, 48, 49, 54, 50, 56, 47, 108, 97, 119, 115, 46, 70, 110, 69, 120, 97, 99, 116, 83, 116, 101, 112, 70, 108, 117, 115, 104, 32, 108, 111, 111, 112, 46, 101, 120, 97, 109, 112, 108, 101, 47, 103, 48, 49, 54, 50, 56, 47, 108, 97, 119, 115, 46, 70, 110, 69, 120, 97, 99, 116, 70, 114, 101, 101, 78, 111, 100, 101, 115]
theorem order : Tryz.pinned.checked.prog.initOrder = String.ofList (Sl.ch [104, 97, 114, 110, 101, 115, 115] ++ Sl.sp :: (Sl.ch [56, 56, 101, 52, 101, 49, 99, 52, 48, 48, 56, 101, 48, 101, 100, 51, 51, 49, 101, 51, 102, 56, 97, 49, 57, 52, 97, 52, 55, 56, 97, 49, 100, 102, 97, 52, 97, 55, 52, 99, 101, 48, 51, 54, 50, 101, 56, 57, 101, 97, 57, 99, 102, 97, 98, 101, 102, 50, 100, 98, 100, 56, 56, 57] ++ Sl.sp :: (Sl.ch [99, 117, 116] ++ Sl.sp :: restSigns))) := by kernel_rfl
theorem behind (X : List (List Char)) : behindMainWord (Sl.ch [104, 97, 114, 110, 101, 115, 115] :: Sl.ch [56, 56, 101, 52, 101, 49, 99, 52, 48, 48, 56, 101, 48, 101, 100, 51, 51, 49, 101, 51, 102, 56, 97, 49, 57, 52, 97, 52, 55, 56, 97, 49, 100, 102, 97, 52, 97, 55, 52, 99, 101, 48, 51, 54, 50, 101, 56, 57, 101, 97, 57, 99, 102, 97, 98, 101, 102, 50, 100, 98, 100, 56, 56, 57] :: Sl.ch [99, 117, 116] :: X) = "cut".toList :: X := by kernel_rfl
theorem heads : behindMainWord (wordsSigns Tryz.pinned.checked.prog.initOrder.toList) = "cut".toList :: wordsSigns restSigns := by
  rw [order, String.toList_ofList, Sl.words_sp _ _ (by decide), Sl.words_sp _ _ (by decide), Sl.words_sp _ _ (by decide)]; exact behind _
theorem facts : joinedFacts Tryz.pinned.checked.prog 6 Tryz.f6 Rows.fnExactStepReclaimSpec Rows.fnExactStepReclaimRow = true := by
  unfold joinedFacts; rw [Sl.enter_of heads (by kernel_rfl) (by kernel_rfl) (by kernel_rfl), Sl.final_of heads, Sl.made_of heads]; kernel_rfl
theorem over : Rows.fnExactStepReclaimRow.holds Tryz.pinned (OpenSpec.ofChange Rows.fnExactStepReclaimSpec) :=
  OpenClaim.holds_of_wide 6 Tryz.f6 rfl rfl rfl rfl rfl rfl rfl ⟨rfl, rfl, rfl, rfl, rfl⟩ rfl rfl rfl rfl rfl (by kernel_rfl) Tryz.func6 facts
    (of_decide_eq_true (by kernel_rfl)) (by unfold Func.isWrapper; first | (rw [if_pos (by decide +kernel)]; kernel_rfl) | (rw [if_neg (by decide +kernel)]; exact ⟨rfl, rfl⟩))
    (fun os started H enc _ => lifted os started H enc)
theorem proved : Rows.FnExactStepReclaimSaid := over
end fnExactStepReclaim
/-- The row, under a short name. -/
theorem fnExactStepReclaim_holds : Rows.FnExactStepReclaimSaid := fnExactStepReclaim.proved
end Go.Proofs.YtifhfodphoeeoaaGreat
