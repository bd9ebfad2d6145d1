/- Walks: copies of threads and states. -/
import Derived.Test.YtifhfodphoeeoaaGreatChecked
import Derived.Test.YtifhfodphoeeoaaGreatWkSp
import Derived.Test.YtifhfodphoeeoaaGreatFactsC
namespace Go.Proofs.YtifhfodphoeeoaaGreat.Wk
open Go Go.RowKit Sl
set_option linter.unusedVariables false
set_option linter.unusedSimpArgs false
set_option maxRecDepth 20000

set_option maxHeartbeats 4000000 in
set_option maxRecDepth 20000 in
theorem l7Copy_c {W : World} {t : Sl.Thread} {cs : List Value} (hm : threadEK.K W t cs) (hz : t.size ≤ 1048576) : Calls Tryz.prog 66 #[.agg cs.toArray] W (Ret (Mk W (fun vs => .agg (threadEK.cells t vs).toArray) (fun vs => [Part threadEK t vs]))) := by
  refine calls_fr Tryz.func66 rfl Tryz.ntmps66 rfl ?_
  intro a hF
  have hS := Sep.refl W
  obtain ⟨v0, v1, v2, v3, v4, rfl, r0, r1, r2, r3, r4⟩ := hm
  obtain ⟨A_a, q_a, rfl, hq_a, hn_a⟩ := r0.sl; unfold maxLen at hn_a
  obtain ⟨A_b, q_b, rfl, hq_b, hn_b⟩ := r1.sl; unfold maxLen at hn_b
  obtain ⟨A_c, q_c, rfl, hq_c, hn_c⟩ := r2.sl; unfold maxLen at hn_c
  obtain ⟨A_d, q_d, rfl, hq_d, hn_d⟩ := r3.sl; unfold maxLen at hn_d
  obtain ⟨A_e, q_e, rfl, hq_e, hn_e⟩ := r4.sl; unfold maxLen at hn_e
  have hz1 := hz; unfold Sl.Thread.size at hz1
  refine ws fun K1 hK1 => ?_
  refine wl_box (cs := [_, _, _, _, _, _, _, _, _, _, _, _, _, _, _, _, _, _, _]) hF hS rfl (hF.ev rfl) rfl ?_; clear hF a; intro g1 w1 a hS_ hB_ hF; replace hS := hS_; clear hS_ hB_
  refine wl_alloc hF hS rfl zr53 ?_; clear hF a; intro g2 w2 a hS_ hB_ hF; replace hS := hS_; clear hS_ hB_
  refine wl_nil (hK1 _ _ ?_)
  refine ws fun K2 hK2 => ?_
  refine wl hF rfl rfl rfl (r_loadn ag53 (hF.ev rfl) (hS.box_rd (i := 1) rfl) sz53) ?_; clear hF a; intro a hF
  refine wl_alloc hF hS rfl zr53 ?_; clear hF a; intro g3 w3 a hS_ hB_ hF; replace hS := hS_; clear hS_ hB_
  refine wl_storew hF hS (i := 0) rfl (hF.ev rfl) (hF.ev rfl) sz53 rfl rfl ?_; intro w4 hS_; replace hS := hS_; clear hS_; dsimp only [List.set, Nat.reduceAdd] at hS
  refine wl_nil (hK2 _ _ ?_)
  refine ws fun K3 hK3 => ?_
  refine wl_bslice intEK [] [] rfl hF hS rfl mk24 rfl trivial rfl rfl rfl rfl ?_; clear hF a; intro gl_5 w5 a hS_ hF; replace hS := hS_; clear hS_
  refine wl hF rfl rfl rfl (r_field fo53_11 (hF.ev rfl)) ?_; clear hF a; intro a hF
  refine wl hF rfl rfl rfl (r_load1 sc24 (hF.ev rfl) (hS.box (i := 3) rfl rfl)) ?_; clear hF a; intro a hF
  refine wl_append0 hF hS rfl (hS.rd r0) mk24 rfl (by omega) (by unfold maxLen; omega) (hF.ev rfl) (hF.ev rfl) ?_; clear hF a; intro s8 w6 a hS_ hF; replace hS := hS_; clear hS_
  refine wl hF rfl rfl rfl (r_field fo53_11 (hF.ev rfl)) ?_; clear hF a; intro a hF
  refine wl_store hF hS (i := 2) rfl sz24 (hF.ev rfl) (hF.ev rfl) rfl rfl ?_; intro w7 hS_; replace hS := hS_; clear hS_; dsimp only [List.set, Nat.reduceAdd] at hS
  refine wl_nil (hK3 _ _ ?_)
  refine ws fun K4 hK4 => ?_
  refine wl_bslice intEK [] [] rfl hF hS rfl mk24 rfl trivial rfl rfl rfl rfl ?_; clear hF a; intro gl_10 w8 a hS_ hF; replace hS := hS_; clear hS_
  refine wl hF rfl rfl rfl (r_field fo53_12 (hF.ev rfl)) ?_; clear hF a; intro a hF
  refine wl hF rfl rfl rfl (r_load1 sc24 (hF.ev rfl) (hS.box (i := 5) rfl rfl)) ?_; clear hF a; intro a hF
  refine wl_append0 hF hS rfl (hS.rd r1) mk24 rfl (by omega) (by unfold maxLen; omega) (hF.ev rfl) (hF.ev rfl) ?_; clear hF a; intro s13 w9 a hS_ hF; replace hS := hS_; clear hS_
  refine wl hF rfl rfl rfl (r_field fo53_12 (hF.ev rfl)) ?_; clear hF a; intro a hF
  refine wl_store hF hS (i := 4) rfl sz24 (hF.ev rfl) (hF.ev rfl) rfl rfl ?_; intro w10 hS_; replace hS := hS_; clear hS_; dsimp only [List.set, Nat.reduceAdd] at hS
  refine wl_nil (hK4 _ _ ?_)
  refine ws fun K5 hK5 => ?_
  refine wl_bslice entryEK [] [] rfl hF hS rfl mk51 rfl trivial rfl rfl rfl rfl ?_; clear hF a; intro gl_15 w11 a hS_ hF; replace hS := hS_; clear hS_
  refine wl hF rfl rfl rfl (r_field fo53_13 (hF.ev rfl)) ?_; clear hF a; intro a hF
  refine wl hF rfl rfl rfl (r_load1 sc51 (hF.ev rfl) (hS.box (i := 7) rfl rfl)) ?_; clear hF a; intro a hF
  refine wl_append0 hF hS rfl (hS.rd r2) mk51 rfl (by omega) (by unfold maxLen; omega) (hF.ev rfl) (hF.ev rfl) ?_; clear hF a; intro s18 w12 a hS_ hF; replace hS := hS_; clear hS_
  refine wl hF rfl rfl rfl (r_field fo53_13 (hF.ev rfl)) ?_; clear hF a; intro a hF
  refine wl_store hF hS (i := 6) rfl sz51 (hF.ev rfl) (hF.ev rfl) rfl rfl ?_; intro w13 hS_; replace hS := hS_; clear hS_; dsimp only [List.set, Nat.reduceAdd] at hS
  refine wl_nil (hK5 _ _ ?_)
  refine ws fun K6 hK6 => ?_
  refine wl_bslice entryEK [] [] rfl hF hS rfl mk51 rfl trivial rfl rfl rfl rfl ?_; clear hF a; intro gl_20 w14 a hS_ hF; replace hS := hS_; clear hS_
  refine wl hF rfl rfl rfl (r_field fo53_14 (hF.ev rfl)) ?_; clear hF a; intro a hF
  refine wl hF rfl rfl rfl (r_load1 sc51 (hF.ev rfl) (hS.box (i := 9) rfl rfl)) ?_; clear hF a; intro a hF
  refine wl_append0 hF hS rfl (hS.rd r3) mk51 rfl (by omega) (by unfold maxLen; omega) (hF.ev rfl) (hF.ev rfl) ?_; clear hF a; intro s23 w15 a hS_ hF; replace hS := hS_; clear hS_
  refine wl hF rfl rfl rfl (r_field fo53_14 (hF.ev rfl)) ?_; clear hF a; intro a hF
  refine wl_store hF hS (i := 8) rfl sz51 (hF.ev rfl) (hF.ev rfl) rfl rfl ?_; intro w16 hS_; replace hS := hS_; clear hS_; dsimp only [List.set, Nat.reduceAdd] at hS
  refine wl_nil (hK6 _ _ ?_)
  refine ws fun K7 hK7 => ?_
  refine wl_bslice intEK [] [] rfl hF hS rfl mk24 rfl trivial rfl rfl rfl rfl ?_; clear hF a; intro gl_25 w17 a hS_ hF; replace hS := hS_; clear hS_
  refine wl hF rfl rfl rfl (r_field fo53_15 (hF.ev rfl)) ?_; clear hF a; intro a hF
  refine wl hF rfl rfl rfl (r_load1 sc24 (hF.ev rfl) (hS.box (i := 11) rfl rfl)) ?_; clear hF a; intro a hF
  refine wl_append0 hF hS rfl (hS.rd r4) mk24 rfl (by omega) (by unfold maxLen; omega) (hF.ev rfl) (hF.ev rfl) ?_; clear hF a; intro s28 w18 a hS_ hF; replace hS := hS_; clear hS_
  refine wl hF rfl rfl rfl (r_field fo53_15 (hF.ev rfl)) ?_; clear hF a; intro a hF
  refine wl_store hF hS (i := 10) rfl sz24 (hF.ev rfl) (hF.ev rfl) rfl rfl ?_; intro w19 hS_; replace hS := hS_; clear hS_; dsimp only [List.set, Nat.reduceAdd] at hS
  refine wl_nil (hK7 _ _ ?_)
  refine ws fun K8 hK8 => ?_
  refine wl hF rfl rfl rfl (r_loadn ag53 (hF.ev rfl) (hS.box_rd (i := 10) rfl) sz53) ?_; clear hF a; intro a hF
  refine wl_storew hF hS (i := 11) rfl (hF.ev rfl) (hF.ev rfl) sz53 rfl rfl ?_; intro w20 hS_; replace hS := hS_; clear hS_; dsimp only [List.set, Nat.reduceAdd] at hS
  refine wl_nil (hK8 _ _ ?_)
  refine wp_ret ?_
  try simp only [Exit.then, Exit.inBlock, ↓reduceIte]
  exact ret1c rfl ag53 hF hS (i := 11) rfl sz53 rfl ⟨[s8, s13, s18, s23, s28], rfl, hS.part_of [8, 6, 4, 2, 0] (by decide) rfl⟩

set_option maxHeartbeats 4000000 in
set_option maxRecDepth 20000 in
theorem l8Copy_c {W : World} {s : Sl.State} {cs : List Value} (hm : stateEK.K W s cs) (hz : (s.size : Int) ≤ 1048576) : Calls Tryz.prog 31 #[.agg cs.toArray] W (Ret (Mk W (fun vs => .agg (stateEK.cells s vs).toArray) (fun vs => [Part stateEK s vs]))) := by
  refine calls_fr Tryz.func31 rfl Tryz.ntmps31 rfl ?_
  intro a hF
  have hS := Sep.refl W
  obtain ⟨v0, v1, v2, rfl, r0, r1, r2⟩ := hm
  obtain ⟨A_a, q_a, rfl, hq_a, hn_a⟩ := r0.sl; unfold maxLen at hn_a
  obtain ⟨A_b, q_b, rfl, hq_b, hn_b⟩ := r1.sl; unfold maxLen at hn_b
  obtain ⟨A_c, q_c, rfl, hq_c, hn_c⟩ := r2.sl; unfold maxLen at hn_c
  have hz1 := hz; unfold Sl.State.size at hz1
  refine ws fun K1 hK1 => ?_
  refine wl_box (cs := [_, _, _, _, _, _, _, _, _, _, _, _, _]) hF hS rfl (hF.ev rfl) rfl ?_; clear hF a; intro g1 w1 a hS_ hB_ hF; replace hS := hS_; clear hS_ hB_
  refine wl_alloc hF hS rfl zr32 ?_; clear hF a; intro g2 w2 a hS_ hB_ hF; replace hS := hS_; clear hS_ hB_
  refine wl_nil (hK1 _ _ ?_)
  refine ws fun K2 hK2 => ?_
  refine wl hF rfl rfl rfl (r_loadn ag32 (hF.ev rfl) (hS.box_rd (i := 1) rfl) sz32) ?_; clear hF a; intro a hF
  refine wl_alloc hF hS rfl zr32 ?_; clear hF a; intro g3 w3 a hS_ hB_ hF; replace hS := hS_; clear hS_ hB_
  refine wl_storew hF hS (i := 0) rfl (hF.ev rfl) (hF.ev rfl) sz32 rfl rfl ?_; intro w4 hS_; replace hS := hS_; clear hS_; dsimp only [List.set, Nat.reduceAdd] at hS
  refine wl_nil (hK2 _ _ ?_)
  refine ws fun K3 hK3 => ?_
  refine wl_bslice intEK [] [] rfl hF hS rfl mk24 rfl trivial rfl rfl rfl rfl ?_; clear hF a; intro gl_7 w5 a hS_ hF; replace hS := hS_; clear hS_
  refine wl hF rfl rfl rfl (r_field fo32_1 (hF.ev rfl)) ?_; clear hF a; intro a hF
  refine wl hF rfl rfl rfl (r_load1 sc24 (hF.ev rfl) (hS.box (i := 3) rfl rfl)) ?_; clear hF a; intro a hF
  refine wl_append0 hF hS rfl (hS.rd r0) mk24 rfl (by omega) (by unfold maxLen; omega) (hF.ev rfl) (hF.ev rfl) ?_; clear hF a; intro s10 w6 a hS_ hF; replace hS := hS_; clear hS_
  refine wl hF rfl rfl rfl (r_field fo32_1 (hF.ev rfl)) ?_; clear hF a; intro a hF
  refine wl_store hF hS (i := 2) rfl sz24 (hF.ev rfl) (hF.ev rfl) rfl rfl ?_; intro w7 hS_; replace hS := hS_; clear hS_; dsimp only [List.set, Nat.reduceAdd] at hS
  refine wl_nil (hK3 _ _ ?_)
  refine ws fun K4 hK4 => ?_
  refine wl_bslice intEK [] [] rfl hF hS rfl mk24 rfl trivial rfl rfl rfl rfl ?_; clear hF a; intro gl_12 w8 a hS_ hF; replace hS := hS_; clear hS_
  refine wl hF rfl rfl rfl (r_field fo32_2 (hF.ev rfl)) ?_; clear hF a; intro a hF
  refine wl hF rfl rfl rfl (r_load1 sc24 (hF.ev rfl) (hS.box (i := 5) rfl rfl)) ?_; clear hF a; intro a hF
  refine wl_append0 hF hS rfl (hS.rd r1) mk24 rfl (by omega) (by unfold maxLen; omega) (hF.ev rfl) (hF.ev rfl) ?_; clear hF a; intro s15 w9 a hS_ hF; replace hS := hS_; clear hS_
  refine wl hF rfl rfl rfl (r_field fo32_2 (hF.ev rfl)) ?_; clear hF a; intro a hF
  refine wl_store hF hS (i := 4) rfl sz24 (hF.ev rfl) (hF.ev rfl) rfl rfl ?_; intro w10 hS_; replace hS := hS_; clear hS_; dsimp only [List.set, Nat.reduceAdd] at hS
  refine wl_nil (hK4 _ _ ?_)
  refine ws fun K5 hK5 => ?_
  refine wl_bslice (rawEK 19) [] [] rfl hF hS rfl mk30 rfl trivial rfl rfl rfl rfl ?_; clear hF a; intro gl_17 w11 a hS_ hF; replace hS := hS_; clear hS_
  replace hS := hS.tail.own_nilA threadEK (some ⟨gl_17, 0, none⟩)
  refine wl hF rfl rfl rfl (r_field fo32_3 (hF.ev rfl)) ?_; clear hF a; intro a hF
  refine wl_store hF hS (i := 5) rfl sz30 (hF.ev rfl) (hF.ev rfl) rfl rfl ?_; intro w12 hS_; replace hS := hS_; clear hS_; dsimp only [List.set, Nat.reduceAdd] at hS
  refine wl_nil (hK5 _ _ ?_)
  refine wp_seq_k fun K6 hK6 => ?_
  refine ws fun K7 hK7 => ?_
  refine wl_mvs (A := [_]) hF rfl ?_; clear hF a; intro a hF
  refine wl_nil (hK7 _ _ ?_)
  refine wp_block ?_
  replace hS := hS.pull (p := 5) rfl; dsimp only [List.eraseIdx] at hS
  replace hS := hS.pull (p := 1) rfl; dsimp only [List.eraseIdx] at hS
  have hL_ := (((hF.nil.keep hF (t := 3) rfl).keep hF (t := 2) rfl).keep hF (t := 1) rfl)
  refine wp_loop_m (σ := Nat × Slv) (fun z L_ => (4, vi z.1) :: L_) (fun z l_ => (Own threadEK (sv z.2) (s.threads.take z.1)) :: (Box g3 (s.encv (sv s10) (sv s15) (sv z.2))) :: l_) (fun z => (z.1 ≤ s.threads.length)) (fun z => s.threads.length - z.1) (0, (_, _, _)) (hS) (hL_.keepE hF (t := 4) rfl rfl) ?_ ?_
  · exact Nat.zero_le _
  clear hF hS hL_ a
  rintro ⟨k, q⟩ a w13 hk hS hF; try dsimp only at hF; try dsimp only at hS; try dsimp only at hk
  dsimp only [Sl.State.encv] at hS
  refine wp_seq_k fun K8 hK8 => ?_
  refine ws fun K9 hK9 => ?_
  refine wl_mvs (A := [_]) hF rfl ?_; clear hF a; intro a hF
  refine wl hF rfl rfl rfl (r_field fo32_3 (hF.ev rfl)) ?_; clear hF a; intro a hF
  refine wl hF rfl rfl rfl (r_load1 sc30 (hF.ev rfl) (hS.box (i := 7) rfl rfl)) ?_; clear hF a; intro a hF
  refine wl hF rfl rfl rfl (r_len ul30 (hF.ev rfl)) ?_; clear hF a; intro a hF
  refine wl hF rfl rfl rfl (r_lss (hF.ev rfl) (hF.ev rfl)) ?_; clear hF a; intro a hF
  refine wl_nil (hK9 _ _ ?_)
  refine wc_fx (t := 23) hF rfl ?_ ?_ <;> clear hF <;> intro c23 hF <;> try simp only [zb1, zb2, zb3, zb4, zb5, zb6, zb7, zb8] at c23
  ·
    have hlt : k < s.threads.length := by omega
    have hx := at0_nat hlt
    have hc1 := crow_le1 (c := Sl.Thread.size) hx
    refine wp_skip ?_
    refine hK8 _ _ ?_
    refine wp_seq_k fun K10 hK10 => ?_
    refine wp_block ?_
    refine ws fun K11 hK11 => ?_
    refine wl hF rfl rfl rfl (r_field fo32_3 (hF.ev rfl)) ?_; clear hF a; intro a hF
    refine wl hF rfl rfl rfl (r_load1 sc30 (hF.ev rfl) (hS.box (i := 7) rfl rfl)) ?_; clear hF a; intro a hF
    refine wl_mvs (A := [_]) hF rfl ?_; clear hF a; intro a hF
    obtain ⟨g29, o29, m29, q29, cs29, hv29, hm29, hl29, hk29, hz29, hc29⟩ := Rd.at (r2) (a := a) (X := .tmp 28) (hF.ev rfl) (by omega) (by omega)
    have hkk29 := hk29; obtain ⟨v29_0, v29_1, v29_2, v29_3, v29_4, rfl, r29_0, r29_1, r29_2, r29_3, r29_4⟩ := hk29
    refine wl hF rfl rfl rfl (r_index sl30 ((hF.ev rfl).trans hv29) (hF.ev rfl) (by omega) (by first | omega | (simp at hm29; omega))) ?_; clear hF a; intro a hF
    refine wl hF rfl rfl rfl (r_loadn ag53 (hF.ev rfl) (fun j_ u_ hu_ => cellB hS.old (hc29 j_ u_ hu_)) sz53) ?_; clear hF a; intro a hF
    refine wl_mk hF hS rfl rfl rfl (r_call1 en66 (hF.ev rfl)) (l7Copy_c (hS.k hkk29) (by omega)) ?_; clear hF a; rintro vs31 w14 a hS_ hF; replace hS := hS_; clear hS_; dsimp only [List.cons_append, List.nil_append] at hS
    refine wl_alloc hF hS rfl zr53 ?_; clear hF a; intro g4 w15 a hS_ hB_ hF; replace hS := hS_; clear hS_ hB_
    refine wl_storew hF hS (i := 0) rfl (hF.ev rfl) (hF.ev rfl) sz53 rfl rfl ?_; intro w16 hS_; replace hS := hS_; clear hS_; dsimp only [List.set, Nat.reduceAdd] at hS
    refine wl_nil (hK11 _ _ ?_)
    refine wp_region_lit ?_
    refine wl hF rfl rfl rfl (r_field fo32_3 (hF.ev rfl)) ?_; clear hF a; intro a hF
    refine wl hF rfl rfl rfl (r_load1 sc30 (hF.ev rfl) (hS.box (i := 3) rfl rfl)) ?_; clear hF a; intro a hF
    refine wl hF rfl rfl rfl (r_loadn ag53 (hF.ev rfl) (hS.box_rd (i := 0) rfl) sz53) ?_; clear hF a; intro a hF
    refine wl_bslice (rawEK threadEK.sz) [.agg (threadEK.cells (at0 s.threads (k : Int)) vs31).toArray] [raw threadEK (at0 s.threads (k : Int)) vs31] rfl hF hS rfl mk30 rfl ⟨rfl, (hF.ev rfl), trivial⟩ rfl rfl rfl rfl ?_; clear hF a; intro gl_35 w17 a hS_ hF; replace hS := hS_; clear hS_
    have hu_ := hS.own_rd (i := 0) rfl
    replace hS := hS.pull (p := 2) rfl; dsimp only [List.eraseIdx] at hS
    replace hS := hS.pull (p := 3) rfl; dsimp only [List.eraseIdx] at hS
    refine wl_appendn (ek := threadEK) hF hS rfl hu_ mk30 rfl (hF.ev rfl) (hF.ev rfl) (by simp; omega) (by unfold maxLen; simp; omega) ?_; clear hF a hu_; intro A_36 c_36 w18 a hS_ hF; replace hS := hS_; clear hS_
    refine wl hF rfl rfl rfl (r_field fo32_3 (hF.ev rfl)) ?_; clear hF a; intro a hF
    refine wl_store hF hS (i := 3) rfl sz30 (hF.ev rfl) (hF.ev rfl) rfl rfl ?_; intro w19 hS_; replace hS := hS_; clear hS_; dsimp only [List.set, Nat.reduceAdd] at hS
    refine wl_nil ?_
    simp only [Exit.then, Exit.inBlock, ↓reduceIte]
    refine hK10 _ _ ?_
    refine wp_region_lit ?_
    refine wl_mvs (A := [_]) hF rfl ?_; clear hF a; intro a hF
    refine wl hF rfl rfl rfl (r_add (hF.ev rfl) ec) ?_; clear hF a; intro a hF
    refine wl_mvs (A := [_]) hF rfl ?_; clear hF a; intro a hF
    refine wl_nil ?_
    try simp only [Exit.then, Exit.inBlock, ↓reduceIte]
    rw [← take_at0 (by omega)] at hS
    refine ⟨(k + 1, (_, _, _)), (by dsimp only; omega), (hS.pick [0, 3, 4, 5, 6, 7, 8, 9] (by decide) rfl), ((((hF.nil.keep hF (t := 3) rfl).keep hF (t := 2) rfl).keep hF (t := 1) rfl).keepE hF (t := 4) rfl (wk (by omega))), by dsimp only; omega⟩
  refine wp_exit ?_
  simp only [Exit.then, Exit.inBlock, ↓reduceIte]
  refine hK6 _ _ ?_
  refine ws fun K12 hK12 => ?_
  refine wl hF rfl rfl rfl (r_loadn ag32 (hF.ev rfl) (hS.box_rd (i := 1) rfl) sz32) ?_; clear hF a; intro a hF
  refine wl_storew hF hS (i := 6) rfl (hF.ev rfl) (hF.ev rfl) sz32 rfl rfl ?_; intro w20 hS_; replace hS := hS_; clear hS_; dsimp only [List.set, Nat.reduceAdd] at hS
  refine wl_nil (hK12 _ _ ?_)
  refine wp_ret ?_
  try simp only [Exit.then, Exit.inBlock, ↓reduceIte]
  obtain rfl : k = s.threads.length := by omega
  rw [List.take_length] at hS
  exact ret1c rfl ag32 hF hS (i := 6) rfl sz32 rfl ⟨[s10, s15, q], rfl, hS.part_of [4, 2, 0] (by decide) rfl⟩

end Go.Proofs.YtifhfodphoeeoaaGreat.Wk
