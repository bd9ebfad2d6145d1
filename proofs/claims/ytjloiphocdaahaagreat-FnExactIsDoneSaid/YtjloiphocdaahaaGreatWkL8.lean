/- Walks: the law on IsDone. -/
import Derived.Test.YtjloiphocdaahaaGreatChecked
import Derived.Test.YtjloiphocdaahaaGreatWkDn
import Derived.Test.YtjloiphocdaahaaGreatFactsB
namespace Go.Proofs.YtjloiphocdaahaaGreat.Wk
open Go Go.RowKit Sl
set_option linter.unusedVariables false
set_option linter.unusedSimpArgs false
set_option maxRecDepth 20000

set_option maxHeartbeats 4000000 in
set_option maxRecDepth 20000 in
theorem law_FnExactIsDone {W : World} {m : Sl.Machine} {cs : List Value} (hm : machineEK.K W m cs) (hw : m.wf) : Calls Tryz.prog 3 #[.agg cs.toArray] W (Ret fun v w' => v = .bool true ∧ Below W.heap.size W w') := by
  refine calls_fr Tryz.func3 rfl Tryz.ntmps3 rfl ?_
  intro a hF
  have hS := Sep.refl W
  obtain ⟨v0, v1, v2, v3, v4, v5, rfl, r0, r1, r2, r3, r4, r5⟩ := hm
  have hm : machineEK.K W m (m.encv v0 v1 v2 v3 v4 v5) := ⟨_, _, _, _, _, _, rfl, r0, r1, r2, r3, r4, r5⟩
  refine ws fun K1 hK1 => ?_
  refine wl_box (cs := [_, _, _, _, _, _, _, _, _, _, _, _, _, _, _, _, _]) hF hS rfl (hF.ev rfl) rfl ?_; clear hF a; intro g1 w1 a hS_ hB_ hF; replace hS := hS_; clear hS_ hB_
  refine wl_mvs (A := [_]) hF rfl ?_; clear hF a; intro a hF
  refine wl_nil (hK1 _ _ ?_)
  refine ws fun K2 hK2 => ?_
  refine wl_mvs (A := [_]) hF rfl ?_; clear hF a; intro a hF
  refine wl_nil (hK2 _ _ ?_)
  refine ws fun K3 hK3 => ?_
  refine wl hF rfl rfl rfl (r_loadn ag31 (hF.ev rfl) (hS.box_rd (i := 0) rfl) sz31) ?_; clear hF a; intro a hF
  refine wl_mvs (A := [_]) hF rfl ?_; clear hF a; intro a hF
  refine wl_call hF rfl rfl rfl (r_call2 en4 (hF.ev rfl) (hF.ev rfl)) (szMachine_c (hS.k hm) (by omega) (by omega)) ?_; clear hF a; rintro v w2 a ⟨⟨r9, rfl, e1_9, e2_9, e3_9⟩, hB_⟩ hF; replace hS := hS.ext hB_; clear hB_
  refine wl_mvs (A := [_]) hF rfl ?_; clear hF a; intro a hF
  refine wl_nil (hK3 _ _ ?_)
  refine wp_seq_k fun K4 hK4 => ?_
  refine ws fun K5 hK5 => ?_
  refine wl_mvs (A := [_]) hF rfl ?_; clear hF a; intro a hF
  refine wl hF rfl rfl rfl (r_lss (hF.ev rfl) ec) ?_; clear hF a; intro a hF
  refine wl_nil (hK5 _ _ ?_)
  first | refine wc_dec (hF.ev rfl) (fun c11 => ?_) (fun c11 => ?_) | refine wc_ndec (hF.ev rfl) (fun c11 => ?_) (fun c11 => ?_) | refine wc_b (hF.ev rfl) (fun c11 => ?_) (fun c11 => ?_)
  ·
    refine ws fun K6 hK6 => ?_
    refine wl_mvs (A := [_]) hF rfl ?_; clear hF a; intro a hF
    refine wl_nil (hK6 _ _ ?_)
    refine wp_ret ?_
    try simp only [Exit.then, Exit.inBlock, ↓reduceIte]
    exact ret1 rfl hF rfl ⟨rfl, hS.old⟩
  refine wp_skip ?_
  refine hK4 _ _ ?_
  refine ws fun K7 hK7 => ?_
  refine wl hF rfl rfl rfl (r_loadn ag31 (hF.ev rfl) (hS.box_rd (i := 0) rfl) sz31) ?_; clear hF a; intro a hF
  refine wl_mk hF hS rfl rfl rfl (r_call1 en6 (hF.ev rfl)) (toMachine_c (hS.k hm) (by omega)) ?_; clear hF a; rintro vs13 w3 a hS_ hF; replace hS := hS_; clear hS_; dsimp only [List.cons_append, List.nil_append] at hS
  refine wl_call hF rfl rfl rfl (r_call1 en5 (hF.ev rfl)) (specIsDone_c (hS.part_k (i := 0) rfl) hw (by omega)) ?_; clear hF a; rintro v w4 a ⟨rfl, hB_⟩ hF; replace hS := hS.ext hB_; clear hB_
  refine wl_mvs (A := [_]) hF rfl ?_; clear hF a; intro a hF
  refine wl_nil (hK7 _ _ ?_)
  refine ws fun K8 hK8 => ?_
  refine wl hF rfl rfl rfl (r_loadn ag31 (hF.ev rfl) (hS.box_rd (i := 1) rfl) sz31) ?_; clear hF a; intro a hF
  refine wl_mk hF hS rfl rfl rfl (r_call1 en6 (hF.ev rfl)) (toMachine_c (hS.k hm) (by omega)) ?_; clear hF a; rintro vs16 w5 a hS_ hF; replace hS := hS_; clear hS_; dsimp only [List.cons_append, List.nil_append] at hS
  refine wl_alloc hF hS rfl zr41 ?_; clear hF a; intro g2 w6 a hS_ hB_ hF; replace hS := hS_; clear hS_ hB_
  refine wl_storew hF hS (i := 0) rfl (hF.ev rfl) (hF.ev rfl) sz41 rfl rfl ?_; intro w7 hS_; replace hS := hS_; clear hS_; dsimp only [List.set, Nat.reduceAdd] at hS
  refine wl_nil (hK8 _ _ ?_)
  refine ws fun K9 hK9 => ?_
  refine wl hF rfl rfl rfl (r_loadn ag41 (hF.ev rfl) (hS.box_rd (i := 0) rfl) sz41) ?_; clear hF a; intro a hF
  refine wl_call hF rfl rfl rfl (r_call1 en7 (hF.ev rfl)) (implIsDone_c (hS.part_k (i := 1) rfl) hw (by omega)) ?_; clear hF a; rintro v w8 a ⟨rfl, hB_⟩ hF; replace hS := hS.ext hB_; clear hB_
  refine wl_mvs (A := [_]) hF rfl ?_; clear hF a; intro a hF
  refine wl_nil (hK9 _ _ ?_)
  refine wp_seq_k fun K10 hK10 => ?_
  refine ws fun K11 hK11 => ?_
  refine wl_mvs (A := [_, _]) hF rfl ?_; clear hF a; intro a hF
  refine wl hF rfl rfl rfl (r_neqb bl4 (hF.ev rfl) (hF.ev rfl)) ?_; clear hF a; intro a hF
  refine wl_nil (hK11 _ _ ?_)
  first | refine wc_dec (hF.ev rfl) (fun c21 => ?_) (fun c21 => ?_) | refine wc_ndec (hF.ev rfl) (fun c21 => ?_) (fun c21 => ?_) | refine wc_b (hF.ev rfl) (fun c21 => ?_) (fun c21 => ?_)
  · exfalso; first | omega | exact (c21 rfl).elim | (simp_all; done)
  refine wp_skip ?_
  refine hK10 _ _ ?_
  refine wp_seq_k fun K12 hK12 => ?_
  refine wp_seq_k fun K13 hK13 => ?_
  refine wp_region_todo (is := [0, 1, 2, 3, 4]) [] [] (by kernel_rfl) hF hS ⟨trivial, by decide, by decide, by decide⟩ (by kernel_rfl) ?_; clear hF; intro hl_ wd hSd
  refine todo_quiet hl_ (by kernel_rfl) rfl rfl rfl rfl rfl (fun a w_ hF hB_ => r_loadn ag41 (hF.ev rfl) ((hSd.ext hB_).box_rd (i := 0) rfl) sz41) ?_
  refine todo_quiet hl_ (by kernel_rfl) rfl rfl rfl rfl rfl (fun a w_ hF hB_ => r_loadn ag31 (hF.ev rfl) ((hSd.ext hB_).box_rd (i := 3) rfl) sz31) ?_
  refine todo_mk hl_ rfl (by kernel_rfl) rfl rfl rfl rfl rfl (fun a w_ hF => r_call1 en6 (hF.ev rfl)) (fun w_ hS => toMachine_c (hS.k hm) (by omega)) ?_; rintro vs24
  refine todo_rd hl_ rfl (by kernel_rfl) rfl rfl rfl rfl rfl (fun a w_ hF => r_call2 en8 (hF.ev rfl) (hF.ev rfl)) (fun w_ hS => eqMachine_same (hS.part_k (i := 2) rfl) (hS.part_k (i := 0) rfl)) ?_
  refine todo_pure hl_ (by kernel_rfl) rfl (gw0 rfl) rfl rfl rfl (fun a w_ hF => r_not (hF.ev rfl)) ?_
  refine todo_fin hl_ rfl (by kernel_rfl) (tl := []) rfl ?_; clear hS a; intro a w9 hF hA_
  have hS := hA_.sep; clear hA_
  clear hl_; try clear hSd
  try dsimp only [List.cons_append, List.nil_append, List.set] at hS
  try clear wd
  refine wl_nil ⟨rfl, ?_⟩
  refine hK13 _ _ ?_
  refine wc_false (hF.ev rfl) ?_
  refine wp_skip ?_
  refine hK12 _ _ ?_
  refine ws fun K14 hK14 => ?_
  refine wl_mvs (A := [_]) hF rfl ?_; clear hF a; intro a hF
  refine wl_nil (hK14 _ _ ?_)
  refine wp_ret ?_
  try simp only [Exit.then, Exit.inBlock, ↓reduceIte]
  exact ret1 rfl hF rfl ⟨rfl, hS.old⟩

end Go.Proofs.YtjloiphocdaahaaGreat.Wk
