/- Walks: the law on EqualMachines. -/
import Derived.Test.YtjloiphocdaahaaChecked
import Derived.Test.YtjloiphocdaahaaWkQ
import Derived.Test.YtjloiphocdaahaaFactsC
namespace Go.Proofs.Ytjloiphocdaahaa.Wk
open Go Go.RowKit Sl
set_option linter.unusedVariables false
set_option linter.unusedSimpArgs false
set_option maxRecDepth 20000

set_option maxHeartbeats 4000000 in
set_option maxRecDepth 20000 in
theorem law_FnExactEqualMachines {W : World} {x y : Sl.Machine} {cs ds : List Value} (hx : machineEK.K W x cs) (hy : machineEK.K W y ds) : Calls Try.prog 3 #[.agg cs.toArray, .agg ds.toArray] W (Ret fun v w' => v = .bool true ∧ Below W.heap.size W w') := by
  refine calls_fr Try.func3 rfl Try.ntmps3 rfl ?_
  intro a hF
  have hS := Sep.refl W
  obtain ⟨v0, v1, v2, v3, v4, v5, rfl, r0, r1, r2, r3, r4, r5⟩ := hx
  have hx : machineEK.K W x (x.encv v0 v1 v2 v3 v4 v5) := ⟨_, _, _, _, _, _, rfl, r0, r1, r2, r3, r4, r5⟩
  obtain ⟨u0, u1, u2, u3, u4, u5, rfl, q0, q1, q2, q3, q4, q5⟩ := hy
  have hy : machineEK.K W y (y.encv u0 u1 u2 u3 u4 u5) := ⟨_, _, _, _, _, _, rfl, q0, q1, q2, q3, q4, q5⟩
  refine ws fun K1 hK1 => ?_
  refine wl_box (cs := [_, _, _, _, _, _, _, _, _, _, _, _, _, _, _, _, _]) hF hS rfl (hF.ev rfl) rfl ?_; clear hF a; intro g1 w1 a hS_ hB_ hF; replace hS := hS_; clear hS_ hB_
  refine wl_box (cs := [_, _, _, _, _, _, _, _, _, _, _, _, _, _, _, _, _]) hF hS rfl (hF.ev rfl) rfl ?_; clear hF a; intro g2 w2 a hS_ hB_ hF; replace hS := hS_; clear hS_ hB_
  refine wl_mvs (A := [_]) hF rfl ?_; clear hF a; intro a hF
  refine wl_nil (hK1 _ _ ?_)
  refine ws fun K2 hK2 => ?_
  refine wl_mvs (A := [_]) hF rfl ?_; clear hF a; intro a hF
  refine wl_nil (hK2 _ _ ?_)
  refine ws fun K3 hK3 => ?_
  refine wl hF rfl rfl rfl (r_loadn ag31 (hF.ev rfl) (hS.box_rd (i := 1) rfl) sz31) ?_; clear hF a; intro a hF
  refine wl_mvs (A := [_]) hF rfl ?_; clear hF a; intro a hF
  refine wl_call hF rfl rfl rfl (r_call2 en12 (hF.ev rfl) (hF.ev rfl)) (szMachine_c (hS.k hx) (by omega) (by omega)) ?_; clear hF a; rintro v w3 a ⟨⟨r12, rfl, e1_12, e2_12, e3_12⟩, hB_⟩ hF; replace hS := hS.ext hB_; clear hB_
  refine wl_mvs (A := [_]) hF rfl ?_; clear hF a; intro a hF
  refine wl_nil (hK3 _ _ ?_)
  refine wp_seq_k fun K4 hK4 => ?_
  refine ws fun K5 hK5 => ?_
  refine wl_mvs (A := [_]) hF rfl ?_; clear hF a; intro a hF
  refine wl hF rfl rfl rfl (r_lss (hF.ev rfl) ec) ?_; clear hF a; intro a hF
  refine wl_nil (hK5 _ _ ?_)
  first | refine wc_dec (hF.ev rfl) (fun c14 => ?_) (fun c14 => ?_) | refine wc_ndec (hF.ev rfl) (fun c14 => ?_) (fun c14 => ?_) | refine wc_b (hF.ev rfl) (fun c14 => ?_) (fun c14 => ?_)
  ·
    refine ws fun K6 hK6 => ?_
    refine wl_mvs (A := [_]) hF rfl ?_; clear hF a; intro a hF
    refine wl_nil (hK6 _ _ ?_)
    refine wp_ret ?_
    try simp only [Exit.then, Exit.inBlock, ↓reduceIte]
    exact ret1 rfl hF rfl ⟨rfl, hS.old⟩
  refine wp_skip ?_
  refine hK4 _ _ ?_
  refine ws fun K7 hK7 => ?_
  refine wl hF rfl rfl rfl (r_loadn ag31 (hF.ev rfl) (hS.box_rd (i := 0) rfl) sz31) ?_; clear hF a; intro a hF
  refine wl_mvs (A := [_]) hF rfl ?_; clear hF a; intro a hF
  refine wl_call hF rfl rfl rfl (r_call2 en12 (hF.ev rfl) (hF.ev rfl)) (szMachine_c (hS.k hy) (by omega) (by omega)) ?_; clear hF a; rintro v w4 a ⟨⟨r17, rfl, e1_17, e2_17, e3_17⟩, hB_⟩ hF; replace hS := hS.ext hB_; clear hB_
  refine wl_mvs (A := [_]) hF rfl ?_; clear hF a; intro a hF
  refine wl_nil (hK7 _ _ ?_)
  refine wp_seq_k fun K8 hK8 => ?_
  refine ws fun K9 hK9 => ?_
  refine wl_mvs (A := [_]) hF rfl ?_; clear hF a; intro a hF
  refine wl hF rfl rfl rfl (r_lss (hF.ev rfl) ec) ?_; clear hF a; intro a hF
  refine wl_nil (hK9 _ _ ?_)
  first | refine wc_dec (hF.ev rfl) (fun c19 => ?_) (fun c19 => ?_) | refine wc_ndec (hF.ev rfl) (fun c19 => ?_) (fun c19 => ?_) | refine wc_b (hF.ev rfl) (fun c19 => ?_) (fun c19 => ?_)
  ·
    refine ws fun K10 hK10 => ?_
    refine wl_mvs (A := [_]) hF rfl ?_; clear hF a; intro a hF
    refine wl_nil (hK10 _ _ ?_)
    refine wp_ret ?_
    try simp only [Exit.then, Exit.inBlock, ↓reduceIte]
    exact ret1 rfl hF rfl ⟨rfl, hS.old⟩
  refine wp_skip ?_
  refine hK8 _ _ ?_
  refine wp_seq_k fun K11 hK11 => ?_
  refine wp_region_todo (is := [0, 2, 1, 3, 4, 5]) [] [] (by kernel_rfl) hF hS ⟨trivial, by decide, by decide, by decide⟩ (by kernel_rfl) ?_; clear hF; intro hl_ wd hSd
  refine todo_quiet hl_ (by kernel_rfl) rfl rfl rfl rfl rfl (fun a w_ hF hB_ => r_loadn ag31 (hF.ev rfl) ((hSd.ext hB_).box_rd (i := 1) rfl) sz31) ?_
  refine todo_quiet hl_ (by kernel_rfl) rfl rfl rfl rfl rfl (fun a w_ hF hB_ => r_loadn ag31 (hF.ev rfl) ((hSd.ext hB_).box_rd (i := 0) rfl) sz31) ?_
  refine todo_mk hl_ rfl (by kernel_rfl) rfl rfl rfl rfl rfl (fun a w_ hF => r_call1 en14 (hF.ev rfl)) (fun w_ hS => toMachine_c (hS.k hx) (by omega)) ?_; rintro vs21
  refine todo_mk hl_ rfl (by kernel_rfl) rfl rfl rfl rfl rfl (fun a w_ hF => r_call1 en14 (hF.ev rfl)) (fun w_ hS => toMachine_c (hS.k hy) (by omega)) ?_; rintro vs23
  refine todo_rd hl_ rfl (by kernel_rfl) rfl rfl rfl rfl rfl (fun a w_ hF => r_call2 en13 (hF.ev rfl) (hF.ev rfl)) (fun w_ hS => specEqMachine_c (hS.part_k (i := 1) rfl) (hS.part_k (i := 0) rfl)) ?_
  refine todo_pure hl_ (by kernel_rfl) rfl rfl rfl rfl rfl (fun a w_ hF => r_assign (hF.ev rfl)) ?_
  refine todo_fin hl_ rfl (by kernel_rfl) (tl := []) rfl ?_; clear hS a; intro a w5 hF hA_
  have hS := hA_.sep; clear hA_
  clear hl_; try clear hSd; try clear wd
  try dsimp only [List.cons_append, List.nil_append, List.set] at hS
  refine wl_nil ⟨rfl, ?_⟩
  refine hK11 _ _ ?_
  refine ws fun K12 hK12 => ?_
  refine wl hF rfl rfl rfl (r_loadn ag31 (hF.ev rfl) (hS.box_rd (i := 3) rfl) sz31) ?_; clear hF a; intro a hF
  refine wl_mk hF hS rfl rfl rfl (r_call1 en14 (hF.ev rfl)) (toMachine_c (hS.k hx) (by omega)) ?_; clear hF a; rintro vs26 w6 a hS_ hF; replace hS := hS_; clear hS_; dsimp only [List.cons_append, List.nil_append] at hS
  refine wl_alloc hF hS rfl zr41 ?_; clear hF a; intro g3 w7 a hS_ hB_ hF; replace hS := hS_; clear hS_ hB_
  refine wl_storew hF hS (i := 0) rfl (hF.ev rfl) (hF.ev rfl) sz41 rfl rfl ?_; intro w8 hS_; replace hS := hS_; clear hS_; dsimp only [List.set, Nat.reduceAdd] at hS
  refine wl_nil (hK12 _ _ ?_)
  refine ws fun K13 hK13 => ?_
  refine wl hF rfl rfl rfl (r_loadn ag31 (hF.ev rfl) (hS.box_rd (i := 4) rfl) sz31) ?_; clear hF a; intro a hF
  refine wl_mk hF hS rfl rfl rfl (r_call1 en14 (hF.ev rfl)) (toMachine_c (hS.k hy) (by omega)) ?_; clear hF a; rintro vs28 w9 a hS_ hF; replace hS := hS_; clear hS_; dsimp only [List.cons_append, List.nil_append] at hS
  refine wl_alloc hF hS rfl zr41 ?_; clear hF a; intro g4 w10 a hS_ hB_ hF; replace hS := hS_; clear hS_ hB_
  refine wl_storew hF hS (i := 0) rfl (hF.ev rfl) (hF.ev rfl) sz41 rfl rfl ?_; intro w11 hS_; replace hS := hS_; clear hS_; dsimp only [List.set, Nat.reduceAdd] at hS
  refine wl_nil (hK13 _ _ ?_)
  refine ws fun K14 hK14 => ?_
  refine wl hF rfl rfl rfl (r_loadn ag41 (hF.ev rfl) (hS.box_rd (i := 2) rfl) sz41) ?_; clear hF a; intro a hF
  refine wl hF rfl rfl rfl (r_loadn ag41 (hF.ev rfl) (hS.box_rd (i := 0) rfl) sz41) ?_; clear hF a; intro a hF
  refine wl_call hF rfl rfl rfl (r_call2 en15 (hF.ev rfl) (hF.ev rfl)) (implEqMachine_c (hS.part_k (i := 3) rfl) (hS.part_k (i := 1) rfl)) ?_; clear hF a; rintro v w12 a ⟨rfl, hB_⟩ hF; replace hS := hS.ext hB_; clear hB_
  refine wl_mvs (A := [_]) hF rfl ?_; clear hF a; intro a hF
  refine wl_nil (hK14 _ _ ?_)
  refine wp_seq_k fun K15 hK15 => ?_
  refine ws fun K16 hK16 => ?_
  refine wl_mvs (A := [_, _]) hF rfl ?_; clear hF a; intro a hF
  refine wl hF rfl rfl rfl (r_neqb bl4 (hF.ev rfl) (hF.ev rfl)) ?_; clear hF a; intro a hF
  refine wl_nil (hK16 _ _ ?_)
  first | refine wc_dec (hF.ev rfl) (fun c34 => ?_) (fun c34 => ?_) | refine wc_ndec (hF.ev rfl) (fun c34 => ?_) (fun c34 => ?_) | refine wc_b (hF.ev rfl) (fun c34 => ?_) (fun c34 => ?_)
  · exfalso; first | omega | exact (c34 rfl).elim | (simp_all; done)
  refine wp_skip ?_
  refine hK15 _ _ ?_
  refine wp_seq_k fun K17 hK17 => ?_
  refine wp_seq_k fun K18 hK18 => ?_
  refine wp_region_todo (is := [0, 1, 2, 3, 4]) [] [] (by kernel_rfl) hF hS ⟨trivial, by decide, by decide, by decide⟩ (by kernel_rfl) ?_; clear hF; intro hl_ wd hSd
  refine todo_quiet hl_ (by kernel_rfl) rfl rfl rfl rfl rfl (fun a w_ hF hB_ => r_loadn ag41 (hF.ev rfl) ((hSd.ext hB_).box_rd (i := 2) rfl) sz41) ?_
  refine todo_quiet hl_ (by kernel_rfl) rfl rfl rfl rfl rfl (fun a w_ hF hB_ => r_loadn ag31 (hF.ev rfl) ((hSd.ext hB_).box_rd (i := 7) rfl) sz31) ?_
  refine todo_mk hl_ rfl (by kernel_rfl) rfl rfl rfl rfl rfl (fun a w_ hF => r_call1 en14 (hF.ev rfl)) (fun w_ hS => toMachine_c (hS.k hx) (by omega)) ?_; rintro vs37
  refine todo_rd hl_ rfl (by kernel_rfl) rfl rfl rfl rfl rfl (fun a w_ hF => r_call2 en16 (hF.ev rfl) (hF.ev rfl)) (fun w_ hS => eqMachine_same (hS.part_k (i := 4) rfl) (hS.part_k (i := 0) rfl)) ?_
  refine todo_pure hl_ (by kernel_rfl) rfl rfl rfl rfl rfl (fun a w_ hF => r_not (hF.ev rfl)) ?_
  refine todo_fin hl_ rfl (by kernel_rfl) (tl := []) rfl ?_; clear hS a; intro a w13 hF hA_
  have hS := hA_.sep; clear hA_
  clear hl_; try clear hSd; try clear wd
  try dsimp only [List.cons_append, List.nil_append, List.set] at hS
  refine wl_nil ⟨rfl, ?_⟩
  refine hK18 _ _ ?_
  refine wc_false (hF.ev rfl) ?_
  refine wp_skip ?_
  refine hK17 _ _ ?_
  refine wp_seq_k fun K19 hK19 => ?_
  refine wp_seq_k fun K20 hK20 => ?_
  refine wp_region_todo (is := [0, 1, 2, 3, 4]) [] [] (by kernel_rfl) hF hS ⟨trivial, by decide, by decide, by decide⟩ (by kernel_rfl) ?_; clear hF; intro hl_ wd hSd
  refine todo_quiet hl_ (by kernel_rfl) rfl rfl rfl rfl rfl (fun a w_ hF hB_ => r_loadn ag41 (hF.ev rfl) ((hSd.ext hB_).box_rd (i := 1) rfl) sz41) ?_
  refine todo_quiet hl_ (by kernel_rfl) rfl rfl rfl rfl rfl (fun a w_ hF hB_ => r_loadn ag31 (hF.ev rfl) ((hSd.ext hB_).box_rd (i := 7) rfl) sz31) ?_
  refine todo_mk hl_ rfl (by kernel_rfl) rfl rfl rfl rfl rfl (fun a w_ hF => r_call1 en14 (hF.ev rfl)) (fun w_ hS => toMachine_c (hS.k hy) (by omega)) ?_; rintro vs42
  refine todo_rd hl_ rfl (by kernel_rfl) rfl rfl rfl rfl rfl (fun a w_ hF => r_call2 en16 (hF.ev rfl) (hF.ev rfl)) (fun w_ hS => eqMachine_same (hS.part_k (i := 3) rfl) (hS.part_k (i := 0) rfl)) ?_
  refine todo_pure hl_ (by kernel_rfl) rfl rfl rfl rfl rfl (fun a w_ hF => r_not (hF.ev rfl)) ?_
  refine todo_fin hl_ rfl (by kernel_rfl) (tl := []) rfl ?_; clear hS a; intro a w14 hF hA_
  have hS := hA_.sep; clear hA_
  clear hl_; try clear hSd; try clear wd
  try dsimp only [List.cons_append, List.nil_append, List.set] at hS
  refine wl_nil ⟨rfl, ?_⟩
  refine hK20 _ _ ?_
  refine wc_false (hF.ev rfl) ?_
  refine wp_skip ?_
  refine hK19 _ _ ?_
  refine ws fun K21 hK21 => ?_
  refine wl_mvs (A := [_]) hF rfl ?_; clear hF a; intro a hF
  refine wl_nil (hK21 _ _ ?_)
  refine wp_ret ?_
  try simp only [Exit.then, Exit.inBlock, ↓reduceIte]
  exact ret1 rfl hF rfl ⟨rfl, hS.old⟩

end Go.Proofs.Ytjloiphocdaahaa.Wk
