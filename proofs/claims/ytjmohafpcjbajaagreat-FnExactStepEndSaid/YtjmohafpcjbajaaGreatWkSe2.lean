/- Walks: the program's StepEnd. -/
import Derived.Test.YtjmohafpcjbajaaGreatChecked
import Derived.Test.YtjmohafpcjbajaaGreatWkIf
import Derived.Test.YtjmohafpcjbajaaGreatFactsC
namespace Go.Proofs.YtjmohafpcjbajaaGreat.Wk
open Go Go.RowKit Sl
set_option linter.unusedVariables false
set_option linter.unusedSimpArgs false
set_option maxRecDepth 20000

def endI (s : Sl.State) (p : Nat) : Sl.State := setT (putS s (announceCell s.config p) 0) p (endT { at0 s.threads (p : Int) with snapshot := 0 } 0 0)
theorem stepEnd_I (s : Sl.State) (p : Int) : stepI (fun n => decide (n = 80)) endI s p = stepEnd s p := by
  unfold stepI stepEnd
  by_cases h : isRunning s p = true ∧ (at0 s.threads p).pc = 80
  · have h0 := (running_of h.1).2.1
    rw [if_pos h, if_pos (by simpa using h)]
    rfl
  · rw [if_neg h, if_neg (by simpa using h)]

set_option maxHeartbeats 4000000 in
set_option maxRecDepth 20000 in
theorem stepEnd1_c {W : World} {n : Int} : Calls Tryz.prog 31 #[vi n] W (Ret fun v w' => v = .bool (decide (n = 80)) ∧ Below W.heap.size W w') := by
  refine calls_fr Tryz.func31 rfl Tryz.ntmps31 rfl ?_
  intro a hF
  have hS := Sep.refl W
  refine ws fun K1 hK1 => ?_
  refine wl_mvs (A := [_]) hF rfl ?_; clear hF a; intro a hF
  refine wl_nil (hK1 _ _ ?_)
  refine ws fun K2 hK2 => ?_
  refine wl_mvs (A := [_]) hF rfl ?_; clear hF a; intro a hF
  refine wl hF rfl rfl rfl (r_eql (hF.ev rfl) ec) ?_; clear hF a; intro a hF
  refine wl_mvs (A := [_]) hF rfl ?_; clear hF a; intro a hF
  refine wl_nil (hK2 _ _ ?_)
  refine wp_ret ?_
  try simp only [Exit.then, Exit.inBlock, ↓reduceIte]
  exact ret1 rfl hF rfl ⟨rfl, hS.old⟩

set_option maxHeartbeats 4000000 in
set_option maxRecDepth 20000 in
theorem stepEnd2_c {W w : World} {l : List Res} {g gt ot mt ct p gp : Nat} {z0 z1 : Slv} {s : Sl.State} (hp : p < s.threads.length) (hgp : ∀ j u, [vi (p : Int)][j]? = some u → W.cell? ⟨gp, 0 + j, none⟩ = some u) (hS : Sep W (Box g ((s).encv (sv z0) (sv z1) (.slice (some ⟨gt, ot, none⟩) mt ct)) :: Own intEK (sv z0) (s).cells :: Own intEK (sv z1) (s).generations :: Own threadEK (.slice (some ⟨gt, ot, none⟩) mt ct) (s.threads.set p (at0 s.threads (p : Int))) :: l) w) : Calls Tryz.prog 32 #[.agg #[.pointer (some ⟨g, 0, none⟩), .pointer (some ⟨gt, ot + p * 19, none⟩), vi (p : Int)], .pointer (some ⟨gp, 0, none⟩)] w (Ret fun v w' => v = .tuple #[] ∧ Sep W (Box g ((endI s p).encv (sv z0) (sv z1) (.slice (some ⟨gt, ot, none⟩) mt ct)) :: Own intEK (sv z0) (endI s p).cells :: Own intEK (sv z1) (endI s p).generations :: Own threadEK (.slice (some ⟨gt, ot, none⟩) mt ct) (endI s p).threads :: l) w') := by
  refine calls_fr Tryz.func32 rfl Tryz.ntmps32 rfl ?_
  intro a hF
  have hl0 := hS.own_len (q := 1) rfl
  have hl1 := hS.own_len (q := 2) rfl
  have hmt : mt = s.threads.length := by have := hS.own_len (q := 3) (s := (some ⟨gt, ot, none⟩, mt, ct)) rfl; simpa using this
  refine ws fun K1 hK1 => ?_
  refine wl_box (cs := [_, _, _]) hF hS rfl (hF.ev rfl) rfl ?_; clear hF a; intro g1 w1 a hS_ hB_ hF; replace hS := hS_; clear hS_ hB_
  refine wl_nil (hK1 _ _ ?_)
  refine wp_seq_k fun K2 hK2 => ?_
  refine wp_region_todo (is := [0, 1, 2, 3, 4, 5, 6, 7, 8]) [] [8] (by kernel_rfl) hF hS ⟨trivial, by decide, by decide, by decide⟩ (by kernel_rfl) ?_; clear hF; intro hl_ wd hSd
  refine todo_load [8] hl_ (by kernel_rfl) rfl (gw0 rfl) rfl rfl rfl (fun a w_ hF hB_ => r_loadn ag61 (hF.ev rfl) ((hSd.ext hB_).box_rd (i := 0) rfl) sz61) ?_
  refine todo_pure hl_ (by kernel_rfl) rfl (gw0 rfl) rfl rfl rfl (fun a w_ hF => r_field fo61_0 (hF.ev rfl)) ?_
  refine todo_load [3, 4, 5, 7, 8] hl_ (by kernel_rfl) rfl (gw0 rfl) rfl rfl rfl (fun a w_ hF hB_ => r_load1 sc51 (hF.ev rfl) ((hSd.ext hB_).box (i := 0) rfl rfl)) ?_
  refine todo_pure hl_ (by kernel_rfl) rfl (gw0 rfl) rfl rfl rfl (fun a w_ hF => r_nilCheck (hF.ev rfl)) ?_
  refine todo_pure hl_ (by kernel_rfl) rfl (gw0 rfl) rfl rfl rfl (fun a w_ hF => r_field fo32_0 (hF.ev rfl)) ?_
  refine todo_load [7, 8] hl_ (by kernel_rfl) rfl (gw0 rfl) rfl rfl rfl (fun a w_ hF hB_ => r_loadn ag29 (hF.ev rfl) ((hSd.ext hB_).boxn (vs := [_, _, _, _, _, _]) (i := 1) (m := 6) rfl rfl) sz29) ?_
  refine todo_load [7, 8] hl_ (by kernel_rfl) rfl (gw0 rfl) rfl rfl rfl (fun a w_ hF hB_ => r_load1 sc3 (hF.ev rfl) (cellB (hSd.ext hB_).old (hgp 0 _ rfl))) ?_
  refine todo_rd hl_ rfl (by kernel_rfl) rfl rfl rfl rfl rfl (fun a w_ hF => r_call2 en34 (hF.ev rfl) (hF.ev rfl)) (fun w_ hS => implAnnounceCell_c _ _) ?_
  refine todo_fork [(8, [])] hl_ rfl (by kernel_rfl) (List.forall_mem_cons.2 ⟨?_, fun _ h_ => nomatch h_⟩)
  ·
    refine op_mc (Γ := Unit) (m' := []) rfl (gw0 rfl) rfl rfl rfl (fun a w_ hF => r_call3 en33 (hF.ev rfl) (hF.ev rfl) ec) (fun w_ hS => calls_unit (stpStore_c (s := s) (Sep.headp (A := [_, _, _, _, _]) (B := [_, _, _, _, _]) hS [1, 2, 0, 3, 4] (by decide) rfl rfl))) ?_; intro _; try clear hSd; try clear wd; intro wd hSd
    refine todo_fin hl_ rfl (by kernel_rfl) (tl := []) rfl ?_; clear hS a; intro a w2 hF hA_
    have hS := hA_.sep; clear hA_
    clear hl_; try clear hSd
    try dsimp only [List.cons_append, List.nil_append, List.set] at hS
    try clear wd
    refine wl_nil ⟨rfl, ?_⟩
    refine hK2 _ _ ?_
    refine ws fun K3 hK3 => ?_
    refine wl hF rfl rfl rfl (r_field fo61_1 (hF.ev rfl)) ?_; clear hF a; intro a hF
    refine wl hF rfl rfl rfl (r_load1 sc59 (hF.ev rfl) (hS.box (i := 2) rfl rfl)) ?_; clear hF a; intro a hF
    refine wl hF rfl rfl rfl (r_nilCheck (hF.ev rfl)) ?_; clear hF a; intro a hF
    refine wl hF rfl rfl rfl (r_field fo49_3 (hF.ev rfl)) ?_; clear hF a; intro a hF
    refine wl_estore (q := 4) (j := 6) (⟨_, ⟨_, _, _⟩, ⟨_, _⟩, _, _, _, _, _, _, _, _, _, _, _, _, _⟩ : Sl.Thread) hF hS hp rfl sz3 (hF.ev rfl) rfl ec rfl (fun _ => rfl) (fun _ => by dsimp only [threadEK, Thread.encv, List.set] <;> rfl) (by intro _; rfl) ?_; intro w3 hS_; replace hS := hS_; clear hS_; dsimp only [List.set] at hS
    refine wl_nil (hK3 _ _ ?_)
    refine wp_region_lit ?_
    refine wl hF rfl rfl rfl (r_field fo61_1 (hF.ev rfl)) ?_; clear hF a; intro a hF
    refine wl hF rfl rfl rfl (r_load1 sc59 (hF.ev rfl) (hS.box (i := 2) rfl rfl)) ?_; clear hF a; intro a hF
    refine wl hF rfl rfl rfl (r_build (bd46) trivial) ?_; clear hF a; intro a hF
    replace hS := Sep.headp (A := [_, _, _, _, _]) (B := [_, _, _, _, _]) hS [4, 0, 1, 2, 3] (by decide) rfl rfl
    refine wl_call hF rfl rfl rfl (r_call2 en35 (hF.ev rfl) (hF.ev rfl)) (thEnd_c (r := ⟨0, 0⟩) hp hS) ?_; clear hF a; rintro v w4 a ⟨rfl, hS_⟩ hF; replace hS := hS_; clear hS_
    refine wl_nil ?_
    try simp only [Exit.then, Exit.inBlock, ↓reduceIte]
    exact ret0n rfl hF ⟨rfl, (Sep.headp (A := [_, _, _, _, _]) (B := [_, _, _, _]) hS [1, 2, 4, 0] (by decide) rfl rfl)⟩

set_option maxHeartbeats 4000000 in
set_option maxRecDepth 20000 in
theorem implStepEnd_c {W : World} {s : Sl.State} {cs : List Value} {p : Int} (hm : stateEK.K W s cs) (hw : s.wf) (hz : (s.size : Int) ≤ 1048576) (hp0 : int64 p) : Calls Tryz.prog 10 #[.agg cs.toArray, vi p] W (Ret (Mk W (fun vs => .tuple #[.agg (stateEK.cells (stepEnd s p).1 vs).toArray, .bool (stepEnd s p).2]) (fun vs => [Part stateEK (stepEnd s p).1 vs]))) := by
  refine calls_fr Tryz.func10 rfl Tryz.ntmps10 rfl ?_
  intro a hF
  have hS := Sep.refl W
  obtain ⟨v0, v1, v2, rfl, r0, r1, r2⟩ := hm
  have hm : stateEK.K W s (s.encv v0 v1 v2) := ⟨_, _, _, rfl, r0, r1, r2⟩
  obtain ⟨A_a, q_a, rfl, hq_a, hn_a⟩ := r0.sl; unfold maxLen at hn_a
  obtain ⟨A_b, q_b, rfl, hq_b, hn_b⟩ := r1.sl; unfold maxLen at hn_b
  obtain ⟨A_c, q_c, rfl, hq_c, hn_c⟩ := r2.sl; unfold maxLen at hn_c
  refine ws fun K1 hK1 => ?_
  refine wl_box (cs := [_, _, _, _, _, _, _, _, _, _, _, _, _]) hF hS rfl (hF.ev rfl) rfl ?_; clear hF a; intro g1 w1 a hS_ hB_ hF; replace hS := hS_; clear hS_ hB_
  refine wl_box hF hS rfl (hF.ev rfl) rfl ?_; clear hF a; intro g2 w2 a hS_ hB_ hF; replace hS := hS_; clear hS_ hB_
  refine wl_alloc hF hS rfl zr32 ?_; clear hF a; intro g3 w3 a hS_ hB_ hF; replace hS := hS_; clear hS_ hB_
  refine wl_mvs (A := [_]) hF rfl ?_; clear hF a; intro a hF
  refine wl_nil (hK1 _ _ ?_)
  refine ws fun K2 hK2 => ?_
  refine wl hF rfl rfl rfl (r_loadn ag32 (hF.ev rfl) (hS.box_rd (i := 2) rfl) sz32) ?_; clear hF a; intro a hF
  refine wl hF rfl rfl rfl (r_load1 sc3 (hF.ev rfl) (hS.box (i := 1) rfl rfl)) ?_; clear hF a; intro a hF
  refine wl hF rfl rfl rfl (r_makeFunc (by simp only [List.map_toArray, List.map_cons, List.map_nil]; rw [hF.ev rfl])) ?_; clear hF a; intro a hF
  refine wl_mk hF hS rfl rfl rfl (r_call4 en30 (hF.ev rfl) (hF.ev rfl) ef (hF.ev rfl)) (stepIf_c (isf := fun n => decide (n = 80)) (stf := endI) (hS.k hm) hw hz hp0 (by kernel_rfl) (by kernel_rfl) (fun w_ n hB_ => by rw [app_0]; exact stepEnd1_c) (fun p' z0 z1 gt ot mt ct g l w_ hso hpe hp hmt hpc hS_ => by subst hpe; rw [app_1]; exact stepEnd2_c hp (fun j u hu => hS.box_rd (i := 1) rfl j u hu) hS_)) ?_; clear hF a; rintro vs9 w4 a hS_ hF; replace hS := hS_; clear hS_; dsimp only [List.cons_append, List.nil_append] at hS
  refine wl hF rfl rfl rfl (r_extract (hF.ev rfl) rfl) ?_; clear hF a; intro a hF
  refine wl hF rfl rfl rfl (r_extract (hF.ev rfl) rfl) ?_; clear hF a; intro a hF
  refine wl_storew hF hS (i := 1) rfl (hF.ev rfl) (hF.ev rfl) sz32 rfl rfl ?_; intro w5 hS_; replace hS := hS_; clear hS_; dsimp only [List.set, Nat.reduceAdd] at hS
  refine wl_mvs (A := [_]) hF rfl ?_; clear hF a; intro a hF
  refine wl_nil (hK2 _ _ ?_)
  refine wp_ret ?_
  try simp only [Exit.then, Exit.inBlock, ↓reduceIte]
  refine ret2c rfl ag32 hF hS (i := 1) rfl sz32 rfl rfl ⟨vs9, ?_, ?_⟩
  · rw [← stepEnd_I] <;> rfl
  · rw [← stepEnd_I]; exact hS.pick [0] (by decide) rfl

end Go.Proofs.YtjmohafpcjbajaaGreat.Wk
