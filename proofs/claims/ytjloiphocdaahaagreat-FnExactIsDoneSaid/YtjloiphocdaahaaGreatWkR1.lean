/- Walks: what reads a state: NodesBorn, IsQuiet, IsRunning, HeadOf, and their laws. -/
import Derived.Test.YtjloiphocdaahaaGreatChecked
import Derived.Test.YtjloiphocdaahaaGreatWkSs
namespace Go.Proofs.YtjloiphocdaahaaGreat.Wk
open Go Go.RowKit Sl
set_option linter.unusedVariables false
set_option linter.unusedSimpArgs false
set_option maxRecDepth 20000

section
variable {s : State} {k : Int}
theorem stateOk_shape (h : stateOk s = true) : shapeOk s := by
  unfold stateOk at h; simp only [Bool.and_eq_true, decide_eq_true_eq] at h; exact h.1.1.1.1.1
theorem keys_wrap (h : stateOk s = true) : IntKind.i64.wrap (s.config.keys - 1) = s.config.keys - 1 := by
  have hok := (stateOk_shape h).1; unfold Config.ok at hok; exact wm1 (by omega) (by omega)
theorem headCell_pos {c : Config} (h : ¬ headCell c k < 0) : c.ok ∧ (0 ≤ k ∧ k ≤ c.keys - 1) := by
  unfold headCell at h; split at h
  · assumption
  · omega
theorem app_0 (a : Value) : #[a] ++ #[] = #[a] := by simp
def bornOf (s : State) : Int := if stateOk s = true then at0 s.cells 1 else 0
def quietB (s : State) : Bool := stateOk s && s.threads.all fun t => decide (t.pc = 0)
def isRunning (s : State) (p : Int) : Bool := stateOk s && decide (0 ≤ p ∧ p ≤ s.threads.length - 1) && !decide ((at0 s.threads p).pc = 0)
def headOf (s : State) (k : Int) : Int := if stateOk s = true ∧ (0 ≤ k ∧ k ≤ s.config.keys - 1) then at0 s.cells (headCell s.config k) else 0
end

set_option maxHeartbeats 4000000 in
set_option maxRecDepth 20000 in
theorem specIsQuiet_c {W : World} {s : Sl.State} {cs : List Value} (hm : stateEK.K W s cs) (hw : s.wf) (hz : (s.size : Int) ≤ 1048576) : Calls Tryz.prog 14 #[.agg cs.toArray] W (Ret fun v w' => v = .bool (quietB s) ∧ Below W.heap.size W w') := by
  refine calls_fr Tryz.func14 rfl Tryz.ntmps14 rfl ?_
  intro a hF
  have hS := Sep.refl W
  obtain ⟨v0, v1, v2, rfl, r0, r1, r2⟩ := hm
  have hm : stateEK.K W s (s.encv v0 v1 v2) := ⟨_, _, _, rfl, r0, r1, r2⟩
  obtain ⟨A_a, q_a, rfl, hq_a, hn_a⟩ := r0.sl; unfold maxLen at hn_a
  obtain ⟨A_b, q_b, rfl, hq_b, hn_b⟩ := r1.sl; unfold maxLen at hn_b
  obtain ⟨A_c, q_c, rfl, hq_c, hn_c⟩ := r2.sl; unfold maxLen at hn_c
  have hwl : IntKind.i64.wrap ((s.threads.length : Int) - 1) = s.threads.length - 1 := w64_id (by omega) (by omega)
  refine ws fun K1 hK1 => ?_
  refine wl_box (cs := [_, _, _, _, _, _, _, _, _, _, _, _, _]) hF hS rfl (hF.ev rfl) rfl ?_; clear hF a; intro g1 w1 a hS_ hB_ hF; replace hS := hS_; clear hS_ hB_
  refine wl_mvs (A := [_]) hF rfl ?_; clear hF a; intro a hF
  refine wl_nil (hK1 _ _ ?_)
  refine wp_seq_k fun K2 hK2 => ?_
  refine ws fun K3 hK3 => ?_
  refine wl_mvs (A := [_]) hF rfl ?_; clear hF a; intro a hF
  refine wl_nil (hK3 _ _ ?_)
  refine wp_block ?_
  have hL_ := ((hF.nil.keep hF (t := 2) rfl).keep hF (t := 1) rfl)
  refine wp_loop_r (σ := Nat) (fun k L_ => (3, vi k) :: L_) (fun k => (k ≤ s.threads.length) ∧ ((s.threads.take k).all (fun t => decide (t.pc = 0)) = true)) (fun k => s.threads.length - k) 0 hS (hL_.keepE hF (t := 3) rfl rfl) ?_ ?_
  · exact ⟨Nat.zero_le _, rfl⟩
  clear hF hS hL_ a
  rintro k a w2 ⟨hk, hq⟩ hS hF; try dsimp only at hF; try dsimp only at hS
  refine wp_seq_k fun K4 hK4 => ?_
  refine ws fun K5 hK5 => ?_
  refine wl_mvs (A := [_]) hF rfl ?_; clear hF a; intro a hF
  refine wl hF rfl rfl rfl (r_field fo37_3 (hF.ev rfl)) ?_; clear hF a; intro a hF
  refine wl hF rfl rfl rfl (r_load1 sc35 (hF.ev rfl) (hS.box (i := 0) rfl rfl)) ?_; clear hF a; intro a hF
  refine wl hF rfl rfl rfl (r_len ul35 (hF.ev rfl)) ?_; clear hF a; intro a hF
  refine wl hF rfl rfl rfl (r_lss (hF.ev rfl) (hF.ev rfl)) ?_; clear hF a; intro a hF
  refine wl_nil (hK5 _ _ ?_)
  refine wc_fx (t := 8) hF rfl ?_ ?_ <;> clear hF <;> intro c8 hF <;> try simp only [zb1, zb2, zb3, zb4, zb5, zb6, zb7, zb8] at c8
  ·
    have hlt : k < s.threads.length := by omega
    have hx := at0_nat hlt
    refine wp_skip ?_
    refine hK4 _ _ ?_
    refine wp_seq_k fun K6 hK6 => ?_
    refine wp_block ?_
    refine ws fun K7 hK7 => ?_
    refine wl hF rfl rfl rfl (r_field fo37_3 (hF.ev rfl)) ?_; clear hF a; intro a hF
    refine wl hF rfl rfl rfl (r_load1 sc35 (hF.ev rfl) (hS.box (i := 0) rfl rfl)) ?_; clear hF a; intro a hF
    refine wl_mvs (A := [_]) hF rfl ?_; clear hF a; intro a hF
    obtain ⟨g14, o14, m14, q14, cs14, hv14, hm14, hl14, hk14, hz14, hc14⟩ := Rd.at (r2) (a := a) (X := .tmp 13) (hF.ev rfl) (by omega) (by omega)
    have hkk14 := hk14; obtain ⟨v14_0, v14_1, v14_2, v14_3, v14_4, rfl, r14_0, r14_1, r14_2, r14_3, r14_4⟩ := hk14
    refine wl hF rfl rfl rfl (r_index sl35 ((hF.ev rfl).trans hv14) (hF.ev rfl) (by omega) (by first | omega | (simp at hm14; omega))) ?_; clear hF a; intro a hF
    refine wl hF rfl rfl rfl (r_field fo71_0 (hF.ev rfl)) ?_; clear hF a; intro a hF
    refine wl hF rfl rfl rfl (r_load1 sc3 (hF.ev rfl) (cellB hS.old (hc14 0 _ rfl))) ?_; clear hF a; intro a hF
    refine wl hF rfl rfl rfl (r_neq (hF.ev rfl) ec) ?_; clear hF a; intro a hF
    refine wl_nil (hK7 _ _ ?_)
    refine wc_fx (t := 17) hF rfl ?_ ?_ <;> clear hF <;> intro c17 hF <;> try simp only [zb1, zb2, zb3, zb4, zb5, zb6, zb7, zb8] at c17
    ·
      refine ws fun K8 hK8 => ?_
      refine wl_mvs (A := [_]) hF rfl ?_; clear hF a; intro a hF
      refine wl_nil (hK8 _ _ ?_)
      refine wp_ret ?_
      try simp only [Exit.then, Exit.inBlock, ↓reduceIte]
      refine ret1 rfl hF rfl ⟨congrArg Value.bool (Eq.symm ?_), hS.old⟩
      unfold quietB
      first
        | rw [all_no hx (decide_eq_false c17), Bool.and_false]
        | rw [all_done hq (by omega), Bool.and_true]
    refine wp_skip ?_
    simp only [Exit.then, Exit.inBlock, ↓reduceIte]
    refine hK6 _ _ ?_
    refine wp_region_lit ?_
    refine wl_mvs (A := [_]) hF rfl ?_; clear hF a; intro a hF
    refine wl hF rfl rfl rfl (r_add (hF.ev rfl) ec) ?_; clear hF a; intro a hF
    refine wl_mvs (A := [_]) hF rfl ?_; clear hF a; intro a hF
    refine wl_nil ?_
    try simp only [Exit.then, Exit.inBlock, ↓reduceIte]
    refine ⟨k + 1, ⟨by omega, all_nxt hq hx (decide_eq_true c17)⟩, hS, (((hF.nil.keep hF (t := 2) rfl).keep hF (t := 1) rfl).keepE hF (t := 3) rfl (wk (by omega))), by omega⟩
  refine wp_exit ?_
  simp only [Exit.then, Exit.inBlock, ↓reduceIte]
  refine hK2 _ _ ?_
  refine ws fun K9 hK9 => ?_
  refine wl hF rfl rfl rfl (r_loadn ag37 (hF.ev rfl) (hS.box_rd (i := 0) rfl) sz37) ?_; clear hF a; intro a hF
  refine wl_call hF rfl rfl rfl (r_call1 en27 (hF.ev rfl)) (specIsState_c (hS.k hm) hw (by omega)) ?_; clear hF a; rintro v w3 a ⟨rfl, hB_⟩ hF; replace hS := hS.ext hB_; clear hB_
  refine wl_mvs (A := [_]) hF rfl ?_; clear hF a; intro a hF
  refine wl_nil (hK9 _ _ ?_)
  refine wp_ret ?_
  try simp only [Exit.then, Exit.inBlock, ↓reduceIte]
  refine ret1 rfl hF rfl ⟨congrArg Value.bool (Eq.symm ?_), hS.old⟩
  unfold quietB
  first
    | rw [all_no hx (decide_eq_false c17), Bool.and_false]
    | rw [all_done hq (by omega), Bool.and_true]

set_option maxHeartbeats 4000000 in
set_option maxRecDepth 20000 in
theorem quiet1_c {W : World} {t : Sl.Thread} {cs : List Value} (hm : threadEK.K W t cs) : Calls Tryz.prog 42 #[.agg cs.toArray] W (Ret fun v w' => v = .bool (!decide (t.pc = 0)) ∧ Below W.heap.size W w') := by
  refine calls_fr Tryz.func42 rfl Tryz.ntmps42 rfl ?_
  intro a hF
  have hS := Sep.refl W
  obtain ⟨v0, v1, v2, v3, v4, rfl, r0, r1, r2, r3, r4⟩ := hm
  have hm : threadEK.K W t (t.encv v0 v1 v2 v3 v4) := ⟨_, _, _, _, _, rfl, r0, r1, r2, r3, r4⟩
  refine ws fun K1 hK1 => ?_
  refine wl_box (cs := [_, _, _, _, _, _, _, _, _, _, _, _, _, _, _, _, _, _, _]) hF hS rfl (hF.ev rfl) rfl ?_; clear hF a; intro g1 w1 a hS_ hB_ hF; replace hS := hS_; clear hS_ hB_
  refine wl_mvs (A := [_]) hF rfl ?_; clear hF a; intro a hF
  refine wl_nil (hK1 _ _ ?_)
  refine ws fun K2 hK2 => ?_
  refine wl hF rfl rfl rfl (r_field fo71_0 (hF.ev rfl)) ?_; clear hF a; intro a hF
  refine wl hF rfl rfl rfl (r_load1 sc3 (hF.ev rfl) (hS.box (i := 0) rfl rfl)) ?_; clear hF a; intro a hF
  refine wl hF rfl rfl rfl (r_neq (hF.ev rfl) ec) ?_; clear hF a; intro a hF
  refine wl_mvs (A := [_]) hF rfl ?_; clear hF a; intro a hF
  refine wl_nil (hK2 _ _ ?_)
  refine wp_ret ?_
  try simp only [Exit.then, Exit.inBlock, ↓reduceIte]
  exact ret1 rfl hF rfl ⟨rfl, hS.old⟩

set_option maxHeartbeats 4000000 in
set_option maxRecDepth 20000 in
theorem quiet_c {W : World} {s : Sl.State} {cs : List Value} (hm : stateEK.K W s cs) (hw : s.wf) (hz : (s.size : Int) ≤ 1048576) : Calls Tryz.prog 20 #[.agg cs.toArray] W (Ret fun v w' => v = .bool (s.threads.all fun t => decide (t.pc = 0)) ∧ Below W.heap.size W w') := by
  refine calls_fr Tryz.func20 rfl Tryz.ntmps20 rfl ?_
  intro a hF
  have hS := Sep.refl W
  obtain ⟨v0, v1, v2, rfl, r0, r1, r2⟩ := hm
  have hm : stateEK.K W s (s.encv v0 v1 v2) := ⟨_, _, _, rfl, r0, r1, r2⟩
  obtain ⟨A_a, q_a, rfl, hq_a, hn_a⟩ := r0.sl; unfold maxLen at hn_a
  obtain ⟨A_b, q_b, rfl, hq_b, hn_b⟩ := r1.sl; unfold maxLen at hn_b
  obtain ⟨A_c, q_c, rfl, hq_c, hn_c⟩ := r2.sl; unfold maxLen at hn_c
  have hwl : IntKind.i64.wrap ((s.threads.length : Int) - 1) = s.threads.length - 1 := w64_id (by omega) (by omega)
  refine ws fun K1 hK1 => ?_
  refine wl_box (cs := [_, _, _, _, _, _, _, _, _, _, _, _, _]) hF hS rfl (hF.ev rfl) rfl ?_; clear hF a; intro g1 w1 a hS_ hB_ hF; replace hS := hS_; clear hS_ hB_
  refine wl_mvs (A := [_]) hF rfl ?_; clear hF a; intro a hF
  refine wl_nil (hK1 _ _ ?_)
  refine ws fun K2 hK2 => ?_
  refine wl hF rfl rfl rfl (r_field fo37_3 (hF.ev rfl)) ?_; clear hF a; intro a hF
  refine wl hF rfl rfl rfl (r_load1 sc35 (hF.ev rfl) (hS.box (i := 0) rfl rfl)) ?_; clear hF a; intro a hF
  refine wl_call hF rfl rfl rfl (r_call2 en41 (hF.ev rfl) ef) (containsFuncT_c (p := fun t => !decide (t.pc = 0)) (cap := #[]) (hS.rd r2) (by kernel_rfl) (fun w_ cs x hx hB hk => by rw [app_0]; exact quiet1_c hk)) ?_; clear hF a; rintro v w2 a ⟨rfl, hB_⟩ hF; replace hS := hS.ext hB_; clear hB_
  refine wl hF rfl rfl rfl (r_not (hF.ev rfl)) ?_; clear hF a; intro a hF
  refine wl_mvs (A := [_]) hF rfl ?_; clear hF a; intro a hF
  refine wl_nil (hK2 _ _ ?_)
  refine wp_ret ?_
  try simp only [Exit.then, Exit.inBlock, ↓reduceIte]
  refine ret1 rfl hF rfl ⟨congrArg Value.bool ?_, hS.old⟩
  rw [any_not, Bool.not_not]

end Go.Proofs.YtjloiphocdaahaaGreat.Wk
