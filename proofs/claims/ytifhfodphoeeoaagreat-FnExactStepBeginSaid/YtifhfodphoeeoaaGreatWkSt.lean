/- Walks: states that are valid. -/
import Derived.Test.YtifhfodphoeeoaaGreatChecked
import Derived.Test.YtifhfodphoeeoaaGreatWkTs
import Derived.Test.YtifhfodphoeeoaaGreatWkS
namespace Go.Proofs.YtifhfodphoeeoaaGreat.Wk
open Go Go.RowKit Sl
set_option linter.unusedVariables false
set_option linter.unusedSimpArgs false
set_option maxRecDepth 20000

theorem headCell_eq {c : Config} {k : Int} (hok : c.ok) (h0 : 0 ≤ k) (h1 : k < c.keys) : headCell c k = 2 + 3 * c.threads + k := by
  unfold headCell; rw [if_pos ⟨hok, h0, by omega⟩]
theorem nodeCell_eq {c : Config} {i f : Int} (hok : c.ok) (h0 : 0 ≤ i) (h1 : i < c.capacity) (h2 : 0 ≤ f) (h3 : f ≤ 2) : nodeCell c i f = 2 + 3 * c.threads + c.keys + 3 * i + f := by
  unfold nodeCell; rw [if_pos ⟨hok, ⟨h0, by omega⟩, h2, h3⟩]
theorem cellCount_eq {c : Config} (hok : c.ok) : cellCount c = 2 + 3 * c.threads + c.keys + 3 * c.capacity := by
  unfold cellCount; rw [if_pos hok]
section
variable {s : State}
theorem st_shape (h : ¬ shapeOk s) : stateOk s = false := by unfold stateOk; rw [decide_eq_false h]; rfl
theorem st_counts (h : ¬ countsOk s) : stateOk s = false := by unfold stateOk; rw [decide_eq_false h]; simp
theorem st_gens (h : gensOk s = false) : stateOk s = false := by unfold stateOk; rw [h]; simp
theorem st_heads (h : headsOk s = false) : stateOk s = false := by unfold stateOk; rw [h]; simp
theorem st_nodes (h : nodesOk s = false) : stateOk s = false := by unfold stateOk; rw [h]; simp
theorem st_threads (h : s.threads.all (threadOk s.config) = false) : stateOk s = false := by unfold stateOk; rw [h]; simp
theorem st_yes (h1 : shapeOk s) (h2 : gensOk s = true) (h3 : headsOk s = true) (h4 : nodesOk s = true) : stateOk s = (s.threads.all (threadOk s.config) && decide (countsOk s)) := by
  unfold stateOk; rw [decide_eq_true h1, h2, h3, h4]; simp
end

set_option maxHeartbeats 4000000 in
set_option maxRecDepth 20000 in
theorem indexFuncT_c {W : World} {va : Value} {xs : List Sl.Thread} {f : FuncId} {cap : Array Value} {p : Sl.Thread → Bool} (ha : threadEK.Rd W va xs) (hen : enterB Tryz.prog f = true) (hf : ∀ (w : World) (cs : List Value) (x : Sl.Thread), x ∈ xs → Below W.heap.size W w → threadEK.K w x cs → Calls Tryz.prog f (#[.agg cs.toArray] ++ cap) w (Ret fun v w' => v = .bool (p x) ∧ Below w.heap.size w w')) : Calls Tryz.prog 159 #[va, .func (.func f) #[] cap] W (Ret fun v w' => (∃ j : Int, v = vi j ∧ (0 ≤ j ↔ xs.any p = true)) ∧ Below W.heap.size W w') := by
  refine calls_fr Tryz.func159 rfl Tryz.ntmps159 rfl ?_
  intro a hF
  obtain ⟨A_a, q_a, rfl, hq_a, hn_a⟩ := ha.sl; unfold maxLen at hn_a
  have hS := Sep.refl W
  refine ws fun K1 hK1 => ?_
  refine wl_mvs (A := [_]) hF rfl ?_; clear hF a; intro a hF
  refine wl_nil (hK1 _ _ ?_)
  refine wp_seq_k fun K2 hK2 => ?_
  refine ws fun K3 hK3 => ?_
  refine wl_mvs (A := [_]) hF rfl ?_; clear hF a; intro a hF
  refine wl hF rfl rfl rfl (r_len ul30 (hF.ev rfl)) ?_; clear hF a; intro a hF
  refine wl_mvs (A := [_]) hF rfl ?_; clear hF a; intro a hF
  refine wl_nil (hK3 _ _ ?_)
  refine wp_block ?_
  refine wp_loop_g (σ := Nat) (fun k a w => k ≤ xs.length ∧ (xs.take k).any p = false ∧ Sep W [] w ∧ Fr 19 [(8, vi k), (7, vi xs.length), (1, .func (.func f) #[] cap), (0, .slice A_a xs.length q_a)] a) (fun k => xs.length - k) 0 ?_ ?_
  · exact ⟨Nat.zero_le _, by simp, hS, ((((hF.nil.keep hF (t := 0) rfl).keep hF (t := 1) rfl).keep hF (t := 7) rfl).keep hF (t := 8) rfl)⟩
  clear hF hS a
  rintro k a w ⟨hk, hn, hS, hF⟩
  refine ws fun K4 hK4 => ?_
  refine wl hF rfl rfl rfl (r_lss (hF.ev rfl) (hF.ev rfl)) ?_; clear hF a; intro a hF
  refine wl_nil (hK4 _ _ ?_)
  refine wp_seq_k fun K5 hK5 => ?_
  first | refine wc_dec (hF.ev rfl) (fun c9 => ?_) (fun c9 => ?_) | refine wc_ndec (hF.ev rfl) (fun c9 => ?_) (fun c9 => ?_) | refine wc_b (hF.ev rfl) (fun c9 => ?_) (fun c9 => ?_)
  ·
    have hlt : k < xs.length := by omega
    obtain ⟨x, hx⟩ : ∃ x, xs[k]? = some x := ⟨_, List.getElem?_eq_getElem hlt⟩
    refine wp_skip ?_
    refine hK5 _ _ ?_
    refine wp_seq_k fun K6 hK6 => ?_
    refine wp_block ?_
    refine ws fun K7 hK7 => ?_
    refine wl_mvs (A := [_, _]) hF rfl ?_; clear hF a; intro a hF
    refine wl_nil (hK7 _ _ ?_)
    refine ws fun K8 hK8 => ?_
    refine wl_mvs (A := [_, _, _]) hF rfl ?_; clear hF a; intro a hF
    obtain ⟨g14, o14, m14, q14, cs14, hv14, hm14, hl14, hk14, hz14, hc14⟩ := Rd.idx (ha) hx
    refine wl hF rfl rfl rfl (r_index sl30 ((hF.ev rfl).trans hv14) (hF.ev rfl) (by omega) (by omega)) ?_; clear hF a; intro a hF
    refine wl hF rfl rfl rfl (r_loadn ag53 (hF.ev rfl) (fun j_ u_ hu_ => cellB hS.old (hc14 j_ u_ hu_)) (sz53.trans (congrArg some hz14.symm))) ?_; clear hF a; intro a hF
    refine wl_call hF rfl rfl rfl (r_callv1 hen (hF.ev rfl) (hF.ev rfl)) (hf _ cs14 x (List.mem_of_getElem? hx) hS.old (threadEK.ext hS.old hk14)) ?_; clear hF a; rintro v w1 a ⟨rfl, hB_⟩ hF; replace hS := hS.ext hB_; clear hB_
    refine wl_nil (hK8 _ _ ?_)
    first | refine wc_dec (hF.ev rfl) (fun c16 => ?_) (fun c16 => ?_) | refine wc_ndec (hF.ev rfl) (fun c16 => ?_) (fun c16 => ?_) | refine wc_b (hF.ev rfl) (fun c16 => ?_) (fun c16 => ?_)
    ·
      refine ws fun K9 hK9 => ?_
      refine wl_mvs (A := [_, _]) hF rfl ?_; clear hF a; intro a hF
      refine wl_nil (hK9 _ _ ?_)
      refine wp_ret ?_
      try simp only [Exit.then, Exit.inBlock, ↓reduceIte]
      first | exact ret1 rfl hF rfl ⟨⟨_, rfl, ⟨fun _ => any_at hx c16, fun _ => by omega⟩⟩, hS.old⟩ | exact ret1 rfl hF rfl ⟨⟨_, rfl, ⟨fun h => absurd h (by omega), fun h => absurd h (by rw [any_all hn hk (by assumption)]; decide)⟩⟩, hS.old⟩
    refine wp_skip ?_
    simp only [Exit.then, Exit.inBlock, ↓reduceIte]
    refine hK6 _ _ ?_
    refine wp_region_lit ?_
    refine wl hF rfl rfl rfl (r_add (hF.ev rfl) ec) ?_; clear hF a; intro a hF
    refine wl_mvs (A := [_]) hF rfl ?_; clear hF a; intro a hF
    refine wl_nil ?_
    try simp only [Exit.then, Exit.inBlock, ↓reduceIte]
    exact ⟨k + 1, ⟨by omega, any_next hn hx c16, hS, ((((hF.nil.keep hF (t := 0) rfl).keep hF (t := 1) rfl).keep hF (t := 7) rfl).keepE hF (t := 8) rfl (wk (by omega)))⟩, by omega⟩
  refine wp_exit ?_
  simp only [Exit.then, Exit.inBlock, ↓reduceIte]
  refine hK2 _ _ ?_
  refine ws fun K10 hK10 => ?_
  refine wl_mvs (A := [_]) hF rfl ?_; clear hF a; intro a hF
  refine wl_nil (hK10 _ _ ?_)
  refine wp_ret ?_
  try simp only [Exit.then, Exit.inBlock, ↓reduceIte]
  first | exact ret1 rfl hF rfl ⟨⟨_, rfl, ⟨fun _ => any_at hx c16, fun _ => by omega⟩⟩, hS.old⟩ | exact ret1 rfl hF rfl ⟨⟨_, rfl, ⟨fun h => absurd h (by omega), fun h => absurd h (by rw [any_all hn hk (by assumption)]; decide)⟩⟩, hS.old⟩

set_option maxHeartbeats 4000000 in
set_option maxRecDepth 20000 in
theorem containsFuncT_c {W : World} {va : Value} {xs : List Sl.Thread} {f : FuncId} {cap : Array Value} {p : Sl.Thread → Bool} (ha : threadEK.Rd W va xs) (hen : enterB Tryz.prog f = true) (hf : ∀ (w : World) (cs : List Value) (x : Sl.Thread), x ∈ xs → Below W.heap.size W w → threadEK.K w x cs → Calls Tryz.prog f (#[.agg cs.toArray] ++ cap) w (Ret fun v w' => v = .bool (p x) ∧ Below w.heap.size w w')) : Calls Tryz.prog 125 #[va, .func (.func f) #[] cap] W (Ret fun v w' => v = .bool (xs.any p) ∧ Below W.heap.size W w') := by
  refine calls_fr Tryz.func125 rfl Tryz.ntmps125 rfl ?_
  intro a hF
  have hS := Sep.refl W
  refine ws fun K1 hK1 => ?_
  refine wl_mvs (A := [_]) hF rfl ?_; clear hF a; intro a hF
  refine wl_nil (hK1 _ _ ?_)
  refine ws fun K2 hK2 => ?_
  refine wl_mvs (A := [_, _]) hF rfl ?_; clear hF a; intro a hF
  refine wl_call hF rfl rfl rfl (r_call2 en159 (hF.ev rfl) (hF.ev rfl)) (indexFuncT_c (hS.rd ha) hen hf) ?_; clear hF a; rintro v w1 a ⟨⟨j, rfl, hj⟩, hB_⟩ hF; replace hS := hS.ext hB_; clear hB_
  refine wl hF rfl rfl rfl (r_geq (hF.ev rfl) ec) ?_; clear hF a; intro a hF
  refine wl_mvs (A := [_]) hF rfl ?_; clear hF a; intro a hF
  refine wl_nil (hK2 _ _ ?_)
  refine wp_ret ?_
  try simp only [Exit.then, Exit.inBlock, ↓reduceIte]
  refine ret1 rfl hF rfl ⟨congrArg Value.bool ?_, hS.old⟩
  cases hb : xs.any p with
  | true => exact decide_eq_true (hj.2 hb)
  | false => exact decide_eq_false (fun h => by rw [hj.1 h] at hb; cases hb)

set_option maxHeartbeats 4000000 in
set_option maxRecDepth 20000 in
theorem isState1_c {W : World} {c : Config} {g : Nat} {t : Sl.Thread} {cs : List Value} (hm : threadEK.K W t cs) (hw : t.wf) (hok : c.ok) (hc : ∀ j u, c.enc[j]? = some u → W.cell? ⟨g, 0 + j, none⟩ = some u) : Calls Tryz.prog 126 #[.agg cs.toArray, .pointer (some ⟨g, 0, none⟩)] W (Ret fun v w' => v = .bool (!threadOk c t) ∧ Below W.heap.size W w') := by
  refine calls_fr Tryz.func126 rfl Tryz.ntmps126 rfl ?_
  intro a hF
  have hS := Sep.refl W
  obtain ⟨v0, v1, v2, v3, v4, rfl, r0, r1, r2, r3, r4⟩ := hm
  have hm : threadEK.K W t (t.encv v0 v1 v2 v3 v4) := ⟨_, _, _, _, _, rfl, r0, r1, r2, r3, r4⟩
  refine ws fun K1 hK1 => ?_
  refine wl_box (cs := [_, _, _, _, _, _, _, _, _, _, _, _, _, _, _, _, _, _, _]) hF hS rfl (hF.ev rfl) rfl ?_; clear hF a; intro g1 w1 a hS_ hB_ hF; replace hS := hS_; clear hS_ hB_
  refine wl_mvs (A := [_]) hF rfl ?_; clear hF a; intro a hF
  refine wl_nil (hK1 _ _ ?_)
  refine ws fun K2 hK2 => ?_
  refine wl hF rfl rfl rfl (r_loadn ag29 (hF.ev rfl) (fun j_ u_ hu_ => cellB hS.old (hc j_ u_ hu_)) sz29) ?_; clear hF a; intro a hF
  refine wl hF rfl rfl rfl (r_loadn ag53 (hF.ev rfl) (hS.box_rd (i := 0) rfl) sz53) ?_; clear hF a; intro a hF
  refine wl_call hF rfl rfl rfl (r_call2 en127 (hF.ev rfl) (hF.ev rfl)) (isThread_c (hS.k hm) hw hok) ?_; clear hF a; rintro v w2 a ⟨rfl, hB_⟩ hF; replace hS := hS.ext hB_; clear hB_
  refine wl hF rfl rfl rfl (r_not (hF.ev rfl)) ?_; clear hF a; intro a hF
  refine wl_mvs (A := [_]) hF rfl ?_; clear hF a; intro a hF
  refine wl_nil (hK2 _ _ ?_)
  refine wp_ret ?_
  try simp only [Exit.then, Exit.inBlock, ↓reduceIte]
  exact ret1 rfl hF rfl ⟨rfl, hS.old⟩

set_option maxHeartbeats 4000000 in
set_option maxRecDepth 20000 in
theorem implIsState_c {W : World} {s : Sl.State} {cs : List Value} (hm : stateEK.K W s cs) (hw : s.wf) (hz : (s.size : Int) ≤ 1048576) : Calls Tryz.prog 62 #[.agg cs.toArray] W (Ret fun v w' => v = .bool (stateOk s) ∧ Below W.heap.size W w') := by
  refine calls_fr Tryz.func62 rfl Tryz.ntmps62 rfl ?_
  intro a hF
  have hS := Sep.refl W
  obtain ⟨v0, v1, v2, rfl, r0, r1, r2⟩ := hm
  obtain ⟨A_a, q_a, rfl, hq_a, hn_a⟩ := r0.sl; unfold maxLen at hn_a
  obtain ⟨A_b, q_b, rfl, hq_b, hn_b⟩ := r1.sl; unfold maxLen at hn_b
  obtain ⟨A_c, q_c, rfl, hq_c, hn_c⟩ := r2.sl; unfold maxLen at hn_c
  obtain ⟨wcfg, wcells, wgens, wthr, wsteps, wchanges, wretries, wfaults⟩ := hw
  have hz1 := hz; unfold Sl.State.size at hz1
  refine ws fun K1 hK1 => ?_
  refine wl_box (cs := [_, _, _, _, _, _, _, _, _, _, _, _, _]) hF hS rfl (hF.ev rfl) rfl ?_; clear hF a; intro g1 w1 a hS_ hB_ hF; replace hS := hS_; clear hS_ hB_
  refine wl_mvs (A := [_]) hF rfl ?_; clear hF a; intro a hF
  refine wl_nil (hK1 _ _ ?_)
  refine ws fun K2 hK2 => ?_
  refine wl hF rfl rfl rfl (r_field fo32_0 (hF.ev rfl)) ?_; clear hF a; intro a hF
  refine wl hF rfl rfl rfl (r_loadn ag29 (hF.ev rfl) (hS.boxn (vs := [_, _, _, _, _, _]) (i := 0) (m := 6) rfl rfl) sz29) ?_; clear hF a; intro a hF
  refine wl_alloc hF hS rfl zr29 ?_; clear hF a; intro g2 w2 a hS_ hB_ hF; replace hS := hS_; clear hS_ hB_
  refine wl_storen (cs' := [_, _, _, _, _, _]) hF hS (i := 0) rfl (hF.ev rfl) (hF.ev rfl) sz29 ⟨rfl, rfl⟩ rfl rfl ?_; intro w3 hS_; replace hS := hS_; clear hS_; dsimp only [List.set] at hS
  refine wl_nil (hK2 _ _ ?_)
  refine wp_seq_k fun K3 hK3 => ?_
  refine wp_seq_k fun K4 hK4 => ?_
  refine wp_region_calm (by kernel_rfl) (by kernel_rfl) ?_
  refine wq hF rfl rfl rfl (fun w_ hB_ => r_loadn ag29 (hF.ev rfl) ((hS.ext hB_).box_rd (i := 0) rfl) sz29) ?_; clear hF a; intro a hF
  refine wq_call hF rfl rfl rfl (fun w_ hB_ => r_call1 en120 (hF.ev rfl)) (fun w_ hB_ => implIsConfig_c _) ?_; clear hF a; intro a hF
  refine wq hF rfl rfl rfl (fun w_ hB_ => r_not (hF.ev rfl)) ?_; clear hF a; intro a hF
  refine wq_mvs (A := [_]) hF rfl ?_; clear hF a; intro a hF
  apply wq_or (A := [_, _, _, _, _, _, _]) (pk := 18) hF (tc := 11) rfl
  ·
    intro hg11 a hF; try simp only [zb1, zb2, zb3, zb4, zb5, zb6, zb7, zb8] at hg11
    refine wq_take hF rfl rfl rfl rfl ?_
    refine wq hF rfl rfl rfl (fun w_ hB_ => r_field fo32_1 (hF.ev rfl)) ?_; clear hF a; intro a hF
    refine wq_take hF rfl rfl rfl rfl ?_
    refine wq hF rfl rfl rfl (fun w_ hB_ => r_load1 sc24 (hF.ev rfl) ((hS.ext hB_).box (i := 1) rfl rfl)) ?_; clear hF a; intro a hF
    refine wq_take hF rfl rfl rfl rfl ?_
    refine wq hF rfl rfl rfl (fun w_ hB_ => r_len ul24 (hF.ev rfl)) ?_; clear hF a; intro a hF
    refine wq_take hF rfl rfl rfl rfl ?_
    refine wq hF rfl rfl rfl (fun w_ hB_ => r_loadn ag29 (hF.ev rfl) ((hS.ext hB_).box_rd (i := 0) rfl) sz29) ?_; clear hF a; intro a hF
    refine wq_take hF rfl rfl rfl rfl ?_
    refine wq_call hF rfl rfl rfl (fun w_ hB_ => r_call1 en121 (hF.ev rfl)) (fun w_ hB_ => implCellCount_c _) ?_; clear hF a; intro a hF
    refine wq_take hF rfl rfl rfl rfl ?_
    refine wq hF rfl rfl rfl (fun w_ hB_ => r_neq (hF.ev rfl) (hF.ev rfl)) ?_; clear hF a; intro a hF
    refine wq hF rfl rfl rfl (fun w_ hB_ => r_pick_f (hF.ev rfl) (hF.ev rfl)) ?_; clear hF a; intro a hF
    exact wpQuiet_nil ((Fr.pre (A := [_, _, _, _, _, _, _]) hF rfl).keep hF (t := 18) rfl)
  ·
    intro hg11 a hF; try simp only [zb1, zb2, zb3, zb4, zb5, zb6, zb7, zb8] at hg11
    refine wq_mvs (A := [_, _, _, _, _, _]) hF rfl ?_; clear hF a; intro a hF
    refine wq hF rfl rfl rfl (fun w_ hB_ => r_pick_t (hF.ev rfl) ec) ?_; clear hF a; intro a hF
    exact wpQuiet_nil ((Fr.pre (A := [_, _, _, _, _, _, _]) hF rfl).keep hF (t := 18) rfl)
  clear hF a; intro a hF
  refine wq_mvs (A := [_]) hF rfl ?_; clear hF a; intro a hF
  apply wq_or (A := [_, _, _, _, _, _, _]) (pk := 26) hF (tc := 19) rfl
  ·
    intro hg19 a hF; try simp only [zb1, zb2, zb3, zb4, zb5, zb6, zb7, zb8] at hg19
    refine wq_take hF rfl rfl rfl rfl ?_
    refine wq hF rfl rfl rfl (fun w_ hB_ => r_field fo32_2 (hF.ev rfl)) ?_; clear hF a; intro a hF
    refine wq_take hF rfl rfl rfl rfl ?_
    refine wq hF rfl rfl rfl (fun w_ hB_ => r_load1 sc24 (hF.ev rfl) ((hS.ext hB_).box (i := 1) rfl rfl)) ?_; clear hF a; intro a hF
    refine wq_take hF rfl rfl rfl rfl ?_
    refine wq hF rfl rfl rfl (fun w_ hB_ => r_len ul24 (hF.ev rfl)) ?_; clear hF a; intro a hF
    refine wq_take hF rfl rfl rfl rfl ?_
    refine wq hF rfl rfl rfl (fun w_ hB_ => r_field fo29_2 (hF.ev rfl)) ?_; clear hF a; intro a hF
    refine wq_take hF rfl rfl rfl rfl ?_
    refine wq hF rfl rfl rfl (fun w_ hB_ => r_load1 sc3 (hF.ev rfl) ((hS.ext hB_).box (i := 0) rfl rfl)) ?_; clear hF a; intro a hF
    refine wq_take hF rfl rfl rfl rfl ?_
    refine wq hF rfl rfl rfl (fun w_ hB_ => r_neq (hF.ev rfl) (hF.ev rfl)) ?_; clear hF a; intro a hF
    refine wq hF rfl rfl rfl (fun w_ hB_ => r_pick_f (hF.ev rfl) (hF.ev rfl)) ?_; clear hF a; intro a hF
    exact wpQuiet_nil ((Fr.pre (A := [_, _, _, _, _, _, _]) hF rfl).keep hF (t := 26) rfl)
  ·
    intro hg19 a hF; try simp only [zb1, zb2, zb3, zb4, zb5, zb6, zb7, zb8] at hg19
    refine wq_mvs (A := [_, _, _, _, _, _]) hF rfl ?_; clear hF a; intro a hF
    refine wq hF rfl rfl rfl (fun w_ hB_ => r_pick_t (hF.ev rfl) ec) ?_; clear hF a; intro a hF
    exact wpQuiet_nil ((Fr.pre (A := [_, _, _, _, _, _, _]) hF rfl).keep hF (t := 26) rfl)
  clear hF a; intro a hF
  refine wq_mvs (A := [_]) hF rfl ?_; clear hF a; intro a hF
  apply wq_or (A := [_, _, _, _, _, _, _]) (pk := 34) hF (tc := 27) rfl
  ·
    intro hg27 a hF; try simp only [zb1, zb2, zb3, zb4, zb5, zb6, zb7, zb8] at hg27
    refine wq_take hF rfl rfl rfl rfl ?_
    refine wq hF rfl rfl rfl (fun w_ hB_ => r_field fo32_3 (hF.ev rfl)) ?_; clear hF a; intro a hF
    refine wq_take hF rfl rfl rfl rfl ?_
    refine wq hF rfl rfl rfl (fun w_ hB_ => r_load1 sc30 (hF.ev rfl) ((hS.ext hB_).box (i := 1) rfl rfl)) ?_; clear hF a; intro a hF
    refine wq_take hF rfl rfl rfl rfl ?_
    refine wq hF rfl rfl rfl (fun w_ hB_ => r_len ul30 (hF.ev rfl)) ?_; clear hF a; intro a hF
    refine wq_take hF rfl rfl rfl rfl ?_
    refine wq hF rfl rfl rfl (fun w_ hB_ => r_field fo29_0 (hF.ev rfl)) ?_; clear hF a; intro a hF
    refine wq_take hF rfl rfl rfl rfl ?_
    refine wq hF rfl rfl rfl (fun w_ hB_ => r_load1 sc3 (hF.ev rfl) ((hS.ext hB_).box (i := 0) rfl rfl)) ?_; clear hF a; intro a hF
    refine wq_take hF rfl rfl rfl rfl ?_
    refine wq hF rfl rfl rfl (fun w_ hB_ => r_neq (hF.ev rfl) (hF.ev rfl)) ?_; clear hF a; intro a hF
    refine wq hF rfl rfl rfl (fun w_ hB_ => r_pick_f (hF.ev rfl) (hF.ev rfl)) ?_; clear hF a; intro a hF
    exact wpQuiet_nil ((Fr.pre (A := [_, _, _, _, _, _, _]) hF rfl).keep hF (t := 34) rfl)
  ·
    intro hg27 a hF; try simp only [zb1, zb2, zb3, zb4, zb5, zb6, zb7, zb8] at hg27
    refine wq_mvs (A := [_, _, _, _, _, _]) hF rfl ?_; clear hF a; intro a hF
    refine wq hF rfl rfl rfl (fun w_ hB_ => r_pick_t (hF.ev rfl) ec) ?_; clear hF a; intro a hF
    exact wpQuiet_nil ((Fr.pre (A := [_, _, _, _, _, _, _]) hF rfl).keep hF (t := 34) rfl)
  clear hF a; intro a hF
  refine wpQuiet_nil ?_; intro w7 hB_; replace hS := hS.ext hB_; clear hB_
  refine hK4 _ _ ?_
  refine wc_fx (t := 34) hF rfl ?_ ?_ <;> clear hF <;> intro c34 hF <;> try simp only [zb1, zb2, zb3, zb4, zb5, zb6, zb7, zb8] at c34
  ·
    refine ws fun K5 hK5 => ?_
    refine wl_mvs (A := [_]) hF rfl ?_; clear hF a; intro a hF
    refine wl_nil (hK5 _ _ ?_)
    refine wp_ret ?_
    try simp only [Exit.then, Exit.inBlock, ↓reduceIte]
    refine ret1 rfl hF rfl ⟨congrArg Value.bool (Eq.symm ?_), hS.old⟩
    first
      | exact st_heads (range_no (by omega) c93)
      | exact st_shape fun h => by
          unfold shapeOk at h
          rcases c34 with ((c | c) | c) | c
          · exact c h.1
          · exact c h.2.1
          · exact c h.2.2.1
          · exact c h.2.2.2
      | (rcases c130 with (c | c) | c
         · exact st_gens (range_no (by omega) (decide_eq_false c))
         · exact st_nodes (range_no (k := k) (by omega) (Bool.and_eq_false_iff.2 (.inr (decide_eq_false c))))
         · exact st_nodes (range_no (k := k) (by omega) (Bool.and_eq_false_iff.2 (.inl (isLink_unmarked ▸ c)))))
      | (rw [st_yes ⟨hok, hl1, hl2, hl3⟩ (all_done hg (by rw [List.length_range]; omega)) (all_done hn (by rw [List.length_range]; omega)) (all_done hv (by rw [List.length_range]; omega)), any_not, Bool.not_not, decide_eq_true (show countsOk s from by unfold countsOk; omega), Bool.and_true])
      | exact st_counts fun h => by unfold countsOk at h; omega
  obtain ⟨⟨⟨hok, hl1⟩, hl2⟩, hl3⟩ := c34
  have hb := hok; unfold Config.ok at hb
  have hcc := cellCount_eq hok
  refine wp_skip ?_
  refine hK3 _ _ ?_
  refine wp_seq_k fun K6 hK6 => ?_
  refine wp_seq_k fun K7 hK7 => ?_
  refine wp_region_calm (by kernel_rfl) (by kernel_rfl) ?_
  refine wq hF rfl rfl rfl (fun w_ hB_ => r_field fo32_1 (hF.ev rfl)) ?_; clear hF a; intro a hF
  refine wq hF rfl rfl rfl (fun w_ hB_ => r_load1 sc24 (hF.ev rfl) ((hS.ext hB_).box (i := 1) rfl rfl)) ?_; clear hF a; intro a hF
  refine wq_call hF rfl rfl rfl (fun w_ hB_ => r_call0 en78 ) (fun w_ hB_ => implClockCell_c) ?_; clear hF a; intro a hF
  obtain ⟨g38, o38, m38, q38, hv38, hm38, hl38, hc38⟩ := Rd.atF (r0) (a := a) (X := .tmp 37) (hF.ev rfl) (by omega) (by omega)
  refine wq hF rfl rfl rfl (fun w_ hB_ => r_index sl24 ((hF.ev rfl).trans hv38) (hF.ev rfl) (by omega) (by first | omega | (simp at hm38; omega))) ?_; clear hF a; intro a hF
  refine wq hF rfl rfl rfl (fun w_ hB_ => r_load1 sc3 (hF.ev rfl) (cellB (hS.ext hB_).old (hc38 0 _ rfl))) ?_; clear hF a; intro a hF
  refine wq hF rfl rfl rfl (fun w_ hB_ => r_field fo29_5 (hF.ev rfl)) ?_; clear hF a; intro a hF
  refine wq hF rfl rfl rfl (fun w_ hB_ => r_load1 sc3 (hF.ev rfl) ((hS.ext hB_).box (i := 0) rfl rfl)) ?_; clear hF a; intro a hF
  refine wq_call hF rfl rfl rfl (fun w_ hB_ => r_call3 en75 (hF.ev rfl) ec (hF.ev rfl)) (fun w_ hB_ => in_c _ _ _) ?_; clear hF a; intro a hF
  refine wq hF rfl rfl rfl (fun w_ hB_ => r_not (hF.ev rfl)) ?_; clear hF a; intro a hF
  refine wq_mvs (A := [_]) hF rfl ?_; clear hF a; intro a hF
  apply wq_or (A := [_, _, _, _, _, _, _, _, _, _]) (pk := 54) hF (tc := 44) rfl
  ·
    intro hg44 a hF; try simp only [zb1, zb2, zb3, zb4, zb5, zb6, zb7, zb8] at hg44
    refine wq_take hF rfl rfl rfl rfl ?_
    refine wq hF rfl rfl rfl (fun w_ hB_ => r_field fo32_1 (hF.ev rfl)) ?_; clear hF a; intro a hF
    refine wq_take hF rfl rfl rfl rfl ?_
    refine wq hF rfl rfl rfl (fun w_ hB_ => r_load1 sc24 (hF.ev rfl) ((hS.ext hB_).box (i := 1) rfl rfl)) ?_; clear hF a; intro a hF
    refine wq_take hF rfl rfl rfl rfl ?_
    refine wq_call hF rfl rfl rfl (fun w_ hB_ => r_call0 en122 ) (fun w_ hB_ => implArenaCell_c) ?_; clear hF a; intro a hF
    refine wq_take hF rfl rfl rfl rfl ?_
    obtain ⟨g48, o48, m48, q48, hv48, hm48, hl48, hc48⟩ := Rd.atF (r0) (a := a) (X := .tmp 47) (hF.ev rfl) (by omega) (by omega)
    refine wq hF rfl rfl rfl (fun w_ hB_ => r_index sl24 ((hF.ev rfl).trans hv48) (hF.ev rfl) (by omega) (by first | omega | (simp at hm48; omega))) ?_; clear hF a; intro a hF
    refine wq_take hF rfl rfl rfl rfl ?_
    refine wq hF rfl rfl rfl (fun w_ hB_ => r_load1 sc3 (hF.ev rfl) (cellB (hS.ext hB_).old (hc48 0 _ rfl))) ?_; clear hF a; intro a hF
    refine wq_take hF rfl rfl rfl rfl ?_
    refine wq hF rfl rfl rfl (fun w_ hB_ => r_field fo29_2 (hF.ev rfl)) ?_; clear hF a; intro a hF
    refine wq_take hF rfl rfl rfl rfl ?_
    refine wq hF rfl rfl rfl (fun w_ hB_ => r_load1 sc3 (hF.ev rfl) ((hS.ext hB_).box (i := 0) rfl rfl)) ?_; clear hF a; intro a hF
    refine wq_take hF rfl rfl rfl rfl ?_
    refine wq_call hF rfl rfl rfl (fun w_ hB_ => r_call3 en75 (hF.ev rfl) ec (hF.ev rfl)) (fun w_ hB_ => in_c _ _ _) ?_; clear hF a; intro a hF
    refine wq_take hF rfl rfl rfl rfl ?_
    refine wq hF rfl rfl rfl (fun w_ hB_ => r_not (hF.ev rfl)) ?_; clear hF a; intro a hF
    refine wq hF rfl rfl rfl (fun w_ hB_ => r_pick_f (hF.ev rfl) (hF.ev rfl)) ?_; clear hF a; intro a hF
    exact wpQuiet_nil ((Fr.pre (A := [_, _, _, _, _, _, _, _, _, _]) hF rfl).keep hF (t := 54) rfl)
  ·
    intro hg44 a hF; try simp only [zb1, zb2, zb3, zb4, zb5, zb6, zb7, zb8] at hg44
    refine wq_mvs (A := [_, _, _, _, _, _, _, _, _]) hF rfl ?_; clear hF a; intro a hF
    refine wq hF rfl rfl rfl (fun w_ hB_ => r_pick_t (hF.ev rfl) ec) ?_; clear hF a; intro a hF
    exact wpQuiet_nil ((Fr.pre (A := [_, _, _, _, _, _, _, _, _, _]) hF rfl).keep hF (t := 54) rfl)
  clear hF a; intro a hF
  refine wq_mvs (A := [_]) hF rfl ?_; clear hF a; intro a hF
  apply wq_or (A := [_, _, _, _, _]) (pk := 60) hF (tc := 55) rfl
  ·
    intro hg55 a hF; try simp only [zb1, zb2, zb3, zb4, zb5, zb6, zb7, zb8] at hg55
    refine wq_take hF rfl rfl rfl rfl ?_
    refine wq hF rfl rfl rfl (fun w_ hB_ => r_field fo32_4 (hF.ev rfl)) ?_; clear hF a; intro a hF
    refine wq_take hF rfl rfl rfl rfl ?_
    refine wq hF rfl rfl rfl (fun w_ hB_ => r_load1 sc3 (hF.ev rfl) ((hS.ext hB_).box (i := 1) rfl rfl)) ?_; clear hF a; intro a hF
    refine wq_take hF rfl rfl rfl rfl ?_
    refine wq_call hF rfl rfl rfl (fun w_ hB_ => r_call3 en75 (hF.ev rfl) ec ec) (fun w_ hB_ => in_c _ _ _) ?_; clear hF a; intro a hF
    refine wq_take hF rfl rfl rfl rfl ?_
    refine wq hF rfl rfl rfl (fun w_ hB_ => r_not (hF.ev rfl)) ?_; clear hF a; intro a hF
    refine wq hF rfl rfl rfl (fun w_ hB_ => r_pick_f (hF.ev rfl) (hF.ev rfl)) ?_; clear hF a; intro a hF
    exact wpQuiet_nil ((Fr.pre (A := [_, _, _, _, _]) hF rfl).keep hF (t := 60) rfl)
  ·
    intro hg55 a hF; try simp only [zb1, zb2, zb3, zb4, zb5, zb6, zb7, zb8] at hg55
    refine wq_mvs (A := [_, _, _, _]) hF rfl ?_; clear hF a; intro a hF
    refine wq hF rfl rfl rfl (fun w_ hB_ => r_pick_t (hF.ev rfl) ec) ?_; clear hF a; intro a hF
    exact wpQuiet_nil ((Fr.pre (A := [_, _, _, _, _]) hF rfl).keep hF (t := 60) rfl)
  clear hF a; intro a hF
  refine wq_mvs (A := [_]) hF rfl ?_; clear hF a; intro a hF
  apply wq_or (A := [_, _, _, _, _]) (pk := 66) hF (tc := 61) rfl
  ·
    intro hg61 a hF; try simp only [zb1, zb2, zb3, zb4, zb5, zb6, zb7, zb8] at hg61
    refine wq_take hF rfl rfl rfl rfl ?_
    refine wq hF rfl rfl rfl (fun w_ hB_ => r_field fo32_5 (hF.ev rfl)) ?_; clear hF a; intro a hF
    refine wq_take hF rfl rfl rfl rfl ?_
    refine wq hF rfl rfl rfl (fun w_ hB_ => r_load1 sc3 (hF.ev rfl) ((hS.ext hB_).box (i := 1) rfl rfl)) ?_; clear hF a; intro a hF
    refine wq_take hF rfl rfl rfl rfl ?_
    refine wq_call hF rfl rfl rfl (fun w_ hB_ => r_call3 en75 (hF.ev rfl) ec ec) (fun w_ hB_ => in_c _ _ _) ?_; clear hF a; intro a hF
    refine wq_take hF rfl rfl rfl rfl ?_
    refine wq hF rfl rfl rfl (fun w_ hB_ => r_not (hF.ev rfl)) ?_; clear hF a; intro a hF
    refine wq hF rfl rfl rfl (fun w_ hB_ => r_pick_f (hF.ev rfl) (hF.ev rfl)) ?_; clear hF a; intro a hF
    exact wpQuiet_nil ((Fr.pre (A := [_, _, _, _, _]) hF rfl).keep hF (t := 66) rfl)
  ·
    intro hg61 a hF; try simp only [zb1, zb2, zb3, zb4, zb5, zb6, zb7, zb8] at hg61
    refine wq_mvs (A := [_, _, _, _]) hF rfl ?_; clear hF a; intro a hF
    refine wq hF rfl rfl rfl (fun w_ hB_ => r_pick_t (hF.ev rfl) ec) ?_; clear hF a; intro a hF
    exact wpQuiet_nil ((Fr.pre (A := [_, _, _, _, _]) hF rfl).keep hF (t := 66) rfl)
  clear hF a; intro a hF
  refine wq_mvs (A := [_]) hF rfl ?_; clear hF a; intro a hF
  apply wq_or (A := [_, _, _, _, _]) (pk := 72) hF (tc := 67) rfl
  ·
    intro hg67 a hF; try simp only [zb1, zb2, zb3, zb4, zb5, zb6, zb7, zb8] at hg67
    refine wq_take hF rfl rfl rfl rfl ?_
    refine wq hF rfl rfl rfl (fun w_ hB_ => r_field fo32_6 (hF.ev rfl)) ?_; clear hF a; intro a hF
    refine wq_take hF rfl rfl rfl rfl ?_
    refine wq hF rfl rfl rfl (fun w_ hB_ => r_load1 sc3 (hF.ev rfl) ((hS.ext hB_).box (i := 1) rfl rfl)) ?_; clear hF a; intro a hF
    refine wq_take hF rfl rfl rfl rfl ?_
    refine wq_call hF rfl rfl rfl (fun w_ hB_ => r_call3 en75 (hF.ev rfl) ec ec) (fun w_ hB_ => in_c _ _ _) ?_; clear hF a; intro a hF
    refine wq_take hF rfl rfl rfl rfl ?_
    refine wq hF rfl rfl rfl (fun w_ hB_ => r_not (hF.ev rfl)) ?_; clear hF a; intro a hF
    refine wq hF rfl rfl rfl (fun w_ hB_ => r_pick_f (hF.ev rfl) (hF.ev rfl)) ?_; clear hF a; intro a hF
    exact wpQuiet_nil ((Fr.pre (A := [_, _, _, _, _]) hF rfl).keep hF (t := 72) rfl)
  ·
    intro hg67 a hF; try simp only [zb1, zb2, zb3, zb4, zb5, zb6, zb7, zb8] at hg67
    refine wq_mvs (A := [_, _, _, _]) hF rfl ?_; clear hF a; intro a hF
    refine wq hF rfl rfl rfl (fun w_ hB_ => r_pick_t (hF.ev rfl) ec) ?_; clear hF a; intro a hF
    exact wpQuiet_nil ((Fr.pre (A := [_, _, _, _, _]) hF rfl).keep hF (t := 72) rfl)
  clear hF a; intro a hF
  refine wq_mvs (A := [_]) hF rfl ?_; clear hF a; intro a hF
  apply wq_or (A := [_, _, _, _, _]) (pk := 78) hF (tc := 73) rfl
  ·
    intro hg73 a hF; try simp only [zb1, zb2, zb3, zb4, zb5, zb6, zb7, zb8] at hg73
    refine wq_take hF rfl rfl rfl rfl ?_
    refine wq hF rfl rfl rfl (fun w_ hB_ => r_field fo32_7 (hF.ev rfl)) ?_; clear hF a; intro a hF
    refine wq_take hF rfl rfl rfl rfl ?_
    refine wq hF rfl rfl rfl (fun w_ hB_ => r_load1 sc3 (hF.ev rfl) ((hS.ext hB_).box (i := 1) rfl rfl)) ?_; clear hF a; intro a hF
    refine wq_take hF rfl rfl rfl rfl ?_
    refine wq_call hF rfl rfl rfl (fun w_ hB_ => r_call3 en75 (hF.ev rfl) ec ec) (fun w_ hB_ => in_c _ _ _) ?_; clear hF a; intro a hF
    refine wq_take hF rfl rfl rfl rfl ?_
    refine wq hF rfl rfl rfl (fun w_ hB_ => r_not (hF.ev rfl)) ?_; clear hF a; intro a hF
    refine wq hF rfl rfl rfl (fun w_ hB_ => r_pick_f (hF.ev rfl) (hF.ev rfl)) ?_; clear hF a; intro a hF
    exact wpQuiet_nil ((Fr.pre (A := [_, _, _, _, _]) hF rfl).keep hF (t := 78) rfl)
  ·
    intro hg73 a hF; try simp only [zb1, zb2, zb3, zb4, zb5, zb6, zb7, zb8] at hg73
    refine wq_mvs (A := [_, _, _, _]) hF rfl ?_; clear hF a; intro a hF
    refine wq hF rfl rfl rfl (fun w_ hB_ => r_pick_t (hF.ev rfl) ec) ?_; clear hF a; intro a hF
    exact wpQuiet_nil ((Fr.pre (A := [_, _, _, _, _]) hF rfl).keep hF (t := 78) rfl)
  clear hF a; intro a hF
  refine wpQuiet_nil ?_; intro w13 hB_; replace hS := hS.ext hB_; clear hB_
  refine hK7 _ _ ?_
  refine wc_fx (t := 78) hF rfl ?_ ?_ <;> clear hF <;> intro c78 hF <;> try simp only [zb1, zb2, zb3, zb4, zb5, zb6, zb7, zb8] at c78
  ·
    refine ws fun K8 hK8 => ?_
    refine wl_mvs (A := [_]) hF rfl ?_; clear hF a; intro a hF
    refine wl_nil (hK8 _ _ ?_)
    refine wp_ret ?_
    try simp only [Exit.then, Exit.inBlock, ↓reduceIte]
    refine ret1 rfl hF rfl ⟨congrArg Value.bool (Eq.symm ?_), hS.old⟩
    first
      | exact st_heads (range_no (by omega) c93)
      | exact st_shape fun h => by
          unfold shapeOk at h
          rcases c34 with ((c | c) | c) | c
          · exact c h.1
          · exact c h.2.1
          · exact c h.2.2.1
          · exact c h.2.2.2
      | (rcases c130 with (c | c) | c
         · exact st_gens (range_no (by omega) (decide_eq_false c))
         · exact st_nodes (range_no (k := k) (by omega) (Bool.and_eq_false_iff.2 (.inr (decide_eq_false c))))
         · exact st_nodes (range_no (k := k) (by omega) (Bool.and_eq_false_iff.2 (.inl (isLink_unmarked ▸ c)))))
      | (rw [st_yes ⟨hok, hl1, hl2, hl3⟩ (all_done hg (by rw [List.length_range]; omega)) (all_done hn (by rw [List.length_range]; omega)) (all_done hv (by rw [List.length_range]; omega)), any_not, Bool.not_not, decide_eq_true (show countsOk s from by unfold countsOk; omega), Bool.and_true])
      | exact st_counts fun h => by unfold countsOk at h; omega
  refine wp_skip ?_
  refine hK6 _ _ ?_
  refine wp_seq_k fun K9 hK9 => ?_
  refine ws fun K10 hK10 => ?_
  refine wl hF rfl rfl rfl (r_field fo29_1 (hF.ev rfl)) ?_; clear hF a; intro a hF
  refine wl hF rfl rfl rfl (r_load1 sc3 (hF.ev rfl) (hS.box (i := 0) rfl rfl)) ?_; clear hF a; intro a hF
  refine wl_mvs (A := [_]) hF rfl ?_; clear hF a; intro a hF
  refine wl_nil (hK10 _ _ ?_)
  refine wp_block ?_
  have hL_ := ((((hF.nil.keep hF (t := 80) rfl).keep hF (t := 3) rfl).keep hF (t := 2) rfl).keep hF (t := 1) rfl)
  refine wp_loop_r (σ := Nat) (fun k L_ => (81, vi k) :: L_) (fun k => (k ≤ s.config.keys.toNat) ∧ (((List.range s.config.keys.toNat).take k).all (fun k => isLink s.config (at0 s.cells (headCell s.config (k : Int)))) = true)) (fun k => s.config.keys.toNat - k) 0 hS (hL_.keepE hF (t := 81) rfl rfl) ?_ ?_
  · exact ⟨Nat.zero_le _, rfl⟩
  clear hF hS hL_ a
  rintro k a w14 ⟨hk, hn⟩ hS hF; try dsimp only at hF; try dsimp only at hS
  refine ws fun K11 hK11 => ?_
  refine wl hF rfl rfl rfl (r_lss (hF.ev rfl) (hF.ev rfl)) ?_; clear hF a; intro a hF
  refine wl_nil (hK11 _ _ ?_)
  refine wp_seq_k fun K12 hK12 => ?_
  refine wc_fx (t := 82) hF rfl ?_ ?_ <;> clear hF <;> intro c82 hF <;> try simp only [zb1, zb2, zb3, zb4, zb5, zb6, zb7, zb8] at c82
  ·
    have hd := headCell_eq hok (k := (k : Int)) (by omega) (by omega)
    have h1 : int64 (at0 s.cells (headCell s.config (k : Int))) := wcells _ (at0_mem (by omega) (by omega))
    refine wp_skip ?_
    refine hK12 _ _ ?_
    refine wp_seq_k fun K13 hK13 => ?_
    refine wp_block ?_
    refine ws fun K14 hK14 => ?_
    refine wl_mvs (A := [_, _]) hF rfl ?_; clear hF a; intro a hF
    refine wl_nil (hK14 _ _ ?_)
    refine wp_seq_k fun K15 hK15 => ?_
    refine wp_region_calm (by kernel_rfl) (by kernel_rfl) ?_
    refine wq hF rfl rfl rfl (fun w_ hB_ => r_loadn ag29 (hF.ev rfl) ((hS.ext hB_).box_rd (i := 0) rfl) sz29) ?_; clear hF a; intro a hF
    refine wq hF rfl rfl rfl (fun w_ hB_ => r_field fo32_1 (hF.ev rfl)) ?_; clear hF a; intro a hF
    refine wq hF rfl rfl rfl (fun w_ hB_ => r_load1 sc24 (hF.ev rfl) ((hS.ext hB_).box (i := 1) rfl rfl)) ?_; clear hF a; intro a hF
    refine wq hF rfl rfl rfl (fun w_ hB_ => r_loadn ag29 (hF.ev rfl) ((hS.ext hB_).box_rd (i := 0) rfl) sz29) ?_; clear hF a; intro a hF
    refine wq_mvs (A := [_]) hF rfl ?_; clear hF a; intro a hF
    refine wq_call hF rfl rfl rfl (fun w_ hB_ => r_call2 en96 (hF.ev rfl) (hF.ev rfl)) (fun w_ hB_ => implHeadCell_c _ _) ?_; clear hF a; intro a hF
    obtain ⟨g90, o90, m90, q90, hv90, hm90, hl90, hc90⟩ := Rd.atF (r0) (a := a) (X := .tmp 89) (hF.ev rfl) (by omega) (by omega)
    refine wq hF rfl rfl rfl (fun w_ hB_ => r_index sl24 ((hF.ev rfl).trans hv90) (hF.ev rfl) (by omega) (by first | omega | (simp at hm90; omega))) ?_; clear hF a; intro a hF
    refine wq hF rfl rfl rfl (fun w_ hB_ => r_load1 sc3 (hF.ev rfl) (cellB (hS.ext hB_).old (hc90 0 _ rfl))) ?_; clear hF a; intro a hF
    refine wq_call hF rfl rfl rfl (fun w_ hB_ => r_call2 en123 (hF.ev rfl) (hF.ev rfl)) (fun w_ hB_ => isLink_c h1) ?_; clear hF a; intro a hF
    refine wq hF rfl rfl rfl (fun w_ hB_ => r_not (hF.ev rfl)) ?_; clear hF a; intro a hF
    refine wpQuiet_nil ?_; intro w15 hB_; replace hS := hS.ext hB_; clear hB_
    refine hK15 _ _ ?_
    refine wc_fx (t := 93) hF rfl ?_ ?_ <;> clear hF <;> intro c93 hF <;> try simp only [zb1, zb2, zb3, zb4, zb5, zb6, zb7, zb8] at c93
    ·
      refine ws fun K16 hK16 => ?_
      refine wl_mvs (A := [_]) hF rfl ?_; clear hF a; intro a hF
      refine wl_nil (hK16 _ _ ?_)
      refine wp_ret ?_
      try simp only [Exit.then, Exit.inBlock, ↓reduceIte]
      refine ret1 rfl hF rfl ⟨congrArg Value.bool (Eq.symm ?_), hS.old⟩
      first
        | exact st_heads (range_no (by omega) c93)
        | exact st_shape fun h => by
            unfold shapeOk at h
            rcases c34 with ((c | c) | c) | c
            · exact c h.1
            · exact c h.2.1
            · exact c h.2.2.1
            · exact c h.2.2.2
        | (rcases c130 with (c | c) | c
           · exact st_gens (range_no (by omega) (decide_eq_false c))
           · exact st_nodes (range_no (k := k) (by omega) (Bool.and_eq_false_iff.2 (.inr (decide_eq_false c))))
           · exact st_nodes (range_no (k := k) (by omega) (Bool.and_eq_false_iff.2 (.inl (isLink_unmarked ▸ c)))))
        | (rw [st_yes ⟨hok, hl1, hl2, hl3⟩ (all_done hg (by rw [List.length_range]; omega)) (all_done hn (by rw [List.length_range]; omega)) (all_done hv (by rw [List.length_range]; omega)), any_not, Bool.not_not, decide_eq_true (show countsOk s from by unfold countsOk; omega), Bool.and_true])
        | exact st_counts fun h => by unfold countsOk at h; omega
    refine wp_skip ?_
    simp only [Exit.then, Exit.inBlock, ↓reduceIte]
    refine hK13 _ _ ?_
    refine wp_region_lit ?_
    refine wl hF rfl rfl rfl (r_add (hF.ev rfl) ec) ?_; clear hF a; intro a hF
    refine wl_mvs (A := [_]) hF rfl ?_; clear hF a; intro a hF
    refine wl_nil ?_
    try simp only [Exit.then, Exit.inBlock, ↓reduceIte]
    refine ⟨k + 1, ⟨by omega, all_nxt hn (range_at (by omega)) c93⟩, hS, (((((hF.nil.keep hF (t := 80) rfl).keep hF (t := 3) rfl).keep hF (t := 2) rfl).keep hF (t := 1) rfl).keepE hF (t := 81) rfl (wk (by omega))), by omega⟩
  refine wp_exit ?_
  simp only [Exit.then, Exit.inBlock, ↓reduceIte]
  refine hK9 _ _ ?_
  refine wp_seq_k fun K17 hK17 => ?_
  refine ws fun K18 hK18 => ?_
  refine wl hF rfl rfl rfl (r_field fo29_2 (hF.ev rfl)) ?_; clear hF a; intro a hF
  refine wl hF rfl rfl rfl (r_load1 sc3 (hF.ev rfl) (hS.box (i := 0) rfl rfl)) ?_; clear hF a; intro a hF
  refine wl_mvs (A := [_]) hF rfl ?_; clear hF a; intro a hF
  refine wl_nil (hK18 _ _ ?_)
  refine wp_block ?_
  have hL_ := ((((hF.nil.keep hF (t := 96) rfl).keep hF (t := 3) rfl).keep hF (t := 2) rfl).keep hF (t := 1) rfl)
  refine wp_loop_r (σ := Nat) (fun k L_ => (97, vi k) :: L_) (fun k => (k ≤ s.config.capacity.toNat) ∧ (((List.range s.config.capacity.toNat).take k).all (fun k => decide (0 ≤ at0 s.generations (k : Int) ∧ at0 s.generations (k : Int) ≤ 9998)) = true) ∧ (((List.range s.config.capacity.toNat).take k).all (fun k => zeroOk s.config (at0 s.cells (nodeCell s.config (k : Int) 2)) && decide (0 ≤ at0 s.cells (nodeCell s.config (k : Int) 0) ∧ at0 s.cells (nodeCell s.config (k : Int) 0) ≤ 99)) = true)) (fun k => s.config.capacity.toNat - k) 0 hS (hL_.keepE hF (t := 97) rfl rfl) ?_ ?_
  · exact ⟨Nat.zero_le _, rfl, rfl⟩
  clear hF hS hL_ a
  rintro k a w16 ⟨hk, hg, hv⟩ hS hF; try dsimp only at hF; try dsimp only at hS
  refine ws fun K19 hK19 => ?_
  refine wl hF rfl rfl rfl (r_lss (hF.ev rfl) (hF.ev rfl)) ?_; clear hF a; intro a hF
  refine wl_nil (hK19 _ _ ?_)
  refine wp_seq_k fun K20 hK20 => ?_
  refine wc_fx (t := 98) hF rfl ?_ ?_ <;> clear hF <;> intro c98 hF <;> try simp only [zb1, zb2, zb3, zb4, zb5, zb6, zb7, zb8] at c98
  ·
    have hn0 := nodeCell_eq hok (i := (k : Int)) (f := 0) (by omega) (by omega) (by omega) (by omega)
    have hn2 := nodeCell_eq hok (i := (k : Int)) (f := 2) (by omega) (by omega) (by omega) (by omega)
    have h1 : int64 (at0 s.cells (nodeCell s.config (k : Int) 2)) := wcells _ (at0_mem (by omega) (by omega))
    refine wp_skip ?_
    refine hK20 _ _ ?_
    refine wp_seq_k fun K21 hK21 => ?_
    refine wp_block ?_
    refine ws fun K22 hK22 => ?_
    refine wl_mvs (A := [_, _]) hF rfl ?_; clear hF a; intro a hF
    refine wl_nil (hK22 _ _ ?_)
    refine wp_seq_k fun K23 hK23 => ?_
    refine wp_region_calm (by kernel_rfl) (by kernel_rfl) ?_
    refine wq hF rfl rfl rfl (fun w_ hB_ => r_field fo32_2 (hF.ev rfl)) ?_; clear hF a; intro a hF
    refine wq hF rfl rfl rfl (fun w_ hB_ => r_load1 sc24 (hF.ev rfl) ((hS.ext hB_).box (i := 1) rfl rfl)) ?_; clear hF a; intro a hF
    refine wq_mvs (A := [_]) hF rfl ?_; clear hF a; intro a hF
    obtain ⟨g103, o103, m103, q103, hv103, hm103, hl103, hc103⟩ := Rd.atF (r1) (a := a) (X := .tmp 102) (hF.ev rfl) (by omega) (by omega)
    refine wq hF rfl rfl rfl (fun w_ hB_ => r_index sl24 ((hF.ev rfl).trans hv103) (hF.ev rfl) (by omega) (by first | omega | (simp at hm103; omega))) ?_; clear hF a; intro a hF
    refine wq hF rfl rfl rfl (fun w_ hB_ => r_load1 sc3 (hF.ev rfl) (cellB (hS.ext hB_).old (hc103 0 _ rfl))) ?_; clear hF a; intro a hF
    refine wq_call hF rfl rfl rfl (fun w_ hB_ => r_call3 en75 (hF.ev rfl) ec ec) (fun w_ hB_ => in_c _ _ _) ?_; clear hF a; intro a hF
    refine wq hF rfl rfl rfl (fun w_ hB_ => r_not (hF.ev rfl)) ?_; clear hF a; intro a hF
    refine wq_mvs (A := [_]) hF rfl ?_; clear hF a; intro a hF
    apply wq_or (A := [_, _, _, _, _, _, _, _, _, _]) (pk := 117) hF (tc := 107) rfl
    ·
      intro hg107 a hF; try simp only [zb1, zb2, zb3, zb4, zb5, zb6, zb7, zb8] at hg107
      refine wq_take hF rfl rfl rfl rfl ?_
      refine wq hF rfl rfl rfl (fun w_ hB_ => r_field fo32_1 (hF.ev rfl)) ?_; clear hF a; intro a hF
      refine wq_take hF rfl rfl rfl rfl ?_
      refine wq hF rfl rfl rfl (fun w_ hB_ => r_load1 sc24 (hF.ev rfl) ((hS.ext hB_).box (i := 1) rfl rfl)) ?_; clear hF a; intro a hF
      refine wq_take hF rfl rfl rfl rfl ?_
      refine wq hF rfl rfl rfl (fun w_ hB_ => r_loadn ag29 (hF.ev rfl) ((hS.ext hB_).box_rd (i := 0) rfl) sz29) ?_; clear hF a; intro a hF
      refine wq_mvs (A := [_]) hF rfl ?_; clear hF a; intro a hF
      refine wq_take hF rfl rfl rfl rfl ?_
      refine wq_call hF rfl rfl rfl (fun w_ hB_ => r_call3 en124 (hF.ev rfl) (hF.ev rfl) ec) (fun w_ hB_ => implNodeCell_c _ _ _) ?_; clear hF a; intro a hF
      refine wq_take hF rfl rfl rfl rfl ?_
      obtain ⟨g113, o113, m113, q113, hv113, hm113, hl113, hc113⟩ := Rd.atF (r0) (a := a) (X := .tmp 112) (hF.ev rfl) (by omega) (by omega)
      refine wq hF rfl rfl rfl (fun w_ hB_ => r_index sl24 ((hF.ev rfl).trans hv113) (hF.ev rfl) (by omega) (by first | omega | (simp at hm113; omega))) ?_; clear hF a; intro a hF
      refine wq_take hF rfl rfl rfl rfl ?_
      refine wq hF rfl rfl rfl (fun w_ hB_ => r_load1 sc3 (hF.ev rfl) (cellB (hS.ext hB_).old (hc113 0 _ rfl))) ?_; clear hF a; intro a hF
      refine wq_take hF rfl rfl rfl rfl ?_
      refine wq_call hF rfl rfl rfl (fun w_ hB_ => r_call3 en75 (hF.ev rfl) ec ec) (fun w_ hB_ => in_c _ _ _) ?_; clear hF a; intro a hF
      refine wq_take hF rfl rfl rfl rfl ?_
      refine wq hF rfl rfl rfl (fun w_ hB_ => r_not (hF.ev rfl)) ?_; clear hF a; intro a hF
      refine wq hF rfl rfl rfl (fun w_ hB_ => r_pick_f (hF.ev rfl) (hF.ev rfl)) ?_; clear hF a; intro a hF
      exact wpQuiet_nil ((Fr.pre (A := [_, _, _, _, _, _, _, _, _, _]) hF rfl).keep hF (t := 117) rfl)
    ·
      intro hg107 a hF; try simp only [zb1, zb2, zb3, zb4, zb5, zb6, zb7, zb8] at hg107
      refine wq_mvs (A := [_, _, _, _, _, _, _, _, _]) hF rfl ?_; clear hF a; intro a hF
      refine wq hF rfl rfl rfl (fun w_ hB_ => r_pick_t (hF.ev rfl) ec) ?_; clear hF a; intro a hF
      exact wpQuiet_nil ((Fr.pre (A := [_, _, _, _, _, _, _, _, _, _]) hF rfl).keep hF (t := 117) rfl)
    clear hF a; intro a hF
    refine wq_mvs (A := [_]) hF rfl ?_; clear hF a; intro a hF
    apply wq_or (A := [_, _, _, _, _, _, _, _, _, _, _, _]) (pk := 130) hF (tc := 118) rfl
    ·
      intro hg118 a hF; try simp only [zb1, zb2, zb3, zb4, zb5, zb6, zb7, zb8] at hg118
      refine wq_take hF rfl rfl rfl rfl ?_
      refine wq hF rfl rfl rfl (fun w_ hB_ => r_loadn ag29 (hF.ev rfl) ((hS.ext hB_).box_rd (i := 0) rfl) sz29) ?_; clear hF a; intro a hF
      refine wq_take hF rfl rfl rfl rfl ?_
      refine wq hF rfl rfl rfl (fun w_ hB_ => r_field fo32_1 (hF.ev rfl)) ?_; clear hF a; intro a hF
      refine wq_take hF rfl rfl rfl rfl ?_
      refine wq hF rfl rfl rfl (fun w_ hB_ => r_load1 sc24 (hF.ev rfl) ((hS.ext hB_).box (i := 1) rfl rfl)) ?_; clear hF a; intro a hF
      refine wq_take hF rfl rfl rfl rfl ?_
      refine wq hF rfl rfl rfl (fun w_ hB_ => r_loadn ag29 (hF.ev rfl) ((hS.ext hB_).box_rd (i := 0) rfl) sz29) ?_; clear hF a; intro a hF
      refine wq_mvs (A := [_]) hF rfl ?_; clear hF a; intro a hF
      refine wq_take hF rfl rfl rfl rfl ?_
      refine wq_call hF rfl rfl rfl (fun w_ hB_ => r_call3 en124 (hF.ev rfl) (hF.ev rfl) ec) (fun w_ hB_ => implNodeCell_c _ _ _) ?_; clear hF a; intro a hF
      refine wq_take hF rfl rfl rfl rfl ?_
      obtain ⟨g125, o125, m125, q125, hv125, hm125, hl125, hc125⟩ := Rd.atF (r0) (a := a) (X := .tmp 124) (hF.ev rfl) (by omega) (by omega)
      refine wq hF rfl rfl rfl (fun w_ hB_ => r_index sl24 ((hF.ev rfl).trans hv125) (hF.ev rfl) (by omega) (by first | omega | (simp at hm125; omega))) ?_; clear hF a; intro a hF
      refine wq_take hF rfl rfl rfl rfl ?_
      refine wq hF rfl rfl rfl (fun w_ hB_ => r_load1 sc3 (hF.ev rfl) (cellB (hS.ext hB_).old (hc125 0 _ rfl))) ?_; clear hF a; intro a hF
      refine wq_take hF rfl rfl rfl rfl ?_
      refine wq_call hF rfl rfl rfl (fun w_ hB_ => r_call1 en95 (hF.ev rfl)) (fun w_ hB_ => implUnmarked_c h1) ?_; clear hF a; intro a hF
      refine wq_take hF rfl rfl rfl rfl ?_
      refine wq_call hF rfl rfl rfl (fun w_ hB_ => r_call2 en123 (hF.ev rfl) (hF.ev rfl)) (fun w_ hB_ => isLink_c (int64_unmarked h1)) ?_; clear hF a; intro a hF
      refine wq_take hF rfl rfl rfl rfl ?_
      refine wq hF rfl rfl rfl (fun w_ hB_ => r_not (hF.ev rfl)) ?_; clear hF a; intro a hF
      refine wq hF rfl rfl rfl (fun w_ hB_ => r_pick_f (hF.ev rfl) (hF.ev rfl)) ?_; clear hF a; intro a hF
      exact wpQuiet_nil ((Fr.pre (A := [_, _, _, _, _, _, _, _, _, _, _, _]) hF rfl).keep hF (t := 130) rfl)
    ·
      intro hg118 a hF; try simp only [zb1, zb2, zb3, zb4, zb5, zb6, zb7, zb8] at hg118
      refine wq_mvs (A := [_, _, _, _, _, _, _, _, _, _, _]) hF rfl ?_; clear hF a; intro a hF
      refine wq hF rfl rfl rfl (fun w_ hB_ => r_pick_t (hF.ev rfl) ec) ?_; clear hF a; intro a hF
      exact wpQuiet_nil ((Fr.pre (A := [_, _, _, _, _, _, _, _, _, _, _, _]) hF rfl).keep hF (t := 130) rfl)
    clear hF a; intro a hF
    refine wpQuiet_nil ?_; intro w19 hB_; replace hS := hS.ext hB_; clear hB_
    refine hK23 _ _ ?_
    refine wc_fx (t := 130) hF rfl ?_ ?_ <;> clear hF <;> intro c130 hF <;> try simp only [zb1, zb2, zb3, zb4, zb5, zb6, zb7, zb8] at c130
    ·
      refine ws fun K24 hK24 => ?_
      refine wl_mvs (A := [_]) hF rfl ?_; clear hF a; intro a hF
      refine wl_nil (hK24 _ _ ?_)
      refine wp_ret ?_
      try simp only [Exit.then, Exit.inBlock, ↓reduceIte]
      refine ret1 rfl hF rfl ⟨congrArg Value.bool (Eq.symm ?_), hS.old⟩
      first
        | exact st_heads (range_no (by omega) c93)
        | exact st_shape fun h => by
            unfold shapeOk at h
            rcases c34 with ((c | c) | c) | c
            · exact c h.1
            · exact c h.2.1
            · exact c h.2.2.1
            · exact c h.2.2.2
        | (rcases c130 with (c | c) | c
           · exact st_gens (range_no (by omega) (decide_eq_false c))
           · exact st_nodes (range_no (k := k) (by omega) (Bool.and_eq_false_iff.2 (.inr (decide_eq_false c))))
           · exact st_nodes (range_no (k := k) (by omega) (Bool.and_eq_false_iff.2 (.inl (isLink_unmarked ▸ c)))))
        | (rw [st_yes ⟨hok, hl1, hl2, hl3⟩ (all_done hg (by rw [List.length_range]; omega)) (all_done hn (by rw [List.length_range]; omega)) (all_done hv (by rw [List.length_range]; omega)), any_not, Bool.not_not, decide_eq_true (show countsOk s from by unfold countsOk; omega), Bool.and_true])
        | exact st_counts fun h => by unfold countsOk at h; omega
    refine wp_skip ?_
    simp only [Exit.then, Exit.inBlock, ↓reduceIte]
    refine hK21 _ _ ?_
    refine wp_region_lit ?_
    refine wl hF rfl rfl rfl (r_add (hF.ev rfl) ec) ?_; clear hF a; intro a hF
    refine wl_mvs (A := [_]) hF rfl ?_; clear hF a; intro a hF
    refine wl_nil ?_
    try simp only [Exit.then, Exit.inBlock, ↓reduceIte]
    refine ⟨k + 1, ⟨by omega, all_nxt hg (range_at (by omega)) (decide_eq_true c130.1.1), all_nxt hv (range_at (by omega)) (by rw [← isLink_unmarked, c130.2, decide_eq_true c130.1.2]; rfl)⟩, hS, (((((hF.nil.keep hF (t := 96) rfl).keep hF (t := 3) rfl).keep hF (t := 2) rfl).keep hF (t := 1) rfl).keepE hF (t := 97) rfl (wk (by omega))), by omega⟩
  refine wp_exit ?_
  simp only [Exit.then, Exit.inBlock, ↓reduceIte]
  refine hK17 _ _ ?_
  refine ws fun K25 hK25 => ?_
  refine wl hF rfl rfl rfl (r_field fo32_3 (hF.ev rfl)) ?_; clear hF a; intro a hF
  refine wl hF rfl rfl rfl (r_load1 sc30 (hF.ev rfl) (hS.box (i := 1) rfl rfl)) ?_; clear hF a; intro a hF
  refine wl hF rfl rfl rfl (r_makeFunc (by simp only [List.map_toArray, List.map_cons, List.map_nil]; rw [hF.ev rfl])) ?_; clear hF a; intro a hF
  refine wl_call hF rfl rfl rfl (r_call2 en125 (hF.ev rfl) (hF.ev rfl)) (containsFuncT_c (p := fun t => !threadOk s.config t) (cap := #[.pointer (some ⟨g2, 0, none⟩)]) (hS.rd r2) (by kernel_rfl) (fun w_ cs x hx hB hk => by rw [app_1]; exact isState1_c hk (wthr x hx) hok (fun j u hu => cellB hB (hS.box_rd (i := 0) rfl j u hu)))) ?_; clear hF a; rintro v w20 a ⟨rfl, hB_⟩ hF; replace hS := hS.ext hB_; clear hB_
  refine wl hF rfl rfl rfl (r_not (hF.ev rfl)) ?_; clear hF a; intro a hF
  refine wl_mvs (A := [_]) hF rfl ?_; clear hF a; intro a hF
  refine wl_nil (hK25 _ _ ?_)
  refine wp_ret ?_
  try simp only [Exit.then, Exit.inBlock, ↓reduceIte]
  refine ret1 rfl hF rfl ⟨congrArg Value.bool (Eq.symm ?_), hS.old⟩
  first
    | exact st_heads (range_no (by omega) c93)
    | exact st_shape fun h => by
        unfold shapeOk at h
        rcases c34 with ((c | c) | c) | c
        · exact c h.1
        · exact c h.2.1
        · exact c h.2.2.1
        · exact c h.2.2.2
    | (rcases c130 with (c | c) | c
       · exact st_gens (range_no (by omega) (decide_eq_false c))
       · exact st_nodes (range_no (k := k) (by omega) (Bool.and_eq_false_iff.2 (.inr (decide_eq_false c))))
       · exact st_nodes (range_no (k := k) (by omega) (Bool.and_eq_false_iff.2 (.inl (isLink_unmarked ▸ c)))))
    | (rw [st_yes ⟨hok, hl1, hl2, hl3⟩ (all_done hg (by rw [List.length_range]; omega)) (all_done hn (by rw [List.length_range]; omega)) (all_done hv (by rw [List.length_range]; omega)), any_not, Bool.not_not, decide_eq_true (show countsOk s from by unfold countsOk; omega), Bool.and_true])
    | exact st_counts fun h => by unfold countsOk at h; omega

end Go.Proofs.YtifhfodphoeeoaaGreat.Wk
