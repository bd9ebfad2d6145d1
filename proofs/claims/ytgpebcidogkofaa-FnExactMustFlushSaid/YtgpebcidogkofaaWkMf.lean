/- Walks: MustFlush, the reference's, the program's, and the law. -/
import Derived.Test.YtgpebcidogkofaaChecked
import Derived.Test.YtgpebcidogkofaaWkT
import Derived.Test.YtgpebcidogkofaaWkC
namespace Go.Proofs.Ytgpebcidogkofaa.Wk
open Go Go.RowKit Sl
set_option linter.unusedVariables false
set_option linter.unusedSimpArgs false
set_option maxRecDepth 20000

/-- what MustFlush answers -/
def mustFlush (c : Config) (t : Thread) : Bool := decide c.ok && (if c.policy = 2 then t.buffer.any (fun e => decide (e.key = t.op.key)) else decide (c.batch ≤ (t.buffer.length : Int)))
section
variable {c : Config} {t : Thread}
theorem mf_1 (h : ¬ c.ok) : mustFlush c t = false := by simp [mustFlush, h]
theorem mf_2 (h : c.ok) (h2 : ¬ c.policy = 2) : mustFlush c t = decide (c.batch ≤ (t.buffer.length : Int)) := by simp [mustFlush, h, h2]
theorem mf_3 (h : c.ok) (h2 : c.policy = 2) : mustFlush c t = t.buffer.any (fun e => decide (e.key = t.op.key)) := by simp [mustFlush, h, h2]
end

set_option maxHeartbeats 4000000 in
set_option maxRecDepth 20000 in
theorem indexFuncE_c {W : World} {va : Value} {xs : List Entry} {f : FuncId} {cap : Array Value} {p : Entry → Bool} (ha : entryEK.Rd W va xs) (hen : enterB Try.prog f = true) (hf : ∀ (w : World) (x : Entry), Below W.heap.size W w → Calls Try.prog f (#[.agg x.enc.toArray] ++ cap) w (Ret fun v w' => v = .bool (p x) ∧ Below w.heap.size w w')) : Calls Try.prog 97 #[va, .func (.func f) #[] cap] W (Ret fun v w' => (∃ j : Int, v = vi j ∧ (0 ≤ j ↔ xs.any p = true)) ∧ Below W.heap.size W w') := by
  refine calls_fr Try.func97 rfl Try.ntmps97 rfl ?_
  intro a hF
  obtain ⟨A_a, q_a, rfl, hq_a, hn_a⟩ := ha.sl; unfold maxLen at hn_a
  have hS := Sep.refl W
  refine wp_seq_k fun K1 hK1 => ?_
  refine wp_region_lit ?_
  refine wl hF rfl rfl rfl (r_assign ec) ?_; clear hF a; intro a hF
  refine wl_nil ?_
  refine hK1 _ _ ?_
  refine wp_seq_k fun K2 hK2 => ?_
  refine wp_seq_k fun K3 hK3 => ?_
  refine wp_region_lit ?_
  refine wl hF rfl rfl rfl (r_move (hF.ev rfl)) ?_; clear hF a; intro a hF
  refine wl hF rfl rfl rfl (r_len ul45 (hF.ev rfl)) ?_; clear hF a; intro a hF
  refine wl hF rfl rfl rfl (r_move ec) ?_; clear hF a; intro a hF
  refine wl_nil ?_
  refine hK3 _ _ ?_
  refine wp_block ?_
  refine wp_loop_g (σ := Nat) (fun k a w => k ≤ xs.length ∧ (xs.take k).any p = false ∧ Sep W [] w ∧ Fr 19 [(8, vi k), (7, vi xs.length), (1, .func (.func f) #[] cap), (0, .slice A_a xs.length q_a)] a) (fun k => xs.length - k) 0 ?_ ?_
  · exact ⟨Nat.zero_le _, by simp, hS, ((((hF.nil.keep hF (t := 0) rfl).keep hF (t := 1) rfl).keep hF (t := 7) rfl).keep hF (t := 8) rfl)⟩
  ·
    clear hF hS a
    rintro k a w ⟨hk, hn, hS, hF⟩
    refine wp_seq_k fun K4 hK4 => ?_
    refine wp_region_lit ?_
    refine wl hF rfl rfl rfl (r_lss (hF.ev rfl) (hF.ev rfl)) ?_; clear hF a; intro a hF
    refine wl_nil ?_
    refine hK4 _ _ ?_
    refine wp_seq_k fun K5 hK5 => ?_
    first | refine wc_dec (hF.ev rfl) (fun c9 => ?_) (fun c9 => ?_) | refine wc_ndec (hF.ev rfl) (fun c9 => ?_) (fun c9 => ?_) | refine wc_b (hF.ev rfl) (fun c9 => ?_) (fun c9 => ?_)
    ·
      have hlt : k < xs.length := by omega
      obtain ⟨x, hx⟩ : ∃ x, xs[k]? = some x := ⟨_, List.getElem?_eq_getElem hlt⟩
      refine wp_skip ?_
      refine hK5 _ _ ?_
      refine wp_seq_k fun K6 hK6 => ?_
      refine wp_block ?_
      refine wp_seq_k fun K7 hK7 => ?_
      refine wp_region_lit ?_
      refine wl hF rfl rfl rfl (r_move (hF.ev rfl)) ?_; clear hF a; intro a hF
      refine wl hF rfl rfl rfl (r_assign (hF.ev rfl)) ?_; clear hF a; intro a hF
      refine wl_nil ?_
      refine hK7 _ _ ?_
      refine wp_seq_k fun K8 hK8 => ?_
      refine wp_region_lit ?_
      refine wl hF rfl rfl rfl (r_move (hF.ev rfl)) ?_; clear hF a; intro a hF
      refine wl hF rfl rfl rfl (r_move (hF.ev rfl)) ?_; clear hF a; intro a hF
      refine wl hF rfl rfl rfl (r_move (hF.ev rfl)) ?_; clear hF a; intro a hF
      obtain ⟨g14, o14, m14, q14, hv14, hm14, hl14, hc14⟩ := Rd.idxF (hS.rd ha) hx
      refine wl hF rfl rfl rfl (r_index sl45 ((hF.ev rfl).trans hv14) (hF.ev rfl) (by omega) (by omega)) ?_; clear hF a; intro a hF
      refine wl hF rfl rfl rfl (r_loadn ag96 (hF.ev rfl) (hc14) sz96) ?_; clear hF a; intro a hF
      refine wl_call hF rfl rfl rfl (r_callv1 hen (hF.ev rfl) (hF.ev rfl)) (hf _ x hS.old) ?_; clear hF a; rintro v w1 a ⟨rfl, hB_⟩ hF; replace hS := hS.ext hB_; clear hB_
      refine wl_nil ?_
      refine hK8 _ _ ?_
      first | refine wc_dec (hF.ev rfl) (fun c16 => ?_) (fun c16 => ?_) | refine wc_ndec (hF.ev rfl) (fun c16 => ?_) (fun c16 => ?_) | refine wc_b (hF.ev rfl) (fun c16 => ?_) (fun c16 => ?_)
      ·
        refine wp_seq_k fun K9 hK9 => ?_
        refine wp_region_lit ?_
        refine wl hF rfl rfl rfl (r_move (hF.ev rfl)) ?_; clear hF a; intro a hF
        refine wl hF rfl rfl rfl (r_assign (hF.ev rfl)) ?_; clear hF a; intro a hF
        refine wl_nil ?_
        refine hK9 _ _ ?_
        refine wp_ret ?_
        try simp only [Exit.then, Exit.inBlock, ↓reduceIte]
        first | exact ret1 rfl hF rfl ⟨⟨_, rfl, ⟨fun _ => any_at hx c16, fun _ => by omega⟩⟩, hS.old⟩ | exact ret1 rfl hF rfl ⟨⟨_, rfl, ⟨fun h => absurd h (by omega), fun h => absurd h (by rw [any_all hn hk (by assumption)]; decide)⟩⟩, hS.old⟩
      ·
        refine wp_skip ?_
        simp only [Exit.then, Exit.inBlock, ↓reduceIte]
        refine hK6 _ _ ?_
        refine wp_region_lit ?_
        refine wl hF rfl rfl rfl (r_add (hF.ev rfl) ec) ?_; clear hF a; intro a hF
        refine wl hF rfl rfl rfl (r_move (hF.ev rfl)) ?_; clear hF a; intro a hF
        refine wl_nil ?_
        try simp only [Exit.then, Exit.inBlock, ↓reduceIte]
        exact ⟨k + 1, ⟨by omega, any_next hn hx c16, hS, ((((hF.nil.keep hF (t := 0) rfl).keep hF (t := 1) rfl).keep hF (t := 7) rfl).keepE hF (t := 8) rfl (wk (by omega)))⟩, by omega⟩
    ·
      refine wp_exit ?_
      simp only [Exit.then, Exit.inBlock, ↓reduceIte]
      refine hK2 _ _ ?_
      refine wp_seq_k fun K10 hK10 => ?_
      refine wp_region_lit ?_
      refine wl hF rfl rfl rfl (r_assign ec) ?_; clear hF a; intro a hF
      refine wl_nil ?_
      refine hK10 _ _ ?_
      refine wp_ret ?_
      try simp only [Exit.then, Exit.inBlock, ↓reduceIte]
      first | exact ret1 rfl hF rfl ⟨⟨_, rfl, ⟨fun _ => any_at hx c16, fun _ => by omega⟩⟩, hS.old⟩ | exact ret1 rfl hF rfl ⟨⟨_, rfl, ⟨fun h => absurd h (by omega), fun h => absurd h (by rw [any_all hn hk (by assumption)]; decide)⟩⟩, hS.old⟩

set_option maxHeartbeats 4000000 in
set_option maxRecDepth 20000 in
theorem containsFuncE_c {W : World} {va : Value} {xs : List Entry} {f : FuncId} {cap : Array Value} {p : Entry → Bool} (ha : entryEK.Rd W va xs) (hen : enterB Try.prog f = true) (hf : ∀ (w : World) (x : Entry), Below W.heap.size W w → Calls Try.prog f (#[.agg x.enc.toArray] ++ cap) w (Ret fun v w' => v = .bool (p x) ∧ Below w.heap.size w w')) : Calls Try.prog 63 #[va, .func (.func f) #[] cap] W (Ret fun v w' => v = .bool (xs.any p) ∧ Below W.heap.size W w') := by
  refine calls_fr Try.func63 rfl Try.ntmps63 rfl ?_
  intro a hF
  have hS := Sep.refl W
  refine wp_seq_k fun K1 hK1 => ?_
  refine wp_region_lit ?_
  refine wl hF rfl rfl rfl (r_assign ec) ?_; clear hF a; intro a hF
  refine wl_nil ?_
  refine hK1 _ _ ?_
  refine wp_seq_k fun K2 hK2 => ?_
  refine wp_region_lit ?_
  refine wl hF rfl rfl rfl (r_move (hF.ev rfl)) ?_; clear hF a; intro a hF
  refine wl hF rfl rfl rfl (r_move (hF.ev rfl)) ?_; clear hF a; intro a hF
  refine wl_call hF rfl rfl rfl (r_call2 en97 (hF.ev rfl) (hF.ev rfl)) (indexFuncE_c (hS.rd ha) hen hf) ?_; clear hF a; rintro v w1 a ⟨⟨j, rfl, hj⟩, hB_⟩ hF; replace hS := hS.ext hB_; clear hB_
  refine wl hF rfl rfl rfl (r_geq (hF.ev rfl) ec) ?_; clear hF a; intro a hF
  refine wl hF rfl rfl rfl (r_assign (hF.ev rfl)) ?_; clear hF a; intro a hF
  refine wl_nil ?_
  refine hK2 _ _ ?_
  refine wp_ret ?_
  try simp only [Exit.then, Exit.inBlock, ↓reduceIte]
  refine ret1 rfl hF rfl ⟨congrArg Value.bool ?_, hS.old⟩
  cases hb : xs.any p with
  | true => exact decide_eq_true (hj.2 hb)
  | false => exact decide_eq_false (fun h => by rw [hj.1 h] at hb; cases hb)

set_option maxHeartbeats 4000000 in
set_option maxRecDepth 20000 in
theorem mustFlush1_c {W : World} {t : Thread} {v0 v1 v2 v3 v4 : Value} {g : Nat} {x : Entry} (hc : ∀ j u, (t.encv v0 v1 v2 v3 v4)[j]? = some u → W.cell? ⟨g, 0 + j, none⟩ = some u) : Calls Try.prog 64 #[.agg x.enc.toArray, .pointer (some ⟨g, 0, none⟩)] W (Ret fun v w' => v = .bool (decide (x.key = t.op.key)) ∧ Below W.heap.size W w') := by
  refine calls_fr Try.func64 rfl Try.ntmps64 rfl ?_
  intro a hF
  have hS := Sep.refl W
  refine wp_seq_k fun K1 hK1 => ?_
  refine wp_region_lit ?_
  refine wl_box (cs := [_, _, _, _]) hF hS rfl (hF.ev rfl) rfl ?_; clear hF a; intro g1 w1 a hS_ hB_ hF; replace hS := hS_; clear hS_ hB_
  refine wl hF rfl rfl rfl (r_assign ec) ?_; clear hF a; intro a hF
  refine wl_nil ?_
  refine hK1 _ _ ?_
  refine wp_seq_k fun K2 hK2 => ?_
  refine wp_region_lit ?_
  refine wl hF rfl rfl rfl (r_field fo96_1 (hF.ev rfl)) ?_; clear hF a; intro a hF
  refine wl hF rfl rfl rfl (r_load1 sc3 (hF.ev rfl) (hS.box (i := 0) rfl rfl)) ?_; clear hF a; intro a hF
  refine wl hF rfl rfl rfl (r_field fo47_1 (hF.ev rfl)) ?_; clear hF a; intro a hF
  refine wl hF rfl rfl rfl (r_field fo43_1 (hF.ev rfl)) ?_; clear hF a; intro a hF
  refine wl hF rfl rfl rfl (r_load1 sc3 (hF.ev rfl) (cellB hS.old (hc 2 _ rfl))) ?_; clear hF a; intro a hF
  refine wl hF rfl rfl rfl (r_eql (hF.ev rfl) (hF.ev rfl)) ?_; clear hF a; intro a hF
  refine wl hF rfl rfl rfl (r_assign (hF.ev rfl)) ?_; clear hF a; intro a hF
  refine wl_nil ?_
  refine hK2 _ _ ?_
  refine wp_ret ?_
  try simp only [Exit.then, Exit.inBlock, ↓reduceIte]
  exact ret1 rfl hF rfl ⟨rfl, hS.old⟩

set_option maxHeartbeats 4000000 in
set_option maxRecDepth 20000 in
theorem specMustFlush_c {W : World} {c : Config} {t : Thread} {cs : List Value} (hm : threadEK.K W t cs) : Calls Try.prog 18 #[.agg c.enc.toArray, .agg cs.toArray] W (Ret fun v w' => v = .bool (mustFlush c t) ∧ Below W.heap.size W w') := by
  refine calls_fr Try.func18 rfl Try.ntmps18 rfl ?_
  intro a hF
  have hS := Sep.refl W
  obtain ⟨v0, v1, v2, v3, v4, rfl, r0, r1, r2, r3, r4⟩ := hm
  obtain ⟨A_b, q_b, rfl, hq_b, hn_b⟩ := r2.sl; unfold maxLen at hn_b
  refine wp_seq_k fun K1 hK1 => ?_
  refine wp_region_lit ?_
  refine wl_box (cs := [_, _, _, _, _, _]) hF hS rfl (hF.ev rfl) rfl ?_; clear hF a; intro g1 w1 a hS_ hB_ hF; replace hS := hS_; clear hS_ hB_
  refine wl_box (cs := [_, _, _, _, _, _, _, _, _, _, _, _, _, _, _, _, _, _, _]) hF hS rfl (hF.ev rfl) rfl ?_; clear hF a; intro g2 w2 a hS_ hB_ hF; replace hS := hS_; clear hS_ hB_
  refine wl hF rfl rfl rfl (r_assign ec) ?_; clear hF a; intro a hF
  refine wl_nil ?_
  refine hK1 _ _ ?_
  refine wp_seq_k fun K2 hK2 => ?_
  refine wp_seq_k fun K3 hK3 => ?_
  refine wp_region_lit ?_
  refine wl hF rfl rfl rfl (r_loadn ag29 (hF.ev rfl) (hS.box_rd (i := 1) rfl) sz29) ?_; clear hF a; intro a hF
  refine wl_call hF rfl rfl rfl (r_call1 en53 (hF.ev rfl)) (specIsConfig_c _) ?_; clear hF a; rintro v w3 a ⟨rfl, hB_⟩ hF; replace hS := hS.ext hB_; clear hB_
  refine wl hF rfl rfl rfl (r_not (hF.ev rfl)) ?_; clear hF a; intro a hF
  refine wl_nil ?_
  refine hK3 _ _ ?_
  revert hF; intro hF0; refine wc_fx (t := 8) hF0 rfl (fun c8 hF => ?_) (fun c8 hF => ?_)
  ·
    clear hF0; try simp only [Bool.not_eq_true', Bool.not_eq_false', Bool.or_eq_true, Bool.and_eq_true, Bool.or_eq_false_iff, Bool.and_eq_false_iff, Bool.not_eq_eq_eq_not, Bool.not_true, Bool.not_false, decide_eq_true_eq, decide_eq_false_iff_not] at c8
    refine wp_seq_k fun K4 hK4 => ?_
    refine wp_region_lit ?_
    refine wl hF rfl rfl rfl (r_assign ec) ?_; clear hF a; intro a hF
    refine wl_nil ?_
    refine hK4 _ _ ?_
    refine wp_ret ?_
    try simp only [Exit.then, Exit.inBlock, ↓reduceIte]
    refine ret1 rfl hF rfl ⟨congrArg Value.bool (Eq.symm ?_), hS.old⟩
    first
      | exact mf_1 c8
      | exact mf_2 c8 c11
      | exact (mf_3 c8 c11).trans (any_at (at0_nat (by omega)) (decide_eq_true c34))
      | exact (mf_3 c8 c11).trans (any_all hn hk (by omega))
  ·
    clear hF0; try simp only [Bool.not_eq_true', Bool.not_eq_false', Bool.or_eq_true, Bool.and_eq_true, Bool.or_eq_false_iff, Bool.and_eq_false_iff, Bool.not_eq_eq_eq_not, Bool.not_true, Bool.not_false, decide_eq_true_eq, decide_eq_false_iff_not] at c8
    refine wp_skip ?_
    refine hK2 _ _ ?_
    refine wp_seq_k fun K5 hK5 => ?_
    refine wp_seq_k fun K6 hK6 => ?_
    refine wp_region_lit ?_
    refine wl hF rfl rfl rfl (r_field fo29_4 (hF.ev rfl)) ?_; clear hF a; intro a hF
    refine wl hF rfl rfl rfl (r_load1 sc3 (hF.ev rfl) (hS.box (i := 1) rfl rfl)) ?_; clear hF a; intro a hF
    refine wl hF rfl rfl rfl (r_neq (hF.ev rfl) ec) ?_; clear hF a; intro a hF
    refine wl_nil ?_
    refine hK6 _ _ ?_
    revert hF; intro hF0; refine wc_fx (t := 11) hF0 rfl (fun c11 hF => ?_) (fun c11 hF => ?_)
    ·
      clear hF0; try simp only [Bool.not_eq_true', Bool.not_eq_false', Bool.or_eq_true, Bool.and_eq_true, Bool.or_eq_false_iff, Bool.and_eq_false_iff, Bool.not_eq_eq_eq_not, Bool.not_true, Bool.not_false, decide_eq_true_eq, decide_eq_false_iff_not] at c11
      refine wp_seq_k fun K7 hK7 => ?_
      refine wp_region_lit ?_
      refine wl hF rfl rfl rfl (r_field fo47_13 (hF.ev rfl)) ?_; clear hF a; intro a hF
      refine wl hF rfl rfl rfl (r_load1 sc45 (hF.ev rfl) (hS.box (i := 0) rfl rfl)) ?_; clear hF a; intro a hF
      refine wl hF rfl rfl rfl (r_len ul45 (hF.ev rfl)) ?_; clear hF a; intro a hF
      refine wl hF rfl rfl rfl (r_field fo29_3 (hF.ev rfl)) ?_; clear hF a; intro a hF
      refine wl hF rfl rfl rfl (r_load1 sc3 (hF.ev rfl) (hS.box (i := 1) rfl rfl)) ?_; clear hF a; intro a hF
      refine wl hF rfl rfl rfl (r_geq (hF.ev rfl) (hF.ev rfl)) ?_; clear hF a; intro a hF
      refine wl hF rfl rfl rfl (r_assign (hF.ev rfl)) ?_; clear hF a; intro a hF
      refine wl_nil ?_
      refine hK7 _ _ ?_
      refine wp_ret ?_
      try simp only [Exit.then, Exit.inBlock, ↓reduceIte]
      refine ret1 rfl hF rfl ⟨congrArg Value.bool (Eq.symm ?_), hS.old⟩
      first
        | exact mf_1 c8
        | exact mf_2 c8 c11
        | exact (mf_3 c8 c11).trans (any_at (at0_nat (by omega)) (decide_eq_true c34))
        | exact (mf_3 c8 c11).trans (any_all hn hk (by omega))
    ·
      clear hF0; try simp only [Bool.not_eq_true', Bool.not_eq_false', Bool.or_eq_true, Bool.and_eq_true, Bool.or_eq_false_iff, Bool.and_eq_false_iff, Bool.not_eq_eq_eq_not, Bool.not_true, Bool.not_false, decide_eq_true_eq, decide_eq_false_iff_not] at c11
      refine wp_skip ?_
      refine hK5 _ _ ?_
      refine wp_seq_k fun K8 hK8 => ?_
      refine wp_seq_k fun K9 hK9 => ?_
      refine wp_region_lit ?_
      refine wl hF rfl rfl rfl (r_assign ec) ?_; clear hF a; intro a hF
      refine wl_nil ?_
      refine hK9 _ _ ?_
      refine wp_block ?_
      have hL_ := ((hF.nil.keep hF (t := 4) rfl).keep hF (t := 3) rfl)
      refine wp_loop_r (σ := Nat) (fun k L_ => (5, vi k) :: L_) (fun k => (k ≤ t.buffer.length) ∧ ((t.buffer.take k).any (fun e => decide (e.key = t.op.key)) = false)) (fun k => t.buffer.length - k) 0 hS (hL_.keepE hF (t := 5) rfl rfl) ?_ ?_
      · exact ⟨Nat.zero_le _, by simp⟩
      ·
        clear hF hS hL_ a
        rintro k a w4 ⟨hk, hn⟩ hS hF; try dsimp only at hF; try dsimp only at hS
        refine wp_seq_k fun K10 hK10 => ?_
        refine wp_seq_k fun K11 hK11 => ?_
        refine wp_region_lit ?_
        refine wl hF rfl rfl rfl (r_move (hF.ev rfl)) ?_; clear hF a; intro a hF
        refine wl hF rfl rfl rfl (r_field fo47_13 (hF.ev rfl)) ?_; clear hF a; intro a hF
        refine wl hF rfl rfl rfl (r_load1 sc45 (hF.ev rfl) (hS.box (i := 0) rfl rfl)) ?_; clear hF a; intro a hF
        refine wl hF rfl rfl rfl (r_len ul45 (hF.ev rfl)) ?_; clear hF a; intro a hF
        refine wl hF rfl rfl rfl (r_lss (hF.ev rfl) (hF.ev rfl)) ?_; clear hF a; intro a hF
        refine wl_nil ?_
        refine hK11 _ _ ?_
        revert hF; intro hF0; refine wc_fx (t := 22) hF0 rfl (fun c22 hF => ?_) (fun c22 hF => ?_)
        ·
          clear hF0; try simp only [Bool.not_eq_true', Bool.not_eq_false', Bool.or_eq_true, Bool.and_eq_true, Bool.or_eq_false_iff, Bool.and_eq_false_iff, Bool.not_eq_eq_eq_not, Bool.not_true, Bool.not_false, decide_eq_true_eq, decide_eq_false_iff_not] at c22
          refine wp_skip ?_
          refine hK10 _ _ ?_
          refine wp_seq_k fun K12 hK12 => ?_
          refine wp_block ?_
          refine wp_seq_k fun K13 hK13 => ?_
          refine wp_region_calm (by kernel_rfl) (by kernel_rfl) ?_
          refine wq hF rfl rfl rfl (fun w_ hB_ => r_field fo47_13 (hF.ev rfl)) ?_; clear hF a; intro a hF
          refine wq hF rfl rfl rfl (fun w_ hB_ => r_load1 sc45 (hF.ev rfl) ((hS.ext hB_).box (i := 0) rfl rfl)) ?_; clear hF a; intro a hF
          refine wq hF rfl rfl rfl (fun w_ hB_ => r_move (hF.ev rfl)) ?_; clear hF a; intro a hF
          obtain ⟨g28, o28, m28, q28, hv28, hm28, hl28, hc28⟩ := Rd.atF (r2) (a := a) (X := .tmp 27) (hF.ev rfl) (by omega) (by omega)
          refine wq hF rfl rfl rfl (fun w_ hB_ => r_index sl45 ((hF.ev rfl).trans hv28) (hF.ev rfl) (by omega) (by omega)) ?_; clear hF a; intro a hF
          refine wq hF rfl rfl rfl (fun w_ hB_ => r_field fo96_1 (hF.ev rfl)) ?_; clear hF a; intro a hF
          refine wq hF rfl rfl rfl (fun w_ hB_ => r_load1 sc3 (hF.ev rfl) (cellB (hS.ext hB_).old (hc28 1 _ rfl))) ?_; clear hF a; intro a hF
          refine wq hF rfl rfl rfl (fun w_ hB_ => r_field fo47_1 (hF.ev rfl)) ?_; clear hF a; intro a hF
          refine wq hF rfl rfl rfl (fun w_ hB_ => r_field fo43_1 (hF.ev rfl)) ?_; clear hF a; intro a hF
          refine wq hF rfl rfl rfl (fun w_ hB_ => r_load1 sc3 (hF.ev rfl) ((hS.ext hB_).box (i := 0) rfl rfl)) ?_; clear hF a; intro a hF
          refine wq hF rfl rfl rfl (fun w_ hB_ => r_eql (hF.ev rfl) (hF.ev rfl)) ?_; clear hF a; intro a hF
          refine wpQuiet_nil ?_; intro w5 hB_; replace hS := hS.ext hB_; clear hB_
          refine hK13 _ _ ?_
          revert hF; intro hF0; refine wc_fx (t := 34) hF0 rfl (fun c34 hF => ?_) (fun c34 hF => ?_)
          ·
            clear hF0; try simp only [Bool.not_eq_true', Bool.not_eq_false', Bool.or_eq_true, Bool.and_eq_true, Bool.or_eq_false_iff, Bool.and_eq_false_iff, Bool.not_eq_eq_eq_not, Bool.not_true, Bool.not_false, decide_eq_true_eq, decide_eq_false_iff_not] at c34
            refine wp_seq_k fun K14 hK14 => ?_
            refine wp_region_lit ?_
            refine wl hF rfl rfl rfl (r_assign ec) ?_; clear hF a; intro a hF
            refine wl_nil ?_
            refine hK14 _ _ ?_
            refine wp_ret ?_
            try simp only [Exit.then, Exit.inBlock, ↓reduceIte]
            refine ret1 rfl hF rfl ⟨congrArg Value.bool (Eq.symm ?_), hS.old⟩
            first
              | exact mf_1 c8
              | exact mf_2 c8 c11
              | exact (mf_3 c8 c11).trans (any_at (at0_nat (by omega)) (decide_eq_true c34))
              | exact (mf_3 c8 c11).trans (any_all hn hk (by omega))
          ·
            clear hF0; try simp only [Bool.not_eq_true', Bool.not_eq_false', Bool.or_eq_true, Bool.and_eq_true, Bool.or_eq_false_iff, Bool.and_eq_false_iff, Bool.not_eq_eq_eq_not, Bool.not_true, Bool.not_false, decide_eq_true_eq, decide_eq_false_iff_not] at c34
            refine wp_skip ?_
            simp only [Exit.then, Exit.inBlock, ↓reduceIte]
            refine hK12 _ _ ?_
            refine wp_region_lit ?_
            refine wl hF rfl rfl rfl (r_move (hF.ev rfl)) ?_; clear hF a; intro a hF
            refine wl hF rfl rfl rfl (r_add (hF.ev rfl) ec) ?_; clear hF a; intro a hF
            refine wl hF rfl rfl rfl (r_assign (hF.ev rfl)) ?_; clear hF a; intro a hF
            refine wl_nil ?_
            try simp only [Exit.then, Exit.inBlock, ↓reduceIte]
            refine ⟨k + 1, ⟨by omega, any_next hn (at0_nat (by omega)) (decide_eq_false c34)⟩, hS, (((hF.nil.keep hF (t := 4) rfl).keep hF (t := 3) rfl).keepE hF (t := 5) rfl (wk (by omega))), by omega⟩
        ·
          clear hF0; try simp only [Bool.not_eq_true', Bool.not_eq_false', Bool.or_eq_true, Bool.and_eq_true, Bool.or_eq_false_iff, Bool.and_eq_false_iff, Bool.not_eq_eq_eq_not, Bool.not_true, Bool.not_false, decide_eq_true_eq, decide_eq_false_iff_not] at c22
          refine wp_exit ?_
          simp only [Exit.then, Exit.inBlock, ↓reduceIte]
          refine hK8 _ _ ?_
          refine wp_seq_k fun K15 hK15 => ?_
          refine wp_region_lit ?_
          refine wl hF rfl rfl rfl (r_assign ec) ?_; clear hF a; intro a hF
          refine wl_nil ?_
          refine hK15 _ _ ?_
          refine wp_ret ?_
          try simp only [Exit.then, Exit.inBlock, ↓reduceIte]
          refine ret1 rfl hF rfl ⟨congrArg Value.bool (Eq.symm ?_), hS.old⟩
          first
            | exact mf_1 c8
            | exact mf_2 c8 c11
            | exact (mf_3 c8 c11).trans (any_at (at0_nat (by omega)) (decide_eq_true c34))
            | exact (mf_3 c8 c11).trans (any_all hn hk (by omega))

set_option maxHeartbeats 4000000 in
set_option maxRecDepth 20000 in
theorem implMustFlush_c {W : World} {c : Config} {t : Thread} {cs : List Value} (hm : threadEK.K W t cs) : Calls Try.prog 20 #[.agg c.enc.toArray, .agg cs.toArray] W (Ret fun v w' => v = .bool (mustFlush c t) ∧ Below W.heap.size W w') := by
  refine calls_fr Try.func20 rfl Try.ntmps20 rfl ?_
  intro a hF
  have hS := Sep.refl W
  obtain ⟨v0, v1, v2, v3, v4, rfl, r0, r1, r2, r3, r4⟩ := hm
  obtain ⟨A_b, q_b, rfl, hq_b, hn_b⟩ := r2.sl; unfold maxLen at hn_b
  refine wp_seq_k fun K1 hK1 => ?_
  refine wp_region_lit ?_
  refine wl_box (cs := [_, _, _, _, _, _]) hF hS rfl (hF.ev rfl) rfl ?_; clear hF a; intro g1 w1 a hS_ hB_ hF; replace hS := hS_; clear hS_ hB_
  refine wl_box (cs := [_, _, _, _, _, _, _, _, _, _, _, _, _, _, _, _, _, _, _]) hF hS rfl (hF.ev rfl) rfl ?_; clear hF a; intro g2 w2 a hS_ hB_ hF; replace hS := hS_; clear hS_ hB_
  refine wl hF rfl rfl rfl (r_assign ec) ?_; clear hF a; intro a hF
  refine wl_nil ?_
  refine hK1 _ _ ?_
  refine wp_seq_k fun K2 hK2 => ?_
  refine wp_seq_k fun K3 hK3 => ?_
  refine wp_region_lit ?_
  refine wl hF rfl rfl rfl (r_loadn ag29 (hF.ev rfl) (hS.box_rd (i := 1) rfl) sz29) ?_; clear hF a; intro a hF
  refine wl_call hF rfl rfl rfl (r_call1 en54 (hF.ev rfl)) (implIsConfig_c _) ?_; clear hF a; rintro v w3 a ⟨rfl, hB_⟩ hF; replace hS := hS.ext hB_; clear hB_
  refine wl hF rfl rfl rfl (r_not (hF.ev rfl)) ?_; clear hF a; intro a hF
  refine wl_nil ?_
  refine hK3 _ _ ?_
  revert hF; intro hF0; refine wc_fx (t := 7) hF0 rfl (fun c7 hF => ?_) (fun c7 hF => ?_)
  ·
    clear hF0; try simp only [Bool.not_eq_true', Bool.not_eq_false', Bool.or_eq_true, Bool.and_eq_true, Bool.or_eq_false_iff, Bool.and_eq_false_iff, Bool.not_eq_eq_eq_not, Bool.not_true, Bool.not_false, decide_eq_true_eq, decide_eq_false_iff_not] at c7
    refine wp_seq_k fun K4 hK4 => ?_
    refine wp_region_lit ?_
    refine wl hF rfl rfl rfl (r_assign ec) ?_; clear hF a; intro a hF
    refine wl_nil ?_
    refine hK4 _ _ ?_
    refine wp_ret ?_
    try simp only [Exit.then, Exit.inBlock, ↓reduceIte]
    refine ret1 rfl hF rfl ⟨congrArg Value.bool (Eq.symm ?_), hS.old⟩
    first
      | exact mf_1 c7
      | exact mf_3 c7 c10
      | exact mf_2 c7 c10
  ·
    clear hF0; try simp only [Bool.not_eq_true', Bool.not_eq_false', Bool.or_eq_true, Bool.and_eq_true, Bool.or_eq_false_iff, Bool.and_eq_false_iff, Bool.not_eq_eq_eq_not, Bool.not_true, Bool.not_false, decide_eq_true_eq, decide_eq_false_iff_not] at c7
    refine wp_skip ?_
    refine hK2 _ _ ?_
    refine wp_seq_k fun K5 hK5 => ?_
    refine wp_seq_k fun K6 hK6 => ?_
    refine wp_region_lit ?_
    refine wl hF rfl rfl rfl (r_field fo29_4 (hF.ev rfl)) ?_; clear hF a; intro a hF
    refine wl hF rfl rfl rfl (r_load1 sc3 (hF.ev rfl) (hS.box (i := 1) rfl rfl)) ?_; clear hF a; intro a hF
    refine wl hF rfl rfl rfl (r_eql (hF.ev rfl) ec) ?_; clear hF a; intro a hF
    refine wl_nil ?_
    refine hK6 _ _ ?_
    revert hF; intro hF0; refine wc_fx (t := 10) hF0 rfl (fun c10 hF => ?_) (fun c10 hF => ?_)
    ·
      clear hF0; try simp only [Bool.not_eq_true', Bool.not_eq_false', Bool.or_eq_true, Bool.and_eq_true, Bool.or_eq_false_iff, Bool.and_eq_false_iff, Bool.not_eq_eq_eq_not, Bool.not_true, Bool.not_false, decide_eq_true_eq, decide_eq_false_iff_not] at c10
      refine wp_seq_k fun K7 hK7 => ?_
      refine wp_region_lit ?_
      refine wl hF rfl rfl rfl (r_field fo47_13 (hF.ev rfl)) ?_; clear hF a; intro a hF
      refine wl hF rfl rfl rfl (r_load1 sc45 (hF.ev rfl) (hS.box (i := 0) rfl rfl)) ?_; clear hF a; intro a hF
      refine wl hF rfl rfl rfl (r_makeFunc (by simp only [List.map_toArray, List.map_cons, List.map_nil]; rw [hF.ev rfl])) ?_; clear hF a; intro a hF
      refine wl_call hF rfl rfl rfl (r_call2 en63 (hF.ev rfl) (hF.ev rfl)) (containsFuncE_c (p := fun e => decide (e.key = t.op.key)) (cap := #[.pointer (some ⟨g2, 0, none⟩)]) (hS.rd r2) (by kernel_rfl) (fun w_ x hB => by rw [app_one]; exact mustFlush1_c (fun j u hu => cellB hB (hS.box_rd (i := 0) rfl j u hu)))) ?_; clear hF a; rintro v w4 a ⟨rfl, hB_⟩ hF; replace hS := hS.ext hB_; clear hB_
      refine wl hF rfl rfl rfl (r_assign (hF.ev rfl)) ?_; clear hF a; intro a hF
      refine wl_nil ?_
      refine hK7 _ _ ?_
      refine wp_ret ?_
      try simp only [Exit.then, Exit.inBlock, ↓reduceIte]
      refine ret1 rfl hF rfl ⟨congrArg Value.bool (Eq.symm ?_), hS.old⟩
      first
        | exact mf_1 c7
        | exact mf_3 c7 c10
        | exact mf_2 c7 c10
    ·
      clear hF0; try simp only [Bool.not_eq_true', Bool.not_eq_false', Bool.or_eq_true, Bool.and_eq_true, Bool.or_eq_false_iff, Bool.and_eq_false_iff, Bool.not_eq_eq_eq_not, Bool.not_true, Bool.not_false, decide_eq_true_eq, decide_eq_false_iff_not] at c10
      refine wp_skip ?_
      refine hK5 _ _ ?_
      refine wp_seq_k fun K8 hK8 => ?_
      refine wp_region_lit ?_
      refine wl hF rfl rfl rfl (r_field fo47_13 (hF.ev rfl)) ?_; clear hF a; intro a hF
      refine wl hF rfl rfl rfl (r_load1 sc45 (hF.ev rfl) (hS.box (i := 0) rfl rfl)) ?_; clear hF a; intro a hF
      refine wl hF rfl rfl rfl (r_len ul45 (hF.ev rfl)) ?_; clear hF a; intro a hF
      refine wl hF rfl rfl rfl (r_field fo29_3 (hF.ev rfl)) ?_; clear hF a; intro a hF
      refine wl hF rfl rfl rfl (r_load1 sc3 (hF.ev rfl) (hS.box (i := 1) rfl rfl)) ?_; clear hF a; intro a hF
      refine wl hF rfl rfl rfl (r_geq (hF.ev rfl) (hF.ev rfl)) ?_; clear hF a; intro a hF
      refine wl hF rfl rfl rfl (r_assign (hF.ev rfl)) ?_; clear hF a; intro a hF
      refine wl_nil ?_
      refine hK8 _ _ ?_
      refine wp_ret ?_
      try simp only [Exit.then, Exit.inBlock, ↓reduceIte]
      refine ret1 rfl hF rfl ⟨congrArg Value.bool (Eq.symm ?_), hS.old⟩
      first
        | exact mf_1 c7
        | exact mf_3 c7 c10
        | exact mf_2 c7 c10

set_option maxHeartbeats 4000000 in
set_option maxRecDepth 20000 in
theorem law_FnExactMustFlush {W : World} {c : Config} {t : Thread} {cs : List Value} (hm : threadEK.K W t cs) : Calls Try.prog 4 #[.agg c.enc.toArray, .agg cs.toArray] W (Ret fun v w' => v = .bool true ∧ Below W.heap.size W w') := by
  refine calls_fr Try.func4 rfl Try.ntmps4 rfl ?_
  intro a hF
  have hS := Sep.refl W
  obtain ⟨v0, v1, v2, v3, v4, rfl, r0, r1, r2, r3, r4⟩ := hm
  have hm : threadEK.K W t (t.encv v0 v1 v2 v3 v4) := ⟨_, _, _, _, _, rfl, r0, r1, r2, r3, r4⟩
  refine wp_seq_k fun K1 hK1 => ?_
  refine wp_region_lit ?_
  refine wl_box (cs := [_, _, _, _, _, _]) hF hS rfl (hF.ev rfl) rfl ?_; clear hF a; intro g1 w1 a hS_ hB_ hF; replace hS := hS_; clear hS_ hB_
  refine wl_box (cs := [_, _, _, _, _, _, _, _, _, _, _, _, _, _, _, _, _, _, _]) hF hS rfl (hF.ev rfl) rfl ?_; clear hF a; intro g2 w2 a hS_ hB_ hF; replace hS := hS_; clear hS_ hB_
  refine wl hF rfl rfl rfl (r_assign ec) ?_; clear hF a; intro a hF
  refine wl_nil ?_
  refine hK1 _ _ ?_
  refine wp_seq_k fun K2 hK2 => ?_
  refine wp_region_lit ?_
  refine wl hF rfl rfl rfl (r_assign ec) ?_; clear hF a; intro a hF
  refine wl_nil ?_
  refine hK2 _ _ ?_
  refine wp_seq_k fun K3 hK3 => ?_
  refine wp_region_lit ?_
  refine wl hF rfl rfl rfl (r_loadn ag40 (hF.ev rfl) (hS.box_rd (i := 0) rfl) sz40) ?_; clear hF a; intro a hF
  refine wl hF rfl rfl rfl (r_move (hF.ev rfl)) ?_; clear hF a; intro a hF
  refine wl_call hF rfl rfl rfl (r_call2 en17 (hF.ev rfl) (hF.ev rfl)) (szThread_c (hS.k hm) (by omega) (by omega)) ?_; clear hF a; rintro v w3 a ⟨⟨r11, rfl, e1_11, e2_11, e3_11⟩, hB_⟩ hF; replace hS := hS.ext hB_; clear hB_
  refine wl hF rfl rfl rfl (r_assign (hF.ev rfl)) ?_; clear hF a; intro a hF
  refine wl_nil ?_
  refine hK3 _ _ ?_
  refine wp_seq_k fun K4 hK4 => ?_
  refine wp_seq_k fun K5 hK5 => ?_
  refine wp_region_lit ?_
  refine wl hF rfl rfl rfl (r_move (hF.ev rfl)) ?_; clear hF a; intro a hF
  refine wl hF rfl rfl rfl (r_lss (hF.ev rfl) ec) ?_; clear hF a; intro a hF
  refine wl_nil ?_
  refine hK5 _ _ ?_
  first | refine wc_dec (hF.ev rfl) (fun c13 => ?_) (fun c13 => ?_) | refine wc_ndec (hF.ev rfl) (fun c13 => ?_) (fun c13 => ?_) | refine wc_b (hF.ev rfl) (fun c13 => ?_) (fun c13 => ?_)
  ·
    refine wp_seq_k fun K6 hK6 => ?_
    refine wp_region_lit ?_
    refine wl hF rfl rfl rfl (r_assign ec) ?_; clear hF a; intro a hF
    refine wl_nil ?_
    refine hK6 _ _ ?_
    refine wp_ret ?_
    try simp only [Exit.then, Exit.inBlock, ↓reduceIte]
    exact ret1 rfl hF rfl ⟨rfl, hS.old⟩
  ·
    refine wp_skip ?_
    refine hK4 _ _ ?_
    refine wp_seq_k fun K7 hK7 => ?_
    refine wp_region_todo (is := [0, 2, 1, 3, 4, 5]) [] [] (by kernel_rfl) hF hS ⟨trivial, by decide, by decide, by decide⟩ (by kernel_rfl) ?_; clear hF; intro hl_ wd hSd
    refine todo_quiet hl_ (by kernel_rfl) rfl rfl rfl rfl rfl (fun a w_ hF hB_ => r_loadn ag23 (hF.ev rfl) ((hSd.ext hB_).box_rd (i := 1) rfl) sz23) ?_
    refine todo_quiet hl_ (by kernel_rfl) rfl rfl rfl rfl rfl (fun a w_ hF hB_ => r_loadn ag40 (hF.ev rfl) ((hSd.ext hB_).box_rd (i := 0) rfl) sz40) ?_
    refine todo_rd hl_ rfl (by kernel_rfl) rfl rfl rfl rfl rfl (fun a w_ hF => r_call1 en12 (hF.ev rfl)) (fun w_ hS => toConfig_c _) ?_
    refine todo_mk hl_ rfl (by kernel_rfl) rfl rfl rfl rfl rfl (fun a w_ hF => r_call1 en19 (hF.ev rfl)) (fun w_ hS => toThread_c (hS.k hm) (by omega)) ?_; rintro vs17
    refine todo_rd hl_ rfl (by kernel_rfl) rfl rfl rfl rfl rfl (fun a w_ hF => r_call2 en18 (hF.ev rfl) (hF.ev rfl)) (fun w_ hS => specMustFlush_c (hS.part_k (i := 0) rfl)) ?_
    refine todo_pure hl_ (by kernel_rfl) rfl rfl rfl rfl rfl (fun a w_ hF => r_assign (hF.ev rfl)) ?_
    refine todo_fin hl_ rfl (by kernel_rfl) (tl := []) rfl ?_; clear hS a; intro a w4 hF hA_
    have hS := hA_.sep; clear hA_
    clear hl_; try clear hSd; try clear wd
    try dsimp only [List.cons_append, List.nil_append, List.set] at hS
    refine wl_nil ⟨rfl, ?_⟩
    refine hK7 _ _ ?_
    refine wp_seq_k fun K8 hK8 => ?_
    refine wp_region_lit ?_
    refine wl hF rfl rfl rfl (r_loadn ag40 (hF.ev rfl) (hS.box_rd (i := 1) rfl) sz40) ?_; clear hF a; intro a hF
    refine wl_mk hF hS rfl rfl rfl (r_call1 en19 (hF.ev rfl)) (toThread_c (hS.k hm) (by omega)) ?_; clear hF a; rintro vs20 w5 a hS_ hF; replace hS := hS_; clear hS_; dsimp only [List.cons_append, List.nil_append] at hS
    refine wl_alloc hF hS rfl zr47 ?_; clear hF a; intro g3 w6 a hS_ hB_ hF; replace hS := hS_; clear hS_ hB_
    refine wl_storew hF hS (i := 0) rfl (hF.ev rfl) (hF.ev rfl) sz47 rfl rfl ?_; intro w7 hS_; replace hS := hS_; clear hS_; dsimp only [List.set, Nat.reduceAdd] at hS
    refine wl_nil ?_
    refine hK8 _ _ ?_
    refine wp_seq_k fun K9 hK9 => ?_
    refine wp_region_calm (by kernel_rfl) (by kernel_rfl) ?_
    refine wq hF rfl rfl rfl (fun w_ hB_ => r_loadn ag23 (hF.ev rfl) ((hS.ext hB_).box_rd (i := 4) rfl) sz23) ?_; clear hF a; intro a hF
    refine wq_call hF rfl rfl rfl (fun w_ hB_ => r_call1 en12 (hF.ev rfl)) (fun w_ hB_ => toConfig_c _) ?_; clear hF a; intro a hF
    refine wq hF rfl rfl rfl (fun w_ hB_ => r_loadn ag47 (hF.ev rfl) ((hS.ext hB_).box_rd (i := 0) rfl) sz47) ?_; clear hF a; intro a hF
    refine wq_call hF rfl rfl rfl (fun w_ hB_ => r_call2 en20 (hF.ev rfl) (hF.ev rfl)) (fun w_ hB_ => implMustFlush_c ((hS.ext hB_).part_k (i := 1) rfl)) ?_; clear hF a; intro a hF
    refine wq hF rfl rfl rfl (fun w_ hB_ => r_assign (hF.ev rfl)) ?_; clear hF a; intro a hF
    refine wpQuiet_nil ?_; intro w8 hB_; replace hS := hS.ext hB_; clear hB_
    refine hK9 _ _ ?_
    refine wp_seq_k fun K10 hK10 => ?_
    refine wp_seq_k fun K11 hK11 => ?_
    refine wp_region_lit ?_
    refine wl hF rfl rfl rfl (r_move (hF.ev rfl)) ?_; clear hF a; intro a hF
    refine wl hF rfl rfl rfl (r_move (hF.ev rfl)) ?_; clear hF a; intro a hF
    refine wl hF rfl rfl rfl (r_neqb bl4 (hF.ev rfl) (hF.ev rfl)) ?_; clear hF a; intro a hF
    refine wl_nil ?_
    refine hK11 _ _ ?_
    first | refine wc_dec (hF.ev rfl) (fun c27 => ?_) (fun c27 => ?_) | refine wc_ndec (hF.ev rfl) (fun c27 => ?_) (fun c27 => ?_) | refine wc_b (hF.ev rfl) (fun c27 => ?_) (fun c27 => ?_)
    · exfalso; first | omega | exact (c27 rfl).elim | (simp_all; done)
    refine wp_skip ?_
    refine hK10 _ _ ?_
    refine wp_seq_k fun K12 hK12 => ?_
    refine wp_seq_k fun K13 hK13 => ?_
    refine wp_region_todo (is := [0, 1, 2, 3, 4]) [] [] (by kernel_rfl) hF hS ⟨trivial, by decide, by decide, by decide⟩ (by kernel_rfl) ?_; clear hF; intro hl_ wd hSd
    refine todo_quiet hl_ (by kernel_rfl) rfl rfl rfl rfl rfl (fun a w_ hF hB_ => r_loadn ag47 (hF.ev rfl) ((hSd.ext hB_).box_rd (i := 0) rfl) sz47) ?_
    refine todo_quiet hl_ (by kernel_rfl) rfl rfl rfl rfl rfl (fun a w_ hF hB_ => r_loadn ag40 (hF.ev rfl) ((hSd.ext hB_).box_rd (i := 3) rfl) sz40) ?_
    refine todo_mk hl_ rfl (by kernel_rfl) rfl rfl rfl rfl rfl (fun a w_ hF => r_call1 en19 (hF.ev rfl)) (fun w_ hS => toThread_c (hS.k hm) (by omega)) ?_; rintro vs30
    refine todo_rd hl_ rfl (by kernel_rfl) rfl rfl rfl rfl rfl (fun a w_ hF => r_call2 en21 (hF.ev rfl) (hF.ev rfl)) (fun w_ hS => eqThread_same (hS.part_k (i := 2) rfl) (hS.part_k (i := 0) rfl)) ?_
    refine todo_pure hl_ (by kernel_rfl) rfl rfl rfl rfl rfl (fun a w_ hF => r_not (hF.ev rfl)) ?_
    refine todo_fin hl_ rfl (by kernel_rfl) (tl := []) rfl ?_; clear hS a; intro a w9 hF hA_
    have hS := hA_.sep; clear hA_
    clear hl_; try clear hSd; try clear wd
    try dsimp only [List.cons_append, List.nil_append, List.set] at hS
    refine wl_nil ⟨rfl, ?_⟩
    refine hK13 _ _ ?_
    refine wc_false (hF.ev rfl) ?_
    refine wp_skip ?_
    refine hK12 _ _ ?_
    refine wp_seq_k fun K14 hK14 => ?_
    refine wp_region_lit ?_
    refine wl hF rfl rfl rfl (r_assign ec) ?_; clear hF a; intro a hF
    refine wl_nil ?_
    refine hK14 _ _ ?_
    refine wp_ret ?_
    try simp only [Exit.then, Exit.inBlock, ↓reduceIte]
    exact ret1 rfl hF rfl ⟨rfl, hS.old⟩

end Go.Proofs.Ytgpebcidogkofaa.Wk
