/- Walks: EqualModels, the reference's, the program's, and the law. -/
import Derived.Test.YteldnoimmjihoaaChecked
import Derived.Test.YteldnoimmjihoaaWkM
import Derived.Test.YteldnoimmjihoaaFactsF
namespace Go.Proofs.Yteldnoimmjihoaa.Wk
open Go Go.RowKit Sl
set_option linter.unusedVariables false
set_option linter.unusedSimpArgs false
set_option maxRecDepth 20000

theorem eq_rows {α : Type} {xs ys : List α} {k : Nat} (h : xs.take k = ys.take k) (hk : k ≤ xs.length) (hl : xs.length = ys.length) (h1 : ¬ (k : Int) < xs.length) : xs = ys := by
  have : k = xs.length := by omega
  subst this
  rw [List.take_length, hl, List.take_length] at h
  exact h
theorem eqModel_same {W : World} {x : Model} {cs ds : List Value} (hx : modelEK.K W x cs) (hy : modelEK.K W x ds) : Calls Try.prog 14 #[.agg cs.toArray, .agg ds.toArray] W (Ret fun v w' => v = .bool true ∧ Below W.heap.size W w') := by
  refine (eqModel_c hx hy).mono ?_
  rintro e w' ⟨v, rfl, rfl, hb⟩
  exact ⟨_, rfl, by simp, hb⟩

set_option maxHeartbeats 4000000 in
set_option maxRecDepth 20000 in
theorem sliceEq_c {W : World} {va vb : Value} {xs ys : List Int} (ha : intEK.Rd W va xs) (hb : intEK.Rd W vb ys) : Calls Try.prog 71 #[va, vb] W (Ret fun v w' => v = .bool (decide (xs = ys)) ∧ Below W.heap.size W w') := by
  refine calls_fr Try.func71 rfl Try.ntmps71 rfl ?_
  intro a hF
  obtain ⟨A_a, q_a, rfl, hq_a, hn_a⟩ := ha.sl; unfold maxLen at hn_a
  obtain ⟨A_b, q_b, rfl, hq_b, hn_b⟩ := hb.sl; unfold maxLen at hn_b
  have hS := Sep.refl W
  refine ws fun K1 hK1 => ?_
  refine wl_mvs (A := [_]) hF rfl ?_; clear hF a; intro a hF
  refine wl_nil (hK1 _ _ ?_)
  refine wp_seq_k fun K2 hK2 => ?_
  refine ws fun K3 hK3 => ?_
  refine wl_mvs (A := [_]) hF rfl ?_; clear hF a; intro a hF
  refine wl hF rfl rfl rfl (r_len ul24 (hF.ev rfl)) ?_; clear hF a; intro a hF
  refine wl_mvs (A := [_]) hF rfl ?_; clear hF a; intro a hF
  refine wl hF rfl rfl rfl (r_len ul24 (hF.ev rfl)) ?_; clear hF a; intro a hF
  refine wl hF rfl rfl rfl (r_neq (hF.ev rfl) (hF.ev rfl)) ?_; clear hF a; intro a hF
  refine wl_nil (hK3 _ _ ?_)
  first | refine wc_dec (hF.ev rfl) (fun c10 => ?_) (fun c10 => ?_) | refine wc_ndec (hF.ev rfl) (fun c10 => ?_) (fun c10 => ?_) | refine wc_b (hF.ev rfl) (fun c10 => ?_) (fun c10 => ?_)
  ·
    refine ws fun K4 hK4 => ?_
    refine wl_mvs (A := [_]) hF rfl ?_; clear hF a; intro a hF
    refine wl_nil (hK4 _ _ ?_)
    refine wp_ret ?_
    try simp only [Exit.then, Exit.inBlock, ↓reduceIte]
    refine ret1 rfl hF rfl ⟨?_, hS.old⟩
    first | exact eq_len c10 | exact eq_at hx hy c24 | exact eq_all htk hk hlen (by omega)
  refine wp_skip ?_
  refine hK2 _ _ ?_
  refine wp_seq_k fun K5 hK5 => ?_
  refine ws fun K6 hK6 => ?_
  refine wl_mvs (A := [_]) hF rfl ?_; clear hF a; intro a hF
  refine wl hF rfl rfl rfl (r_len ul24 (hF.ev rfl)) ?_; clear hF a; intro a hF
  refine wl_mvs (A := [_]) hF rfl ?_; clear hF a; intro a hF
  refine wl_nil (hK6 _ _ ?_)
  refine wp_block ?_
  refine wp_loop_g (σ := Nat) (fun k a w => k ≤ xs.length ∧ xs.length = ys.length ∧ xs.take k = ys.take k ∧ Sep W [] w ∧ Fr 26 [(13, vi k), (12, vi xs.length), (0, .slice A_a xs.length q_a), (1, .slice A_b ys.length q_b)] a) (fun k => xs.length - k) 0 ?_ ?_
  · exact ⟨Nat.zero_le _, by omega, rfl, hS, ((((hF.nil.keep hF (t := 1) rfl).keep hF (t := 0) rfl).keep hF (t := 12) rfl).keep hF (t := 13) rfl)⟩
  clear hF hS a
  rintro k a w ⟨hk, hlen, htk, hS, hF⟩
  refine ws fun K7 hK7 => ?_
  refine wl hF rfl rfl rfl (r_lss (hF.ev rfl) (hF.ev rfl)) ?_; clear hF a; intro a hF
  refine wl_nil (hK7 _ _ ?_)
  refine wp_seq_k fun K8 hK8 => ?_
  first | refine wc_dec (hF.ev rfl) (fun c14 => ?_) (fun c14 => ?_) | refine wc_ndec (hF.ev rfl) (fun c14 => ?_) (fun c14 => ?_) | refine wc_b (hF.ev rfl) (fun c14 => ?_) (fun c14 => ?_)
  ·
    have hlt : k < xs.length := by omega
    obtain ⟨x, hx⟩ : ∃ x, xs[k]? = some x := ⟨_, List.getElem?_eq_getElem hlt⟩
    obtain ⟨y, hy⟩ : ∃ y, ys[k]? = some y := ⟨_, List.getElem?_eq_getElem (by omega)⟩
    refine wp_skip ?_
    refine hK8 _ _ ?_
    refine wp_seq_k fun K9 hK9 => ?_
    refine wp_block ?_
    refine ws fun K10 hK10 => ?_
    refine wl_mvs (A := [_, _]) hF rfl ?_; clear hF a; intro a hF
    refine wl_nil (hK10 _ _ ?_)
    refine wp_seq_k fun K11 hK11 => ?_
    refine wp_region_calm (by kernel_rfl) (by kernel_rfl) ?_
    refine wq_mvs (A := [_, _]) hF rfl ?_; clear hF a; intro a hF
    obtain ⟨g18, o18, m18, q18, hv18, hm18, hl18, hc18⟩ := Rd.idxF (hS.rd ha) hx
    refine wq hF rfl rfl rfl (fun w_ hB_ => r_index sl24 ((hF.ev rfl).trans hv18) (hF.ev rfl) (by omega) (by omega)) ?_; clear hF a; intro a hF
    refine wq hF rfl rfl rfl (fun w_ hB_ => r_load1 sc3 (hF.ev rfl) (cellB hB_ (hc18 0 _ rfl))) ?_; clear hF a; intro a hF
    refine wq_mvs (A := [_, _]) hF rfl ?_; clear hF a; intro a hF
    obtain ⟨g22, o22, m22, q22, hv22, hm22, hl22, hc22⟩ := Rd.idxF (hS.rd hb) hy
    refine wq hF rfl rfl rfl (fun w_ hB_ => r_index sl24 ((hF.ev rfl).trans hv22) (hF.ev rfl) (by omega) (by omega)) ?_; clear hF a; intro a hF
    refine wq hF rfl rfl rfl (fun w_ hB_ => r_load1 sc3 (hF.ev rfl) (cellB hB_ (hc22 0 _ rfl))) ?_; clear hF a; intro a hF
    refine wq hF rfl rfl rfl (fun w_ hB_ => r_neq (hF.ev rfl) (hF.ev rfl)) ?_; clear hF a; intro a hF
    refine wpQuiet_nil ?_; intro w1 hB_; replace hS := hS.ext hB_; clear hB_
    refine hK11 _ _ ?_
    first | refine wc_dec (hF.ev rfl) (fun c24 => ?_) (fun c24 => ?_) | refine wc_ndec (hF.ev rfl) (fun c24 => ?_) (fun c24 => ?_) | refine wc_b (hF.ev rfl) (fun c24 => ?_) (fun c24 => ?_)
    ·
      refine ws fun K12 hK12 => ?_
      refine wl_mvs (A := [_]) hF rfl ?_; clear hF a; intro a hF
      refine wl_nil (hK12 _ _ ?_)
      refine wp_ret ?_
      try simp only [Exit.then, Exit.inBlock, ↓reduceIte]
      refine ret1 rfl hF rfl ⟨?_, hS.old⟩
      first | exact eq_len c10 | exact eq_at hx hy c24 | exact eq_all htk hk hlen (by omega)
    refine wp_skip ?_
    simp only [Exit.then, Exit.inBlock, ↓reduceIte]
    refine hK9 _ _ ?_
    refine wp_region_lit ?_
    refine wl hF rfl rfl rfl (r_add (hF.ev rfl) ec) ?_; clear hF a; intro a hF
    refine wl_mvs (A := [_]) hF rfl ?_; clear hF a; intro a hF
    refine wl_nil ?_
    try simp only [Exit.then, Exit.inBlock, ↓reduceIte]
    exact ⟨k + 1, ⟨by omega, hlen, take_next htk hx hy c24, hS, ((((hF.nil.keep hF (t := 1) rfl).keep hF (t := 0) rfl).keep hF (t := 12) rfl).keepE hF (t := 13) rfl (wk (by omega)))⟩, by omega⟩
  refine wp_exit ?_
  simp only [Exit.then, Exit.inBlock, ↓reduceIte]
  refine hK5 _ _ ?_
  refine ws fun K13 hK13 => ?_
  refine wl_mvs (A := [_]) hF rfl ?_; clear hF a; intro a hF
  refine wl_nil (hK13 _ _ ?_)
  refine wp_ret ?_
  try simp only [Exit.then, Exit.inBlock, ↓reduceIte]
  refine ret1 rfl hF rfl ⟨?_, hS.old⟩
  first | exact eq_len c10 | exact eq_at hx hy c24 | exact eq_all htk hk hlen (by omega)

set_option maxHeartbeats 4000000 in
set_option maxRecDepth 20000 in
theorem equalFunc_c {W : World} {va vb : Value} {xs ys : List (List Int)} (ha : (sliceEK intEK).Rd W va xs) (hb : (sliceEK intEK).Rd W vb ys) : Calls Try.prog 72 #[va, vb, .func (.func 71) #[] #[]] W (Ret fun v w' => v = .bool (decide (xs = ys)) ∧ Below W.heap.size W w') := by
  refine calls_fr Try.func72 rfl Try.ntmps72 rfl ?_
  intro a hF
  obtain ⟨A_a, q_a, rfl, hq_a, hn_a⟩ := ha.sl; unfold maxLen at hn_a
  obtain ⟨A_b, q_b, rfl, hq_b, hn_b⟩ := hb.sl; unfold maxLen at hn_b
  have hS := Sep.refl W
  refine ws fun K1 hK1 => ?_
  refine wl_mvs (A := [_]) hF rfl ?_; clear hF a; intro a hF
  refine wl_nil (hK1 _ _ ?_)
  refine wp_seq_k fun K2 hK2 => ?_
  refine ws fun K3 hK3 => ?_
  refine wl_mvs (A := [_]) hF rfl ?_; clear hF a; intro a hF
  refine wl hF rfl rfl rfl (r_len ul25 (hF.ev rfl)) ?_; clear hF a; intro a hF
  refine wl_mvs (A := [_]) hF rfl ?_; clear hF a; intro a hF
  refine wl hF rfl rfl rfl (r_len ul25 (hF.ev rfl)) ?_; clear hF a; intro a hF
  refine wl hF rfl rfl rfl (r_neq (hF.ev rfl) (hF.ev rfl)) ?_; clear hF a; intro a hF
  refine wl_nil (hK3 _ _ ?_)
  first | refine wc_dec (hF.ev rfl) (fun c14 => ?_) (fun c14 => ?_) | refine wc_ndec (hF.ev rfl) (fun c14 => ?_) (fun c14 => ?_) | refine wc_b (hF.ev rfl) (fun c14 => ?_) (fun c14 => ?_)
  ·
    refine ws fun K4 hK4 => ?_
    refine wl_mvs (A := [_]) hF rfl ?_; clear hF a; intro a hF
    refine wl_nil (hK4 _ _ ?_)
    refine wp_ret ?_
    try simp only [Exit.then, Exit.inBlock, ↓reduceIte]
    refine ret1 rfl hF rfl ⟨?_, hS.old⟩
    first | exact eq_len c14 | exact eq_at hx hy c30 | exact eq_all htk hk hlen (by omega)
  refine wp_skip ?_
  refine hK2 _ _ ?_
  refine wp_seq_k fun K5 hK5 => ?_
  refine ws fun K6 hK6 => ?_
  refine wl_mvs (A := [_]) hF rfl ?_; clear hF a; intro a hF
  refine wl hF rfl rfl rfl (r_len ul25 (hF.ev rfl)) ?_; clear hF a; intro a hF
  refine wl_mvs (A := [_]) hF rfl ?_; clear hF a; intro a hF
  refine wl_nil (hK6 _ _ ?_)
  refine wp_block ?_
  refine wp_loop_g (σ := Nat) (fun k a w => k ≤ xs.length ∧ xs.length = ys.length ∧ xs.take k = ys.take k ∧ Sep W [] w ∧ Fr 32 [(17, vi k), (16, vi xs.length), (15, .slice A_a xs.length q_a), (2, .func (.func 71) #[] #[]), (0, .slice A_a xs.length q_a), (1, .slice A_b ys.length q_b)] a) (fun k => xs.length - k) 0 ?_ ?_
  · exact ⟨Nat.zero_le _, by omega, rfl, hS, ((((((hF.nil.keep hF (t := 1) rfl).keep hF (t := 0) rfl).keep hF (t := 2) rfl).keep hF (t := 15) rfl).keep hF (t := 16) rfl).keep hF (t := 17) rfl)⟩
  clear hF hS a
  rintro k a w ⟨hk, hlen, htk, hS, hF⟩
  refine ws fun K7 hK7 => ?_
  refine wl hF rfl rfl rfl (r_lss (hF.ev rfl) (hF.ev rfl)) ?_; clear hF a; intro a hF
  refine wl_nil (hK7 _ _ ?_)
  refine wp_seq_k fun K8 hK8 => ?_
  first | refine wc_dec (hF.ev rfl) (fun c18 => ?_) (fun c18 => ?_) | refine wc_ndec (hF.ev rfl) (fun c18 => ?_) (fun c18 => ?_) | refine wc_b (hF.ev rfl) (fun c18 => ?_) (fun c18 => ?_)
  ·
    have hlt : k < xs.length := by omega
    obtain ⟨x, hx⟩ : ∃ x, xs[k]? = some x := ⟨_, List.getElem?_eq_getElem hlt⟩
    obtain ⟨y, hy⟩ : ∃ y, ys[k]? = some y := ⟨_, List.getElem?_eq_getElem (by omega)⟩
    refine wp_skip ?_
    refine hK8 _ _ ?_
    refine wp_seq_k fun K9 hK9 => ?_
    refine wp_block ?_
    refine ws fun K10 hK10 => ?_
    refine wl_mvs (A := [_]) hF rfl ?_; clear hF a; intro a hF
    obtain ⟨g20, o20, m20, q20, cs20, hv20, hm20, hl20, hk20, hz20, hc20⟩ := Rd.idx (ha) hx
    obtain ⟨v20, rfl, hr20⟩ := hk20; obtain ⟨Ae20, qe20, rfl, _, hme20⟩ := hr20.sl; unfold maxLen at hme20
    refine wl hF rfl rfl rfl (r_index sl25 ((hF.ev rfl).trans hv20) (hF.ev rfl) (by omega) (by omega)) ?_; clear hF a; intro a hF
    refine wl hF rfl rfl rfl (r_load1 sc24 (hF.ev rfl) (cellB hS.old (hc20 0 _ rfl))) ?_; clear hF a; intro a hF
    refine wl_mvs (A := [_, _]) hF rfl ?_; clear hF a; intro a hF
    refine wl_nil (hK10 _ _ ?_)
    refine ws fun K11 hK11 => ?_
    refine wl_mvs (A := [_, _]) hF rfl ?_; clear hF a; intro a hF
    obtain ⟨g24, o24, m24, q24, cs24, hv24, hm24, hl24, hk24, hz24, hc24⟩ := Rd.idx (hb) hy
    obtain ⟨v24, rfl, hr24⟩ := hk24; obtain ⟨Ae24, qe24, rfl, _, hme24⟩ := hr24.sl; unfold maxLen at hme24
    refine wl hF rfl rfl rfl (r_index sl25 ((hF.ev rfl).trans hv24) (hF.ev rfl) (by omega) (by omega)) ?_; clear hF a; intro a hF
    refine wl hF rfl rfl rfl (r_load1 sc24 (hF.ev rfl) (cellB hS.old (hc24 0 _ rfl))) ?_; clear hF a; intro a hF
    refine wl_mvs (A := [_]) hF rfl ?_; clear hF a; intro a hF
    refine wl_nil (hK11 _ _ ?_)
    refine ws fun K12 hK12 => ?_
    refine wl_mvs (A := [_, _, _]) hF rfl ?_; clear hF a; intro a hF
    refine wl_call hF rfl rfl rfl (r_callw2 en71 (hF.ev rfl) (hF.ev rfl) (hF.ev rfl)) (sliceEq_c (hS.rd hr20) (hS.rd hr24)) ?_; clear hF a; rintro v w1 a ⟨rfl, hB_⟩ hF; replace hS := hS.ext hB_; clear hB_
    refine wl hF rfl rfl rfl (r_not (hF.ev rfl)) ?_; clear hF a; intro a hF
    refine wl_nil (hK12 _ _ ?_)
    first | refine wc_dec (hF.ev rfl) (fun c30 => ?_) (fun c30 => ?_) | refine wc_ndec (hF.ev rfl) (fun c30 => ?_) (fun c30 => ?_) | refine wc_b (hF.ev rfl) (fun c30 => ?_) (fun c30 => ?_)
    ·
      refine ws fun K13 hK13 => ?_
      refine wl_mvs (A := [_]) hF rfl ?_; clear hF a; intro a hF
      refine wl_nil (hK13 _ _ ?_)
      refine wp_ret ?_
      try simp only [Exit.then, Exit.inBlock, ↓reduceIte]
      refine ret1 rfl hF rfl ⟨?_, hS.old⟩
      first | exact eq_len c14 | exact eq_at hx hy c30 | exact eq_all htk hk hlen (by omega)
    refine wp_skip ?_
    simp only [Exit.then, Exit.inBlock, ↓reduceIte]
    refine hK9 _ _ ?_
    refine wp_region_lit ?_
    refine wl hF rfl rfl rfl (r_add (hF.ev rfl) ec) ?_; clear hF a; intro a hF
    refine wl_mvs (A := [_]) hF rfl ?_; clear hF a; intro a hF
    refine wl_nil ?_
    try simp only [Exit.then, Exit.inBlock, ↓reduceIte]
    exact ⟨k + 1, ⟨by omega, hlen, take_next htk hx hy c30, hS, ((((((hF.nil.keep hF (t := 1) rfl).keep hF (t := 0) rfl).keep hF (t := 2) rfl).keep hF (t := 15) rfl).keep hF (t := 16) rfl).keepE hF (t := 17) rfl (wk (by omega)))⟩, by omega⟩
  refine wp_exit ?_
  simp only [Exit.then, Exit.inBlock, ↓reduceIte]
  refine hK5 _ _ ?_
  refine ws fun K14 hK14 => ?_
  refine wl_mvs (A := [_]) hF rfl ?_; clear hF a; intro a hF
  refine wl_nil (hK14 _ _ ?_)
  refine wp_ret ?_
  try simp only [Exit.then, Exit.inBlock, ↓reduceIte]
  refine ret1 rfl hF rfl ⟨?_, hS.old⟩
  first | exact eq_len c14 | exact eq_at hx hy c30 | exact eq_all htk hk hlen (by omega)

set_option maxHeartbeats 4000000 in
set_option maxRecDepth 20000 in
theorem implEqualModels_c {W : World} {x y : Model} {cs ds : List Value} (hx : modelEK.K W x cs) (hy : modelEK.K W y ds) : Calls Try.prog 35 #[.agg cs.toArray, .agg ds.toArray] W (Ret fun v w' => v = .bool (decide (x = y)) ∧ Below W.heap.size W w') := by
  refine calls_fr Try.func35 rfl Try.ntmps35 rfl ?_
  intro a hF
  obtain ⟨v0, v1, rfl, r0, r1⟩ := hx
  obtain ⟨u0, u1, rfl, q0, q1⟩ := hy
  obtain ⟨A_x, q_x, rfl, hq_x, hn_x⟩ := r1.sl; unfold maxLen at hn_x
  obtain ⟨A_y, q_y, rfl, hq_y, hn_y⟩ := q1.sl; unfold maxLen at hn_y
  have hS := Sep.refl W
  refine ws fun K1 hK1 => ?_
  refine wl_box (cs := [_, _]) hF hS rfl (hF.ev rfl) rfl ?_; clear hF a; intro g1 w1 a hS_ hB_ hF; replace hS := hS_; clear hS_ hB_
  refine wl_box (cs := [_, _]) hF hS rfl (hF.ev rfl) rfl ?_; clear hF a; intro g2 w2 a hS_ hB_ hF; replace hS := hS_; clear hS_ hB_
  refine wl_mvs (A := [_]) hF rfl ?_; clear hF a; intro a hF
  refine wl_nil (hK1 _ _ ?_)
  refine ws fun K2 hK2 => ?_
  refine wl hF rfl rfl rfl (r_field fo35_0 (hF.ev rfl)) ?_; clear hF a; intro a hF
  refine wl hF rfl rfl rfl (r_load1 sc24 (hF.ev rfl) (hS.box (i := 1) rfl rfl)) ?_; clear hF a; intro a hF
  refine wl hF rfl rfl rfl (r_field fo35_0 (hF.ev rfl)) ?_; clear hF a; intro a hF
  refine wl hF rfl rfl rfl (r_load1 sc24 (hF.ev rfl) (hS.box (i := 0) rfl rfl)) ?_; clear hF a; intro a hF
  refine wl_call hF rfl rfl rfl (r_call2 en71 (hF.ev rfl) (hF.ev rfl)) (sliceEq_c (hS.rd r0) (hS.rd q0)) ?_; clear hF a; rintro v w3 a ⟨rfl, hB_⟩ hF; replace hS := hS.ext hB_; clear hB_
  refine wl_mvs (A := [_]) hF rfl ?_; clear hF a; intro a hF
  revert hF; intro hF0; refine bsplit (t := 10) hF0 rfl (fun b10 hF => ?_) (fun b10 hF => ?_)
  ·
    clear hF0
    try simp only [decide_eq_true_eq, decide_eq_false_iff_not, Bool.not_eq_true', Bool.not_eq_false'] at b10
    refine wl_take hF rfl rfl rfl rfl ?_
    refine wl hF rfl rfl rfl (r_field fo35_1 (hF.ev rfl)) ?_; clear hF a; intro a hF
    refine wl_take hF rfl rfl rfl rfl ?_
    refine wl hF rfl rfl rfl (r_load1 sc25 (hF.ev rfl) (hS.box (i := 1) rfl rfl)) ?_; clear hF a; intro a hF
    refine wl_take hF rfl rfl rfl rfl ?_
    refine wl hF rfl rfl rfl (r_field fo35_1 (hF.ev rfl)) ?_; clear hF a; intro a hF
    refine wl_take hF rfl rfl rfl rfl ?_
    refine wl hF rfl rfl rfl (r_load1 sc25 (hF.ev rfl) (hS.box (i := 0) rfl rfl)) ?_; clear hF a; intro a hF
    refine wl_take hF rfl rfl rfl rfl ?_
    refine wl_call hF rfl rfl rfl (r_call3 en72 (hF.ev rfl) (hF.ev rfl) ef) (equalFunc_c (hS.rd r1) (hS.rd q1)) ?_; clear hF a; rintro v w4 a ⟨rfl, hB_⟩ hF; replace hS := hS.ext hB_; clear hB_
    refine wl hF rfl rfl rfl (r_pick_t (hF.ev rfl) (hF.ev rfl)) ?_; clear hF a; intro a hF
    refine wl_mvs (A := [_]) hF rfl ?_; clear hF a; intro a hF
    refine wl_nil (hK2 _ _ ?_)
    refine wp_ret ?_
    try simp only [Exit.then, Exit.inBlock, ↓reduceIte]
    refine ret1 rfl hF rfl ⟨congrArg Value.bool (Eq.symm ?_), hS.old⟩
    first
      | exact decide_eq_false (fun e => b10 (congrArg Model.values e))
      | exact decide_eq_decide.2 ⟨fun e => by rw [e], fun e => by cases x; cases y; simp only [Model.mk.injEq]; exact ⟨b10, e⟩⟩
  clear hF0
  try simp only [decide_eq_true_eq, decide_eq_false_iff_not, Bool.not_eq_true', Bool.not_eq_false'] at b10
  refine wl_mvs (A := [_, _, _, _, _]) hF rfl ?_; clear hF a; intro a hF
  refine wl hF rfl rfl rfl (r_pick_f (hF.ev rfl) ec) ?_; clear hF a; intro a hF
  refine wl_mvs (A := [_]) hF rfl ?_; clear hF a; intro a hF
  refine wl_nil (hK2 _ _ ?_)
  refine wp_ret ?_
  try simp only [Exit.then, Exit.inBlock, ↓reduceIte]
  refine ret1 rfl hF rfl ⟨congrArg Value.bool (Eq.symm ?_), hS.old⟩
  first
    | exact decide_eq_false (fun e => b10 (congrArg Model.values e))
    | exact decide_eq_decide.2 ⟨fun e => by rw [e], fun e => by cases x; cases y; simp only [Model.mk.injEq]; exact ⟨b10, e⟩⟩

end Go.Proofs.Yteldnoimmjihoaa.Wk
