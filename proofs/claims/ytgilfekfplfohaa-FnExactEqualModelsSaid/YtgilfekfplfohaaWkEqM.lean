/- Walks: EqualModels, the reference's, the program's, and the law. -/
import Derived.Test.YtgilfekfplfohaaChecked
import Derived.Test.YtgilfekfplfohaaWkM
namespace Go.Proofs.Ytgilfekfplfohaa.Wk
open Go Go.RowKit Sl
set_option linter.unusedVariables false
set_option linter.unusedSimpArgs false
set_option maxRecDepth 20000

theorem eq_rows {α : Type} {xs ys : List α} {k : Nat} (h : xs.take k = ys.take k) (hk : k ≤ xs.length) (hl : xs.length = ys.length) (h1 : ¬ (k : Int) < xs.length) : xs = ys := by
  have : k = xs.length := by omega
  subst this
  rw [List.take_length, hl, List.take_length] at h
  exact h
theorem eqModel_same {W : World} {x : Model} {cs ds : List Value} (hx : modelEK.K W x cs) (hy : modelEK.K W x ds) : Calls Try.prog 25 #[.agg cs.toArray, .agg ds.toArray] W (Ret fun v w' => v = .bool true ∧ Below W.heap.size W w') := by
  refine (eqModel_c hx hy).mono ?_
  rintro e w' ⟨v, rfl, rfl, hb⟩
  exact ⟨_, rfl, by simp, hb⟩

set_option maxHeartbeats 4000000 in
set_option maxRecDepth 20000 in
theorem l7Ints_c {W : World} {va vb : Value} {xs ys : List Int} (ha : intEK.Rd W va xs) (hb : intEK.Rd W vb ys) : Calls Try.prog 68 #[va, vb] W (Ret fun v w' => v = .bool (decide (xs = ys)) ∧ Below W.heap.size W w') := by
  refine calls_fr Try.func68 rfl Try.ntmps68 rfl ?_
  intro a hF
  obtain ⟨A_a, q_a, rfl, hq_a, hn_a⟩ := ha.sl; unfold maxLen at hn_a
  obtain ⟨A_b, q_b, rfl, hq_b, hn_b⟩ := hb.sl; unfold maxLen at hn_b
  have hS := Sep.refl W
  refine wp_seq_k fun K1 hK1 => ?_
  refine wp_region_lit ?_
  refine wl hF rfl rfl rfl (r_assign ec) ?_; clear hF a; intro a hF
  refine wl_nil ?_
  refine hK1 _ _ ?_
  refine wp_seq_k fun K2 hK2 => ?_
  refine wp_seq_k fun K3 hK3 => ?_
  refine wp_region_lit ?_
  refine wl hF rfl rfl rfl (r_move (hF.ev rfl)) ?_; clear hF a; intro a hF
  refine wl hF rfl rfl rfl (r_len ul22 (hF.ev rfl)) ?_; clear hF a; intro a hF
  refine wl hF rfl rfl rfl (r_move (hF.ev rfl)) ?_; clear hF a; intro a hF
  refine wl hF rfl rfl rfl (r_len ul22 (hF.ev rfl)) ?_; clear hF a; intro a hF
  refine wl hF rfl rfl rfl (r_neq (hF.ev rfl) (hF.ev rfl)) ?_; clear hF a; intro a hF
  refine wl_nil ?_
  refine hK3 _ _ ?_
  first | refine wc_dec (hF.ev rfl) (fun c10 => ?_) (fun c10 => ?_) | refine wc_ndec (hF.ev rfl) (fun c10 => ?_) (fun c10 => ?_) | refine wc_b (hF.ev rfl) (fun c10 => ?_) (fun c10 => ?_)
  ·
    refine wp_seq_k fun K4 hK4 => ?_
    refine wp_region_lit ?_
    refine wl hF rfl rfl rfl (r_assign ec) ?_; clear hF a; intro a hF
    refine wl_nil ?_
    refine hK4 _ _ ?_
    refine wp_ret ?_
    try simp only [Exit.then, Exit.inBlock, ↓reduceIte]
    refine ret1 rfl hF rfl ⟨?_, hS.old⟩
    first | exact eq_len c10 | exact eq_at hx hy c25 | exact eq_all htk hk hlen (by omega)
  ·
    refine wp_skip ?_
    refine hK2 _ _ ?_
    refine wp_seq_k fun K5 hK5 => ?_
    refine wp_seq_k fun K6 hK6 => ?_
    refine wp_region_lit ?_
    refine wl hF rfl rfl rfl (r_assign ec) ?_; clear hF a; intro a hF
    refine wl_nil ?_
    refine hK6 _ _ ?_
    refine wp_block ?_
    refine wp_loop_g (σ := Nat) (fun k a w => k ≤ xs.length ∧ xs.length = ys.length ∧ xs.take k = ys.take k ∧ Sep W [] w ∧ Fr 26 [(5, vi k), (0, .slice A_a xs.length q_a), (1, .slice A_b ys.length q_b)] a) (fun k => xs.length - k) 0 ?_ ?_
    · exact ⟨Nat.zero_le _, by omega, rfl, hS, (((hF.nil.keep hF (t := 1) rfl).keep hF (t := 0) rfl).keep hF (t := 5) rfl)⟩
    ·
      clear hF hS a
      rintro k a w ⟨hk, hlen, htk, hS, hF⟩
      refine wp_seq_k fun K7 hK7 => ?_
      refine wp_seq_k fun K8 hK8 => ?_
      refine wp_region_lit ?_
      refine wl hF rfl rfl rfl (r_move (hF.ev rfl)) ?_; clear hF a; intro a hF
      refine wl hF rfl rfl rfl (r_move (hF.ev rfl)) ?_; clear hF a; intro a hF
      refine wl hF rfl rfl rfl (r_len ul22 (hF.ev rfl)) ?_; clear hF a; intro a hF
      refine wl hF rfl rfl rfl (r_lss (hF.ev rfl) (hF.ev rfl)) ?_; clear hF a; intro a hF
      refine wl_nil ?_
      refine hK8 _ _ ?_
      first | refine wc_dec (hF.ev rfl) (fun c14 => ?_) (fun c14 => ?_) | refine wc_ndec (hF.ev rfl) (fun c14 => ?_) (fun c14 => ?_) | refine wc_b (hF.ev rfl) (fun c14 => ?_) (fun c14 => ?_)
      ·
        have hlt : k < xs.length := by omega
        obtain ⟨x, hx⟩ : ∃ x, xs[k]? = some x := ⟨_, List.getElem?_eq_getElem hlt⟩
        obtain ⟨y, hy⟩ : ∃ y, ys[k]? = some y := ⟨_, List.getElem?_eq_getElem (by omega)⟩
        refine wp_skip ?_
        refine hK7 _ _ ?_
        refine wp_seq_k fun K9 hK9 => ?_
        refine wp_block ?_
        refine wp_seq_k fun K10 hK10 => ?_
        refine wp_region_calm (by kernel_rfl) (by kernel_rfl) ?_
        refine wq hF rfl rfl rfl (fun w_ hB_ => r_move (hF.ev rfl)) ?_; clear hF a; intro a hF
        refine wq hF rfl rfl rfl (fun w_ hB_ => r_move (hF.ev rfl)) ?_; clear hF a; intro a hF
        obtain ⟨g19, o19, m19, q19, hv19, hm19, hl19, hc19⟩ := Rd.idxF (hS.rd ha) hx
        refine wq hF rfl rfl rfl (fun w_ hB_ => r_index sl22 ((hF.ev rfl).trans hv19) (hF.ev rfl) (by omega) (by omega)) ?_; clear hF a; intro a hF
        refine wq hF rfl rfl rfl (fun w_ hB_ => r_load1 sc3 (hF.ev rfl) (cellB hB_ (hc19 0 _ rfl))) ?_; clear hF a; intro a hF
        refine wq hF rfl rfl rfl (fun w_ hB_ => r_move (hF.ev rfl)) ?_; clear hF a; intro a hF
        refine wq hF rfl rfl rfl (fun w_ hB_ => r_move (hF.ev rfl)) ?_; clear hF a; intro a hF
        obtain ⟨g23, o23, m23, q23, hv23, hm23, hl23, hc23⟩ := Rd.idxF (hS.rd hb) hy
        refine wq hF rfl rfl rfl (fun w_ hB_ => r_index sl22 ((hF.ev rfl).trans hv23) (hF.ev rfl) (by omega) (by omega)) ?_; clear hF a; intro a hF
        refine wq hF rfl rfl rfl (fun w_ hB_ => r_load1 sc3 (hF.ev rfl) (cellB hB_ (hc23 0 _ rfl))) ?_; clear hF a; intro a hF
        refine wq hF rfl rfl rfl (fun w_ hB_ => r_neq (hF.ev rfl) (hF.ev rfl)) ?_; clear hF a; intro a hF
        refine wpQuiet_nil ?_; intro w1 hB_; replace hS := hS.ext hB_; clear hB_
        refine hK10 _ _ ?_
        first | refine wc_dec (hF.ev rfl) (fun c25 => ?_) (fun c25 => ?_) | refine wc_ndec (hF.ev rfl) (fun c25 => ?_) (fun c25 => ?_) | refine wc_b (hF.ev rfl) (fun c25 => ?_) (fun c25 => ?_)
        ·
          refine wp_seq_k fun K11 hK11 => ?_
          refine wp_region_lit ?_
          refine wl hF rfl rfl rfl (r_assign ec) ?_; clear hF a; intro a hF
          refine wl_nil ?_
          refine hK11 _ _ ?_
          refine wp_ret ?_
          try simp only [Exit.then, Exit.inBlock, ↓reduceIte]
          refine ret1 rfl hF rfl ⟨?_, hS.old⟩
          first | exact eq_len c10 | exact eq_at hx hy c25 | exact eq_all htk hk hlen (by omega)
        ·
          refine wp_skip ?_
          simp only [Exit.then, Exit.inBlock, ↓reduceIte]
          refine hK9 _ _ ?_
          refine wp_region_lit ?_
          refine wl hF rfl rfl rfl (r_move (hF.ev rfl)) ?_; clear hF a; intro a hF
          refine wl hF rfl rfl rfl (r_add (hF.ev rfl) ec) ?_; clear hF a; intro a hF
          refine wl hF rfl rfl rfl (r_assign (hF.ev rfl)) ?_; clear hF a; intro a hF
          refine wl_nil ?_
          try simp only [Exit.then, Exit.inBlock, ↓reduceIte]
          exact ⟨k + 1, ⟨by omega, hlen, take_next htk hx hy c25, hS, (((hF.nil.keep hF (t := 1) rfl).keep hF (t := 0) rfl).keepE hF (t := 5) rfl (wk (by omega)))⟩, by omega⟩
      ·
        refine wp_exit ?_
        simp only [Exit.then, Exit.inBlock, ↓reduceIte]
        refine hK5 _ _ ?_
        refine wp_seq_k fun K12 hK12 => ?_
        refine wp_region_lit ?_
        refine wl hF rfl rfl rfl (r_assign ec) ?_; clear hF a; intro a hF
        refine wl_nil ?_
        refine hK12 _ _ ?_
        refine wp_ret ?_
        try simp only [Exit.then, Exit.inBlock, ↓reduceIte]
        refine ret1 rfl hF rfl ⟨?_, hS.old⟩
        first | exact eq_len c10 | exact eq_at hx hy c25 | exact eq_all htk hk hlen (by omega)

set_option maxHeartbeats 4000000 in
set_option maxRecDepth 20000 in
theorem sliceEq_c {W : World} {va vb : Value} {xs ys : List Int} (ha : intEK.Rd W va xs) (hb : intEK.Rd W vb ys) : Calls Try.prog 70 #[va, vb] W (Ret fun v w' => v = .bool (decide (xs = ys)) ∧ Below W.heap.size W w') := by
  refine calls_fr Try.func70 rfl Try.ntmps70 rfl ?_
  intro a hF
  obtain ⟨A_a, q_a, rfl, hq_a, hn_a⟩ := ha.sl; unfold maxLen at hn_a
  obtain ⟨A_b, q_b, rfl, hq_b, hn_b⟩ := hb.sl; unfold maxLen at hn_b
  have hS := Sep.refl W
  refine wp_seq_k fun K1 hK1 => ?_
  refine wp_region_lit ?_
  refine wl hF rfl rfl rfl (r_assign ec) ?_; clear hF a; intro a hF
  refine wl_nil ?_
  refine hK1 _ _ ?_
  refine wp_seq_k fun K2 hK2 => ?_
  refine wp_seq_k fun K3 hK3 => ?_
  refine wp_region_lit ?_
  refine wl hF rfl rfl rfl (r_move (hF.ev rfl)) ?_; clear hF a; intro a hF
  refine wl hF rfl rfl rfl (r_len ul22 (hF.ev rfl)) ?_; clear hF a; intro a hF
  refine wl hF rfl rfl rfl (r_move (hF.ev rfl)) ?_; clear hF a; intro a hF
  refine wl hF rfl rfl rfl (r_len ul22 (hF.ev rfl)) ?_; clear hF a; intro a hF
  refine wl hF rfl rfl rfl (r_neq (hF.ev rfl) (hF.ev rfl)) ?_; clear hF a; intro a hF
  refine wl_nil ?_
  refine hK3 _ _ ?_
  first | refine wc_dec (hF.ev rfl) (fun c10 => ?_) (fun c10 => ?_) | refine wc_ndec (hF.ev rfl) (fun c10 => ?_) (fun c10 => ?_) | refine wc_b (hF.ev rfl) (fun c10 => ?_) (fun c10 => ?_)
  ·
    refine wp_seq_k fun K4 hK4 => ?_
    refine wp_region_lit ?_
    refine wl hF rfl rfl rfl (r_assign ec) ?_; clear hF a; intro a hF
    refine wl_nil ?_
    refine hK4 _ _ ?_
    refine wp_ret ?_
    try simp only [Exit.then, Exit.inBlock, ↓reduceIte]
    refine ret1 rfl hF rfl ⟨?_, hS.old⟩
    first | exact eq_len c10 | exact eq_at hx hy c24 | exact eq_all htk hk hlen (by omega)
  ·
    refine wp_skip ?_
    refine hK2 _ _ ?_
    refine wp_seq_k fun K5 hK5 => ?_
    refine wp_seq_k fun K6 hK6 => ?_
    refine wp_region_lit ?_
    refine wl hF rfl rfl rfl (r_move (hF.ev rfl)) ?_; clear hF a; intro a hF
    refine wl hF rfl rfl rfl (r_len ul22 (hF.ev rfl)) ?_; clear hF a; intro a hF
    refine wl hF rfl rfl rfl (r_move ec) ?_; clear hF a; intro a hF
    refine wl_nil ?_
    refine hK6 _ _ ?_
    refine wp_block ?_
    refine wp_loop_g (σ := Nat) (fun k a w => k ≤ xs.length ∧ xs.length = ys.length ∧ xs.take k = ys.take k ∧ Sep W [] w ∧ Fr 26 [(13, vi k), (12, vi xs.length), (0, .slice A_a xs.length q_a), (1, .slice A_b ys.length q_b)] a) (fun k => xs.length - k) 0 ?_ ?_
    · exact ⟨Nat.zero_le _, by omega, rfl, hS, ((((hF.nil.keep hF (t := 1) rfl).keep hF (t := 0) rfl).keep hF (t := 12) rfl).keep hF (t := 13) rfl)⟩
    ·
      clear hF hS a
      rintro k a w ⟨hk, hlen, htk, hS, hF⟩
      refine wp_seq_k fun K7 hK7 => ?_
      refine wp_region_lit ?_
      refine wl hF rfl rfl rfl (r_lss (hF.ev rfl) (hF.ev rfl)) ?_; clear hF a; intro a hF
      refine wl_nil ?_
      refine hK7 _ _ ?_
      refine wp_seq_k fun K8 hK8 => ?_
      first | refine wc_dec (hF.ev rfl) (fun c14 => ?_) (fun c14 => ?_) | refine wc_ndec (hF.ev rfl) (fun c14 => ?_) (fun c14 => ?_) | refine wc_b (hF.ev rfl) (fun c14 => ?_) (fun c14 => ?_)
      ·
        have hlt : k < xs.length := by omega
        obtain ⟨x, hx⟩ : ∃ x, xs[k]? = some x := ⟨_, List.getElem?_eq_getElem hlt⟩
        obtain ⟨y, hy⟩ : ∃ y, ys[k]? = some y := ⟨_, List.getElem?_eq_getElem (by omega)⟩
        refine wp_skip ?_
        refine hK8 _ _ ?_
        refine wp_seq_k fun K9 hK9 => ?_
        refine wp_block ?_
        refine wp_seq_k fun K10 hK10 => ?_
        refine wp_region_lit ?_
        refine wl hF rfl rfl rfl (r_move (hF.ev rfl)) ?_; clear hF a; intro a hF
        refine wl hF rfl rfl rfl (r_assign (hF.ev rfl)) ?_; clear hF a; intro a hF
        refine wl_nil ?_
        refine hK10 _ _ ?_
        refine wp_seq_k fun K11 hK11 => ?_
        refine wp_region_calm (by kernel_rfl) (by kernel_rfl) ?_
        refine wq hF rfl rfl rfl (fun w_ hB_ => r_move (hF.ev rfl)) ?_; clear hF a; intro a hF
        refine wq hF rfl rfl rfl (fun w_ hB_ => r_move (hF.ev rfl)) ?_; clear hF a; intro a hF
        obtain ⟨g18, o18, m18, q18, hv18, hm18, hl18, hc18⟩ := Rd.idxF (hS.rd ha) hx
        refine wq hF rfl rfl rfl (fun w_ hB_ => r_index sl22 ((hF.ev rfl).trans hv18) (hF.ev rfl) (by omega) (by omega)) ?_; clear hF a; intro a hF
        refine wq hF rfl rfl rfl (fun w_ hB_ => r_load1 sc3 (hF.ev rfl) (cellB hB_ (hc18 0 _ rfl))) ?_; clear hF a; intro a hF
        refine wq hF rfl rfl rfl (fun w_ hB_ => r_move (hF.ev rfl)) ?_; clear hF a; intro a hF
        refine wq hF rfl rfl rfl (fun w_ hB_ => r_move (hF.ev rfl)) ?_; clear hF a; intro a hF
        obtain ⟨g22, o22, m22, q22, hv22, hm22, hl22, hc22⟩ := Rd.idxF (hS.rd hb) hy
        refine wq hF rfl rfl rfl (fun w_ hB_ => r_index sl22 ((hF.ev rfl).trans hv22) (hF.ev rfl) (by omega) (by omega)) ?_; clear hF a; intro a hF
        refine wq hF rfl rfl rfl (fun w_ hB_ => r_load1 sc3 (hF.ev rfl) (cellB hB_ (hc22 0 _ rfl))) ?_; clear hF a; intro a hF
        refine wq hF rfl rfl rfl (fun w_ hB_ => r_neq (hF.ev rfl) (hF.ev rfl)) ?_; clear hF a; intro a hF
        refine wpQuiet_nil ?_; intro w1 hB_; replace hS := hS.ext hB_; clear hB_
        refine hK11 _ _ ?_
        first | refine wc_dec (hF.ev rfl) (fun c24 => ?_) (fun c24 => ?_) | refine wc_ndec (hF.ev rfl) (fun c24 => ?_) (fun c24 => ?_) | refine wc_b (hF.ev rfl) (fun c24 => ?_) (fun c24 => ?_)
        ·
          refine wp_seq_k fun K12 hK12 => ?_
          refine wp_region_lit ?_
          refine wl hF rfl rfl rfl (r_assign ec) ?_; clear hF a; intro a hF
          refine wl_nil ?_
          refine hK12 _ _ ?_
          refine wp_ret ?_
          try simp only [Exit.then, Exit.inBlock, ↓reduceIte]
          refine ret1 rfl hF rfl ⟨?_, hS.old⟩
          first | exact eq_len c10 | exact eq_at hx hy c24 | exact eq_all htk hk hlen (by omega)
        ·
          refine wp_skip ?_
          simp only [Exit.then, Exit.inBlock, ↓reduceIte]
          refine hK9 _ _ ?_
          refine wp_region_lit ?_
          refine wl hF rfl rfl rfl (r_add (hF.ev rfl) ec) ?_; clear hF a; intro a hF
          refine wl hF rfl rfl rfl (r_move (hF.ev rfl)) ?_; clear hF a; intro a hF
          refine wl_nil ?_
          try simp only [Exit.then, Exit.inBlock, ↓reduceIte]
          exact ⟨k + 1, ⟨by omega, hlen, take_next htk hx hy c24, hS, ((((hF.nil.keep hF (t := 1) rfl).keep hF (t := 0) rfl).keep hF (t := 12) rfl).keepE hF (t := 13) rfl (wk (by omega)))⟩, by omega⟩
      ·
        refine wp_exit ?_
        simp only [Exit.then, Exit.inBlock, ↓reduceIte]
        refine hK5 _ _ ?_
        refine wp_seq_k fun K13 hK13 => ?_
        refine wp_region_lit ?_
        refine wl hF rfl rfl rfl (r_assign ec) ?_; clear hF a; intro a hF
        refine wl_nil ?_
        refine hK13 _ _ ?_
        refine wp_ret ?_
        try simp only [Exit.then, Exit.inBlock, ↓reduceIte]
        refine ret1 rfl hF rfl ⟨?_, hS.old⟩
        first | exact eq_len c10 | exact eq_at hx hy c24 | exact eq_all htk hk hlen (by omega)

set_option maxHeartbeats 4000000 in
set_option maxRecDepth 20000 in
theorem equalFunc_c {W : World} {va vb : Value} {xs ys : List (List Int)} (ha : (sliceEK intEK).Rd W va xs) (hb : (sliceEK intEK).Rd W vb ys) : Calls Try.prog 71 #[va, vb, .func (.func 70) #[] #[]] W (Ret fun v w' => v = .bool (decide (xs = ys)) ∧ Below W.heap.size W w') := by
  refine calls_fr Try.func71 rfl Try.ntmps71 rfl ?_
  intro a hF
  obtain ⟨A_a, q_a, rfl, hq_a, hn_a⟩ := ha.sl; unfold maxLen at hn_a
  obtain ⟨A_b, q_b, rfl, hq_b, hn_b⟩ := hb.sl; unfold maxLen at hn_b
  have hS := Sep.refl W
  refine wp_seq_k fun K1 hK1 => ?_
  refine wp_region_lit ?_
  refine wl hF rfl rfl rfl (r_assign ec) ?_; clear hF a; intro a hF
  refine wl_nil ?_
  refine hK1 _ _ ?_
  refine wp_seq_k fun K2 hK2 => ?_
  refine wp_seq_k fun K3 hK3 => ?_
  refine wp_region_lit ?_
  refine wl hF rfl rfl rfl (r_move (hF.ev rfl)) ?_; clear hF a; intro a hF
  refine wl hF rfl rfl rfl (r_len ul28 (hF.ev rfl)) ?_; clear hF a; intro a hF
  refine wl hF rfl rfl rfl (r_move (hF.ev rfl)) ?_; clear hF a; intro a hF
  refine wl hF rfl rfl rfl (r_len ul28 (hF.ev rfl)) ?_; clear hF a; intro a hF
  refine wl hF rfl rfl rfl (r_neq (hF.ev rfl) (hF.ev rfl)) ?_; clear hF a; intro a hF
  refine wl_nil ?_
  refine hK3 _ _ ?_
  first | refine wc_dec (hF.ev rfl) (fun c14 => ?_) (fun c14 => ?_) | refine wc_ndec (hF.ev rfl) (fun c14 => ?_) (fun c14 => ?_) | refine wc_b (hF.ev rfl) (fun c14 => ?_) (fun c14 => ?_)
  ·
    refine wp_seq_k fun K4 hK4 => ?_
    refine wp_region_lit ?_
    refine wl hF rfl rfl rfl (r_assign ec) ?_; clear hF a; intro a hF
    refine wl_nil ?_
    refine hK4 _ _ ?_
    refine wp_ret ?_
    try simp only [Exit.then, Exit.inBlock, ↓reduceIte]
    refine ret1 rfl hF rfl ⟨?_, hS.old⟩
    first | exact eq_len c14 | exact eq_at hx hy c30 | exact eq_all htk hk hlen (by omega)
  ·
    refine wp_skip ?_
    refine hK2 _ _ ?_
    refine wp_seq_k fun K5 hK5 => ?_
    refine wp_seq_k fun K6 hK6 => ?_
    refine wp_region_lit ?_
    refine wl hF rfl rfl rfl (r_move (hF.ev rfl)) ?_; clear hF a; intro a hF
    refine wl hF rfl rfl rfl (r_len ul28 (hF.ev rfl)) ?_; clear hF a; intro a hF
    refine wl hF rfl rfl rfl (r_move ec) ?_; clear hF a; intro a hF
    refine wl_nil ?_
    refine hK6 _ _ ?_
    refine wp_block ?_
    refine wp_loop_g (σ := Nat) (fun k a w => k ≤ xs.length ∧ xs.length = ys.length ∧ xs.take k = ys.take k ∧ Sep W [] w ∧ Fr 32 [(17, vi k), (16, vi xs.length), (15, .slice A_a xs.length q_a), (2, .func (.func 70) #[] #[]), (0, .slice A_a xs.length q_a), (1, .slice A_b ys.length q_b)] a) (fun k => xs.length - k) 0 ?_ ?_
    · exact ⟨Nat.zero_le _, by omega, rfl, hS, ((((((hF.nil.keep hF (t := 1) rfl).keep hF (t := 0) rfl).keep hF (t := 2) rfl).keep hF (t := 15) rfl).keep hF (t := 16) rfl).keep hF (t := 17) rfl)⟩
    ·
      clear hF hS a
      rintro k a w ⟨hk, hlen, htk, hS, hF⟩
      refine wp_seq_k fun K7 hK7 => ?_
      refine wp_region_lit ?_
      refine wl hF rfl rfl rfl (r_lss (hF.ev rfl) (hF.ev rfl)) ?_; clear hF a; intro a hF
      refine wl_nil ?_
      refine hK7 _ _ ?_
      refine wp_seq_k fun K8 hK8 => ?_
      first | refine wc_dec (hF.ev rfl) (fun c18 => ?_) (fun c18 => ?_) | refine wc_ndec (hF.ev rfl) (fun c18 => ?_) (fun c18 => ?_) | refine wc_b (hF.ev rfl) (fun c18 => ?_) (fun c18 => ?_)
      ·
        have hlt : k < xs.length := by omega
        obtain ⟨x, hx⟩ : ∃ x, xs[k]? = some x := ⟨_, List.getElem?_eq_getElem hlt⟩
        obtain ⟨y, hy⟩ : ∃ y, ys[k]? = some y := ⟨_, List.getElem?_eq_getElem (by omega)⟩
        refine wp_skip ?_
        refine hK8 _ _ ?_
        refine wp_seq_k fun K9 hK9 => ?_
        refine wp_block ?_
        refine wp_seq_k fun K10 hK10 => ?_
        refine wp_region_lit ?_
        refine wl hF rfl rfl rfl (r_move (hF.ev rfl)) ?_; clear hF a; intro a hF
        obtain ⟨g20, o20, m20, q20, cs20, hv20, hm20, hl20, hk20, hz20, hc20⟩ := Rd.idx (ha) hx
        obtain ⟨v20, rfl, hr20⟩ := hk20
        refine wl hF rfl rfl rfl (r_index sl28 ((hF.ev rfl).trans hv20) (hF.ev rfl) (by omega) (by omega)) ?_; clear hF a; intro a hF
        refine wl hF rfl rfl rfl (r_load1 sc22 (hF.ev rfl) (cellB hS.old (hc20 0 _ rfl))) ?_; clear hF a; intro a hF
        refine wl hF rfl rfl rfl (r_assign (hF.ev rfl)) ?_; clear hF a; intro a hF
        refine wl hF rfl rfl rfl (r_assign (hF.ev rfl)) ?_; clear hF a; intro a hF
        refine wl_nil ?_
        refine hK10 _ _ ?_
        refine wp_seq_k fun K11 hK11 => ?_
        refine wp_region_lit ?_
        refine wl hF rfl rfl rfl (r_move (hF.ev rfl)) ?_; clear hF a; intro a hF
        refine wl hF rfl rfl rfl (r_move (hF.ev rfl)) ?_; clear hF a; intro a hF
        obtain ⟨g24, o24, m24, q24, cs24, hv24, hm24, hl24, hk24, hz24, hc24⟩ := Rd.idx (hb) hy
        obtain ⟨v24, rfl, hr24⟩ := hk24
        refine wl hF rfl rfl rfl (r_index sl28 ((hF.ev rfl).trans hv24) (hF.ev rfl) (by omega) (by omega)) ?_; clear hF a; intro a hF
        refine wl hF rfl rfl rfl (r_load1 sc22 (hF.ev rfl) (cellB hS.old (hc24 0 _ rfl))) ?_; clear hF a; intro a hF
        refine wl hF rfl rfl rfl (r_assign (hF.ev rfl)) ?_; clear hF a; intro a hF
        refine wl_nil ?_
        refine hK11 _ _ ?_
        refine wp_seq_k fun K12 hK12 => ?_
        refine wp_region_lit ?_
        refine wl hF rfl rfl rfl (r_move (hF.ev rfl)) ?_; clear hF a; intro a hF
        refine wl hF rfl rfl rfl (r_move (hF.ev rfl)) ?_; clear hF a; intro a hF
        refine wl hF rfl rfl rfl (r_move (hF.ev rfl)) ?_; clear hF a; intro a hF
        refine wl_call hF rfl rfl rfl (r_callw2 en70 (hF.ev rfl) (hF.ev rfl) (hF.ev rfl)) (sliceEq_c (hS.rd hr20) (hS.rd hr24)) ?_; clear hF a; rintro v w1 a ⟨rfl, hB_⟩ hF; replace hS := hS.ext hB_; clear hB_
        refine wl hF rfl rfl rfl (r_not (hF.ev rfl)) ?_; clear hF a; intro a hF
        refine wl_nil ?_
        refine hK12 _ _ ?_
        first | refine wc_dec (hF.ev rfl) (fun c30 => ?_) (fun c30 => ?_) | refine wc_ndec (hF.ev rfl) (fun c30 => ?_) (fun c30 => ?_) | refine wc_b (hF.ev rfl) (fun c30 => ?_) (fun c30 => ?_)
        ·
          refine wp_seq_k fun K13 hK13 => ?_
          refine wp_region_lit ?_
          refine wl hF rfl rfl rfl (r_assign ec) ?_; clear hF a; intro a hF
          refine wl_nil ?_
          refine hK13 _ _ ?_
          refine wp_ret ?_
          try simp only [Exit.then, Exit.inBlock, ↓reduceIte]
          refine ret1 rfl hF rfl ⟨?_, hS.old⟩
          first | exact eq_len c14 | exact eq_at hx hy c30 | exact eq_all htk hk hlen (by omega)
        ·
          refine wp_skip ?_
          simp only [Exit.then, Exit.inBlock, ↓reduceIte]
          refine hK9 _ _ ?_
          refine wp_region_lit ?_
          refine wl hF rfl rfl rfl (r_add (hF.ev rfl) ec) ?_; clear hF a; intro a hF
          refine wl hF rfl rfl rfl (r_move (hF.ev rfl)) ?_; clear hF a; intro a hF
          refine wl_nil ?_
          try simp only [Exit.then, Exit.inBlock, ↓reduceIte]
          exact ⟨k + 1, ⟨by omega, hlen, take_next htk hx hy c30, hS, ((((((hF.nil.keep hF (t := 1) rfl).keep hF (t := 0) rfl).keep hF (t := 2) rfl).keep hF (t := 15) rfl).keep hF (t := 16) rfl).keepE hF (t := 17) rfl (wk (by omega)))⟩, by omega⟩
      ·
        refine wp_exit ?_
        simp only [Exit.then, Exit.inBlock, ↓reduceIte]
        refine hK5 _ _ ?_
        refine wp_seq_k fun K14 hK14 => ?_
        refine wp_region_lit ?_
        refine wl hF rfl rfl rfl (r_assign ec) ?_; clear hF a; intro a hF
        refine wl_nil ?_
        refine hK14 _ _ ?_
        refine wp_ret ?_
        try simp only [Exit.then, Exit.inBlock, ↓reduceIte]
        refine ret1 rfl hF rfl ⟨?_, hS.old⟩
        first | exact eq_len c14 | exact eq_at hx hy c30 | exact eq_all htk hk hlen (by omega)

set_option maxHeartbeats 4000000 in
set_option maxRecDepth 20000 in
theorem specEqualModels_c {W : World} {x y : Model} {cs ds : List Value} (hx : modelEK.K W x cs) (hy : modelEK.K W y ds) : Calls Try.prog 22 #[.agg cs.toArray, .agg ds.toArray] W (Ret fun v w' => v = .bool (decide (x = y)) ∧ Below W.heap.size W w') := by
  refine calls_fr Try.func22 rfl Try.ntmps22 rfl ?_
  intro a hF
  obtain ⟨v0, v1, rfl, r0, r1⟩ := hx
  obtain ⟨u0, u1, rfl, q0, q1⟩ := hy
  obtain ⟨A_x, q_x, rfl, hq_x, hn_x⟩ := r1.sl; unfold maxLen at hn_x
  obtain ⟨A_y, q_y, rfl, hq_y, hn_y⟩ := q1.sl; unfold maxLen at hn_y
  have hS := Sep.refl W
  refine wp_seq_k fun K1 hK1 => ?_
  refine wp_region_lit ?_
  refine wl_box hF hS rfl (hF.ev rfl) rfl ?_; clear hF a; intro g1 w1 a hS_ hB_ hF; replace hS := hS_; clear hS_ hB_
  refine wl_box hF hS rfl (hF.ev rfl) rfl ?_; clear hF a; intro g2 w2 a hS_ hB_ hF; replace hS := hS_; clear hS_ hB_
  refine wl hF rfl rfl rfl (r_assign ec) ?_; clear hF a; intro a hF
  refine wl_nil ?_
  refine hK1 _ _ ?_
  refine wp_seq_k fun K2 hK2 => ?_
  refine wp_seq_k fun K3 hK3 => ?_
  refine wp_region_lit ?_
  refine wl hF rfl rfl rfl (r_field fo33_0 (hF.ev rfl)) ?_; clear hF a; intro a hF
  refine wl hF rfl rfl rfl (r_load1 sc22 (hF.ev rfl) (hS.box (i := 1) rfl rfl)) ?_; clear hF a; intro a hF
  refine wl hF rfl rfl rfl (r_field fo33_0 (hF.ev rfl)) ?_; clear hF a; intro a hF
  refine wl hF rfl rfl rfl (r_load1 sc22 (hF.ev rfl) (hS.box (i := 0) rfl rfl)) ?_; clear hF a; intro a hF
  refine wl_call hF rfl rfl rfl (r_call2 en68 (hF.ev rfl) (hF.ev rfl)) (l7Ints_c (hS.rd r0) (hS.rd q0)) ?_; clear hF a; rintro v w3 a ⟨rfl, hB_⟩ hF; replace hS := hS.ext hB_; clear hB_
  refine wl hF rfl rfl rfl (r_not (hF.ev rfl)) ?_; clear hF a; intro a hF
  refine wl hF rfl rfl rfl (r_move (hF.ev rfl)) ?_; clear hF a; intro a hF
  revert hF; intro hF0; refine bsplit (t := 12) hF0 rfl (fun b12 hF => ?_) (fun b12 hF => ?_)
  ·
    clear hF0
    try simp only [decide_eq_true_eq, decide_eq_false_iff_not, Bool.not_eq_true', Bool.not_eq_false'] at b12
    refine wl_skip hF rfl rfl rfl rfl rfl rfl ?_; clear hF a; intro a hF
    refine wl_skip hF rfl rfl rfl rfl rfl rfl ?_; clear hF a; intro a hF
    refine wl_skip hF rfl rfl rfl rfl rfl rfl ?_; clear hF a; intro a hF
    refine wl_skip hF rfl rfl rfl rfl rfl rfl ?_; clear hF a; intro a hF
    refine wl_skip hF rfl rfl rfl rfl rfl rfl ?_; clear hF a; intro a hF
    refine wl_skip hF rfl rfl rfl rfl rfl rfl ?_; clear hF a; intro a hF
    refine wl_skip hF rfl rfl rfl rfl rfl rfl ?_; clear hF a; intro a hF
    refine wl hF rfl rfl rfl (r_pick_t (hF.ev rfl) ec) ?_; clear hF a; intro a hF
    refine wl_nil ?_
    refine hK3 _ _ ?_
    refine wc_true (hF.ev rfl) ?_
    refine wp_seq_k fun K4 hK4 => ?_
    refine wp_region_lit ?_
    refine wl hF rfl rfl rfl (r_assign ec) ?_; clear hF a; intro a hF
    refine wl_nil ?_
    refine hK4 _ _ ?_
    refine wp_ret ?_
    try simp only [Exit.then, Exit.inBlock, ↓reduceIte]
    refine ret1 rfl hF rfl ⟨congrArg Value.bool (Eq.symm ?_), hS.old⟩
    first
      | exact decide_eq_false (fun e => b12 (congrArg Model.values e))
      | exact decide_eq_false (fun e => c20 (by rw [e]))
      | exact decide_eq_false (fun e => by subst e; rw [hxe] at hye; exact c39 (Option.some.inj hye))
      | exact decide_eq_true (by have q := eq_rows htk hk hlen (by assumption); cases x; cases y; simp only [Model.mk.injEq]; exact ⟨b12, q⟩)
  ·
    clear hF0
    try simp only [decide_eq_true_eq, decide_eq_false_iff_not, Bool.not_eq_true', Bool.not_eq_false'] at b12
    refine wl_take hF rfl rfl rfl rfl ?_
    refine wl hF rfl rfl rfl (r_field fo33_1 (hF.ev rfl)) ?_; clear hF a; intro a hF
    refine wl_take hF rfl rfl rfl rfl ?_
    refine wl hF rfl rfl rfl (r_load1 sc28 (hF.ev rfl) (hS.box (i := 1) rfl rfl)) ?_; clear hF a; intro a hF
    refine wl_take hF rfl rfl rfl rfl ?_
    refine wl hF rfl rfl rfl (r_len ul28 (hF.ev rfl)) ?_; clear hF a; intro a hF
    refine wl_take hF rfl rfl rfl rfl ?_
    refine wl hF rfl rfl rfl (r_field fo33_1 (hF.ev rfl)) ?_; clear hF a; intro a hF
    refine wl_take hF rfl rfl rfl rfl ?_
    refine wl hF rfl rfl rfl (r_load1 sc28 (hF.ev rfl) (hS.box (i := 0) rfl rfl)) ?_; clear hF a; intro a hF
    refine wl_take hF rfl rfl rfl rfl ?_
    refine wl hF rfl rfl rfl (r_len ul28 (hF.ev rfl)) ?_; clear hF a; intro a hF
    refine wl_take hF rfl rfl rfl rfl ?_
    refine wl hF rfl rfl rfl (r_neq (hF.ev rfl) (hF.ev rfl)) ?_; clear hF a; intro a hF
    refine wl hF rfl rfl rfl (r_pick_f (hF.ev rfl) (hF.ev rfl)) ?_; clear hF a; intro a hF
    refine wl_nil ?_
    refine hK3 _ _ ?_
    first | refine wc_dec (hF.ev rfl) (fun c20 => ?_) (fun c20 => ?_) | refine wc_ndec (hF.ev rfl) (fun c20 => ?_) (fun c20 => ?_) | refine wc_b (hF.ev rfl) (fun c20 => ?_) (fun c20 => ?_)
    ·
      refine wp_seq_k fun K5 hK5 => ?_
      refine wp_region_lit ?_
      refine wl hF rfl rfl rfl (r_assign ec) ?_; clear hF a; intro a hF
      refine wl_nil ?_
      refine hK5 _ _ ?_
      refine wp_ret ?_
      try simp only [Exit.then, Exit.inBlock, ↓reduceIte]
      refine ret1 rfl hF rfl ⟨congrArg Value.bool (Eq.symm ?_), hS.old⟩
      first
        | exact decide_eq_false (fun e => b12 (congrArg Model.values e))
        | exact decide_eq_false (fun e => c20 (by rw [e]))
        | exact decide_eq_false (fun e => by subst e; rw [hxe] at hye; exact c39 (Option.some.inj hye))
        | exact decide_eq_true (by have q := eq_rows htk hk hlen (by assumption); cases x; cases y; simp only [Model.mk.injEq]; exact ⟨b12, q⟩)
    ·
      refine wp_skip ?_
      refine hK2 _ _ ?_
      refine wp_seq_k fun K6 hK6 => ?_
      refine wp_seq_k fun K7 hK7 => ?_
      refine wp_region_lit ?_
      refine wl hF rfl rfl rfl (r_assign ec) ?_; clear hF a; intro a hF
      refine wl_nil ?_
      refine hK7 _ _ ?_
      refine wp_block ?_
      refine wp_loop_g (σ := Nat) (fun k a w => k ≤ x.snapshots.length ∧ x.snapshots.length = y.snapshots.length ∧ x.snapshots.take k = y.snapshots.take k ∧ Sep W [Box g2 [u0, .slice A_y y.snapshots.length q_y], Box g1 [v0, .slice A_x x.snapshots.length q_x]] w ∧ Fr 40 [(5, vi k), (3, .pointer (some ⟨g2, 0, none⟩)), (2, .pointer (some ⟨g1, 0, none⟩))] a) (fun k => x.snapshots.length - k) 0 ?_ ?_
      · exact ⟨Nat.zero_le _, by omega, rfl, hS, (((hF.nil.keep hF (t := 2) rfl).keep hF (t := 3) rfl).keep hF (t := 5) rfl)⟩
      ·
        clear hF hS a
        rintro k a w ⟨hk, hlen, htk, hS, hF⟩
        refine wp_seq_k fun K8 hK8 => ?_
        refine wp_seq_k fun K9 hK9 => ?_
        refine wp_region_lit ?_
        refine wl hF rfl rfl rfl (r_move (hF.ev rfl)) ?_; clear hF a; intro a hF
        refine wl hF rfl rfl rfl (r_field fo33_1 (hF.ev rfl)) ?_; clear hF a; intro a hF
        refine wl hF rfl rfl rfl (r_load1 sc28 (hF.ev rfl) (hS.box (i := 1) rfl rfl)) ?_; clear hF a; intro a hF
        refine wl hF rfl rfl rfl (r_len ul28 (hF.ev rfl)) ?_; clear hF a; intro a hF
        refine wl hF rfl rfl rfl (r_lss (hF.ev rfl) (hF.ev rfl)) ?_; clear hF a; intro a hF
        refine wl_nil ?_
        refine hK9 _ _ ?_
        first | refine wc_dec (hF.ev rfl) (fun c25 => ?_) (fun c25 => ?_) | refine wc_ndec (hF.ev rfl) (fun c25 => ?_) (fun c25 => ?_) | refine wc_b (hF.ev rfl) (fun c25 => ?_) (fun c25 => ?_)
        ·
          have hlt : k < x.snapshots.length := by omega
          obtain ⟨xe, hxe⟩ : ∃ xe, x.snapshots[k]? = some xe := ⟨_, List.getElem?_eq_getElem hlt⟩
          obtain ⟨ye, hye⟩ : ∃ ye, y.snapshots[k]? = some ye := ⟨_, List.getElem?_eq_getElem (by omega)⟩
          refine wp_skip ?_
          refine hK8 _ _ ?_
          refine wp_seq_k fun K10 hK10 => ?_
          refine wp_block ?_
          refine wp_seq_k fun K11 hK11 => ?_
          refine wp_region_calm (by kernel_rfl) (by kernel_rfl) ?_
          refine wq hF rfl rfl rfl (fun w_ hB_ => r_field fo33_1 (hF.ev rfl)) ?_; clear hF a; intro a hF
          refine wq hF rfl rfl rfl (fun w_ hB_ => r_load1 sc28 (hF.ev rfl) ((hS.ext hB_).box (i := 1) rfl rfl)) ?_; clear hF a; intro a hF
          refine wq hF rfl rfl rfl (fun w_ hB_ => r_move (hF.ev rfl)) ?_; clear hF a; intro a hF
          obtain ⟨g31, o31, m31, q31, cs31, hv31, hm31, hl31, hk31, hz31, hc31⟩ := Rd.idx (r1) hxe
          obtain ⟨v31, rfl, hr31⟩ := hk31
          refine wq hF rfl rfl rfl (fun w_ hB_ => r_index sl28 ((hF.ev rfl).trans hv31) (hF.ev rfl) (by omega) (by omega)) ?_; clear hF a; intro a hF
          refine wq hF rfl rfl rfl (fun w_ hB_ => r_load1 sc22 (hF.ev rfl) (cellB (hS.ext hB_).old (hc31 0 _ rfl))) ?_; clear hF a; intro a hF
          refine wq hF rfl rfl rfl (fun w_ hB_ => r_field fo33_1 (hF.ev rfl)) ?_; clear hF a; intro a hF
          refine wq hF rfl rfl rfl (fun w_ hB_ => r_load1 sc28 (hF.ev rfl) ((hS.ext hB_).box (i := 0) rfl rfl)) ?_; clear hF a; intro a hF
          refine wq hF rfl rfl rfl (fun w_ hB_ => r_move (hF.ev rfl)) ?_; clear hF a; intro a hF
          obtain ⟨g36, o36, m36, q36, cs36, hv36, hm36, hl36, hk36, hz36, hc36⟩ := Rd.idx (q1) hye
          obtain ⟨v36, rfl, hr36⟩ := hk36
          refine wq hF rfl rfl rfl (fun w_ hB_ => r_index sl28 ((hF.ev rfl).trans hv36) (hF.ev rfl) (by omega) (by omega)) ?_; clear hF a; intro a hF
          refine wq hF rfl rfl rfl (fun w_ hB_ => r_load1 sc22 (hF.ev rfl) (cellB (hS.ext hB_).old (hc36 0 _ rfl))) ?_; clear hF a; intro a hF
          refine wq_call hF rfl rfl rfl (fun w_ hB_ => r_call2 en68 (hF.ev rfl) (hF.ev rfl)) (fun w_ hB_ => l7Ints_c ((hS.ext hB_).rd hr31) ((hS.ext hB_).rd hr36)) ?_; clear hF a; intro a hF
          refine wq hF rfl rfl rfl (fun w_ hB_ => r_not (hF.ev rfl)) ?_; clear hF a; intro a hF
          refine wpQuiet_nil ?_; intro w4 hB_; replace hS := hS.ext hB_; clear hB_
          refine hK11 _ _ ?_
          first | refine wc_dec (hF.ev rfl) (fun c39 => ?_) (fun c39 => ?_) | refine wc_ndec (hF.ev rfl) (fun c39 => ?_) (fun c39 => ?_) | refine wc_b (hF.ev rfl) (fun c39 => ?_) (fun c39 => ?_)
          ·
            refine wp_seq_k fun K12 hK12 => ?_
            refine wp_region_lit ?_
            refine wl hF rfl rfl rfl (r_assign ec) ?_; clear hF a; intro a hF
            refine wl_nil ?_
            refine hK12 _ _ ?_
            refine wp_ret ?_
            try simp only [Exit.then, Exit.inBlock, ↓reduceIte]
            refine ret1 rfl hF rfl ⟨congrArg Value.bool (Eq.symm ?_), hS.old⟩
            first
              | exact decide_eq_false (fun e => b12 (congrArg Model.values e))
              | exact decide_eq_false (fun e => c20 (by rw [e]))
              | exact decide_eq_false (fun e => by subst e; rw [hxe] at hye; exact c39 (Option.some.inj hye))
              | exact decide_eq_true (by have q := eq_rows htk hk hlen (by assumption); cases x; cases y; simp only [Model.mk.injEq]; exact ⟨b12, q⟩)
          ·
            refine wp_skip ?_
            simp only [Exit.then, Exit.inBlock, ↓reduceIte]
            refine hK10 _ _ ?_
            refine wp_region_lit ?_
            refine wl hF rfl rfl rfl (r_move (hF.ev rfl)) ?_; clear hF a; intro a hF
            refine wl hF rfl rfl rfl (r_add (hF.ev rfl) ec) ?_; clear hF a; intro a hF
            refine wl hF rfl rfl rfl (r_assign (hF.ev rfl)) ?_; clear hF a; intro a hF
            refine wl_nil ?_
            try simp only [Exit.then, Exit.inBlock, ↓reduceIte]
            exact ⟨k + 1, ⟨by omega, hlen, take_next htk hxe hye c39, hS, (((hF.nil.keep hF (t := 2) rfl).keep hF (t := 3) rfl).keepE hF (t := 5) rfl (wk (by omega)))⟩, by omega⟩
        ·
          refine wp_exit ?_
          simp only [Exit.then, Exit.inBlock, ↓reduceIte]
          refine hK6 _ _ ?_
          refine wp_seq_k fun K13 hK13 => ?_
          refine wp_region_lit ?_
          refine wl hF rfl rfl rfl (r_assign ec) ?_; clear hF a; intro a hF
          refine wl_nil ?_
          refine hK13 _ _ ?_
          refine wp_ret ?_
          try simp only [Exit.then, Exit.inBlock, ↓reduceIte]
          refine ret1 rfl hF rfl ⟨congrArg Value.bool (Eq.symm ?_), hS.old⟩
          first
            | exact decide_eq_false (fun e => b12 (congrArg Model.values e))
            | exact decide_eq_false (fun e => c20 (by rw [e]))
            | exact decide_eq_false (fun e => by subst e; rw [hxe] at hye; exact c39 (Option.some.inj hye))
            | exact decide_eq_true (by have q := eq_rows htk hk hlen (by assumption); cases x; cases y; simp only [Model.mk.injEq]; exact ⟨b12, q⟩)

set_option maxHeartbeats 4000000 in
set_option maxRecDepth 20000 in
theorem implEqualModels_c {W : World} {x y : Model} {cs ds : List Value} (hx : modelEK.K W x cs) (hy : modelEK.K W y ds) : Calls Try.prog 24 #[.agg cs.toArray, .agg ds.toArray] W (Ret fun v w' => v = .bool (decide (x = y)) ∧ Below W.heap.size W w') := by
  refine calls_fr Try.func24 rfl Try.ntmps24 rfl ?_
  intro a hF
  obtain ⟨v0, v1, rfl, r0, r1⟩ := hx
  obtain ⟨u0, u1, rfl, q0, q1⟩ := hy
  obtain ⟨A_x, q_x, rfl, hq_x, hn_x⟩ := r1.sl; unfold maxLen at hn_x
  obtain ⟨A_y, q_y, rfl, hq_y, hn_y⟩ := q1.sl; unfold maxLen at hn_y
  have hS := Sep.refl W
  refine wp_seq_k fun K1 hK1 => ?_
  refine wp_region_lit ?_
  refine wl_box hF hS rfl (hF.ev rfl) rfl ?_; clear hF a; intro g1 w1 a hS_ hB_ hF; replace hS := hS_; clear hS_ hB_
  refine wl_box hF hS rfl (hF.ev rfl) rfl ?_; clear hF a; intro g2 w2 a hS_ hB_ hF; replace hS := hS_; clear hS_ hB_
  refine wl hF rfl rfl rfl (r_assign ec) ?_; clear hF a; intro a hF
  refine wl_nil ?_
  refine hK1 _ _ ?_
  refine wp_seq_k fun K2 hK2 => ?_
  refine wp_region_lit ?_
  refine wl hF rfl rfl rfl (r_field fo33_0 (hF.ev rfl)) ?_; clear hF a; intro a hF
  refine wl hF rfl rfl rfl (r_load1 sc22 (hF.ev rfl) (hS.box (i := 1) rfl rfl)) ?_; clear hF a; intro a hF
  refine wl hF rfl rfl rfl (r_field fo33_0 (hF.ev rfl)) ?_; clear hF a; intro a hF
  refine wl hF rfl rfl rfl (r_load1 sc22 (hF.ev rfl) (hS.box (i := 0) rfl rfl)) ?_; clear hF a; intro a hF
  refine wl_call hF rfl rfl rfl (r_call2 en70 (hF.ev rfl) (hF.ev rfl)) (sliceEq_c (hS.rd r0) (hS.rd q0)) ?_; clear hF a; rintro v w3 a ⟨rfl, hB_⟩ hF; replace hS := hS.ext hB_; clear hB_
  refine wl hF rfl rfl rfl (r_move (hF.ev rfl)) ?_; clear hF a; intro a hF
  revert hF; intro hF0; refine bsplit (t := 10) hF0 rfl (fun b10 hF => ?_) (fun b10 hF => ?_)
  ·
    clear hF0
    try simp only [decide_eq_true_eq, decide_eq_false_iff_not, Bool.not_eq_true', Bool.not_eq_false'] at b10
    refine wl_take hF rfl rfl rfl rfl ?_
    refine wl hF rfl rfl rfl (r_field fo33_1 (hF.ev rfl)) ?_; clear hF a; intro a hF
    refine wl_take hF rfl rfl rfl rfl ?_
    refine wl hF rfl rfl rfl (r_load1 sc28 (hF.ev rfl) (hS.box (i := 1) rfl rfl)) ?_; clear hF a; intro a hF
    refine wl_take hF rfl rfl rfl rfl ?_
    refine wl hF rfl rfl rfl (r_field fo33_1 (hF.ev rfl)) ?_; clear hF a; intro a hF
    refine wl_take hF rfl rfl rfl rfl ?_
    refine wl hF rfl rfl rfl (r_load1 sc28 (hF.ev rfl) (hS.box (i := 0) rfl rfl)) ?_; clear hF a; intro a hF
    refine wl_take hF rfl rfl rfl rfl ?_
    refine wl_call hF rfl rfl rfl (r_call3 en71 (hF.ev rfl) (hF.ev rfl) ef) (equalFunc_c (hS.rd r1) (hS.rd q1)) ?_; clear hF a; rintro v w4 a ⟨rfl, hB_⟩ hF; replace hS := hS.ext hB_; clear hB_
    refine wl hF rfl rfl rfl (r_pick_t (hF.ev rfl) (hF.ev rfl)) ?_; clear hF a; intro a hF
    refine wl hF rfl rfl rfl (r_assign (hF.ev rfl)) ?_; clear hF a; intro a hF
    refine wl_nil ?_
    refine hK2 _ _ ?_
    refine wp_ret ?_
    try simp only [Exit.then, Exit.inBlock, ↓reduceIte]
    refine ret1 rfl hF rfl ⟨congrArg Value.bool (Eq.symm ?_), hS.old⟩
    first
      | exact decide_eq_false (fun e => b10 (congrArg Model.values e))
      | exact decide_eq_decide.2 ⟨fun e => by rw [e], fun e => by cases x; cases y; simp only [Model.mk.injEq]; exact ⟨b10, e⟩⟩
  ·
    clear hF0
    try simp only [decide_eq_true_eq, decide_eq_false_iff_not, Bool.not_eq_true', Bool.not_eq_false'] at b10
    refine wl_skip hF rfl rfl rfl rfl rfl rfl ?_; clear hF a; intro a hF
    refine wl_skip hF rfl rfl rfl rfl rfl rfl ?_; clear hF a; intro a hF
    refine wl_skip hF rfl rfl rfl rfl rfl rfl ?_; clear hF a; intro a hF
    refine wl_skip hF rfl rfl rfl rfl rfl rfl ?_; clear hF a; intro a hF
    refine wl_skip hF rfl rfl rfl rfl rfl rfl ?_; clear hF a; intro a hF
    refine wl hF rfl rfl rfl (r_pick_f (hF.ev rfl) ec) ?_; clear hF a; intro a hF
    refine wl hF rfl rfl rfl (r_assign (hF.ev rfl)) ?_; clear hF a; intro a hF
    refine wl_nil ?_
    refine hK2 _ _ ?_
    refine wp_ret ?_
    try simp only [Exit.then, Exit.inBlock, ↓reduceIte]
    refine ret1 rfl hF rfl ⟨congrArg Value.bool (Eq.symm ?_), hS.old⟩
    first
      | exact decide_eq_false (fun e => b10 (congrArg Model.values e))
      | exact decide_eq_decide.2 ⟨fun e => by rw [e], fun e => by cases x; cases y; simp only [Model.mk.injEq]; exact ⟨b10, e⟩⟩

set_option maxHeartbeats 4000000 in
set_option maxRecDepth 20000 in
theorem law_FnExactEqualModels {W : World} {x y : Model} {cs ds : List Value} (hx : modelEK.K W x cs) (hy : modelEK.K W y ds) : Calls Try.prog 4 #[.agg cs.toArray, .agg ds.toArray] W (Ret fun v w' => v = .bool true ∧ Below W.heap.size W w') := by
  refine calls_fr Try.func4 rfl Try.ntmps4 rfl ?_
  intro a hF
  have hS := Sep.refl W
  obtain ⟨v0, v1, rfl, r0, r1⟩ := hx
  obtain ⟨u0, u1, rfl, q0, q1⟩ := hy
  have hx : modelEK.K W x (x.encv v0 v1) := ⟨_, _, rfl, r0, r1⟩
  have hy : modelEK.K W y (y.encv u0 u1) := ⟨_, _, rfl, q0, q1⟩
  refine wp_seq_k fun K1 hK1 => ?_
  refine wp_region_lit ?_
  refine wl_box hF hS rfl (hF.ev rfl) rfl ?_; clear hF a; intro g1 w1 a hS_ hB_ hF; replace hS := hS_; clear hS_ hB_
  refine wl_box hF hS rfl (hF.ev rfl) rfl ?_; clear hF a; intro g2 w2 a hS_ hB_ hF; replace hS := hS_; clear hS_ hB_
  refine wl hF rfl rfl rfl (r_assign ec) ?_; clear hF a; intro a hF
  refine wl_nil ?_
  refine hK1 _ _ ?_
  refine wp_seq_k fun K2 hK2 => ?_
  refine wp_region_lit ?_
  refine wl hF rfl rfl rfl (r_assign ec) ?_; clear hF a; intro a hF
  refine wl_nil ?_
  refine hK2 _ _ ?_
  refine wp_seq_k fun K3 hK3 => ?_
  refine wp_region_lit ?_
  refine wl hF rfl rfl rfl (r_loadn ag30 (hF.ev rfl) (hS.box_rd (i := 1) rfl) sz30) ?_; clear hF a; intro a hF
  refine wl hF rfl rfl rfl (r_move (hF.ev rfl)) ?_; clear hF a; intro a hF
  refine wl_call hF rfl rfl rfl (r_call2 en21 (hF.ev rfl) (hF.ev rfl)) (szModel_c (hS.k hx) (by omega) (by omega)) ?_; clear hF a; rintro v w3 a ⟨⟨r12, rfl, e1_12, e2_12, e3_12⟩, hB_⟩ hF; replace hS := hS.ext hB_; clear hB_
  refine wl hF rfl rfl rfl (r_assign (hF.ev rfl)) ?_; clear hF a; intro a hF
  refine wl_nil ?_
  refine hK3 _ _ ?_
  refine wp_seq_k fun K4 hK4 => ?_
  refine wp_seq_k fun K5 hK5 => ?_
  refine wp_region_lit ?_
  refine wl hF rfl rfl rfl (r_move (hF.ev rfl)) ?_; clear hF a; intro a hF
  refine wl hF rfl rfl rfl (r_lss (hF.ev rfl) ec) ?_; clear hF a; intro a hF
  refine wl_nil ?_
  refine hK5 _ _ ?_
  first | refine wc_dec (hF.ev rfl) (fun c14 => ?_) (fun c14 => ?_) | refine wc_ndec (hF.ev rfl) (fun c14 => ?_) (fun c14 => ?_) | refine wc_b (hF.ev rfl) (fun c14 => ?_) (fun c14 => ?_)
  ·
    refine wp_seq_k fun K6 hK6 => ?_
    refine wp_region_lit ?_
    refine wl hF rfl rfl rfl (r_assign ec) ?_; clear hF a; intro a hF
    refine wl_nil ?_
    refine hK6 _ _ ?_
    refine wp_ret ?_
    try simp only [Exit.then, Exit.inBlock, ↓reduceIte]
    exact ret1 rfl hF rfl ⟨rfl, hS.old⟩
  ·
    refine wp_skip ?_
    refine hK4 _ _ ?_
    refine wp_seq_k fun K7 hK7 => ?_
    refine wp_region_lit ?_
    refine wl hF rfl rfl rfl (r_loadn ag30 (hF.ev rfl) (hS.box_rd (i := 0) rfl) sz30) ?_; clear hF a; intro a hF
    refine wl hF rfl rfl rfl (r_move (hF.ev rfl)) ?_; clear hF a; intro a hF
    refine wl_call hF rfl rfl rfl (r_call2 en21 (hF.ev rfl) (hF.ev rfl)) (szModel_c (hS.k hy) (by omega) (by omega)) ?_; clear hF a; rintro v w4 a ⟨⟨r17, rfl, e1_17, e2_17, e3_17⟩, hB_⟩ hF; replace hS := hS.ext hB_; clear hB_
    refine wl hF rfl rfl rfl (r_assign (hF.ev rfl)) ?_; clear hF a; intro a hF
    refine wl_nil ?_
    refine hK7 _ _ ?_
    refine wp_seq_k fun K8 hK8 => ?_
    refine wp_seq_k fun K9 hK9 => ?_
    refine wp_region_lit ?_
    refine wl hF rfl rfl rfl (r_move (hF.ev rfl)) ?_; clear hF a; intro a hF
    refine wl hF rfl rfl rfl (r_lss (hF.ev rfl) ec) ?_; clear hF a; intro a hF
    refine wl_nil ?_
    refine hK9 _ _ ?_
    first | refine wc_dec (hF.ev rfl) (fun c19 => ?_) (fun c19 => ?_) | refine wc_ndec (hF.ev rfl) (fun c19 => ?_) (fun c19 => ?_) | refine wc_b (hF.ev rfl) (fun c19 => ?_) (fun c19 => ?_)
    ·
      refine wp_seq_k fun K10 hK10 => ?_
      refine wp_region_lit ?_
      refine wl hF rfl rfl rfl (r_assign ec) ?_; clear hF a; intro a hF
      refine wl_nil ?_
      refine hK10 _ _ ?_
      refine wp_ret ?_
      try simp only [Exit.then, Exit.inBlock, ↓reduceIte]
      exact ret1 rfl hF rfl ⟨rfl, hS.old⟩
    ·
      refine wp_skip ?_
      refine hK8 _ _ ?_
      refine wp_seq_k fun K11 hK11 => ?_
      refine wp_region_todo (is := [0, 2, 1, 3, 4, 5]) [] [] (by kernel_rfl) hF hS ⟨trivial, by decide, by decide, by decide⟩ (by kernel_rfl) ?_; clear hF; intro hl_ wd hSd
      refine todo_quiet hl_ (by kernel_rfl) rfl rfl rfl rfl rfl (fun a w_ hF hB_ => r_loadn ag30 (hF.ev rfl) ((hSd.ext hB_).box_rd (i := 1) rfl) sz30) ?_
      refine todo_quiet hl_ (by kernel_rfl) rfl rfl rfl rfl rfl (fun a w_ hF hB_ => r_loadn ag30 (hF.ev rfl) ((hSd.ext hB_).box_rd (i := 0) rfl) sz30) ?_
      refine todo_mk hl_ rfl (by kernel_rfl) rfl rfl rfl rfl rfl (fun a w_ hF => r_call1 en23 (hF.ev rfl)) (fun w_ hS => toModel_c (hS.k hx) (by omega)) ?_; rintro vs21
      refine todo_mk hl_ rfl (by kernel_rfl) rfl rfl rfl rfl rfl (fun a w_ hF => r_call1 en23 (hF.ev rfl)) (fun w_ hS => toModel_c (hS.k hy) (by omega)) ?_; rintro vs23
      refine todo_rd hl_ rfl (by kernel_rfl) rfl rfl rfl rfl rfl (fun a w_ hF => r_call2 en22 (hF.ev rfl) (hF.ev rfl)) (fun w_ hS => specEqualModels_c (hS.part_k (i := 1) rfl) (hS.part_k (i := 0) rfl)) ?_
      refine todo_quiet hl_ (by kernel_rfl) rfl rfl rfl rfl rfl (fun a w_ hF hB_ => r_assign (hF.ev rfl)) ?_
      refine todo_fin hl_ rfl (by kernel_rfl) (tl := []) rfl ?_; clear hS a; intro a w5 hF hA_
      have hS := hA_.sep; clear hA_
      clear hl_ hSd wd; dsimp only [List.cons_append, List.nil_append] at hS
      refine wl_nil ⟨rfl, ?_⟩
      refine hK11 _ _ ?_
      refine wp_seq_k fun K12 hK12 => ?_
      refine wp_region_lit ?_
      refine wl hF rfl rfl rfl (r_loadn ag30 (hF.ev rfl) (hS.box_rd (i := 3) rfl) sz30) ?_; clear hF a; intro a hF
      refine wl_mk hF hS rfl rfl rfl (r_call1 en23 (hF.ev rfl)) (toModel_c (hS.k hx) (by omega)) ?_; clear hF a; rintro vs26 w6 a hS_ hF; replace hS := hS_; clear hS_; dsimp only [List.cons_append, List.nil_append] at hS
      refine wl_alloc hF hS rfl zr33 ?_; clear hF a; intro g3 w7 a hS_ hB_ hF; replace hS := hS_; clear hS_ hB_
      refine wl_storew hF hS (i := 0) rfl (hF.ev rfl) (hF.ev rfl) sz33 rfl rfl ?_; intro w8 hS_; replace hS := hS_; clear hS_; dsimp only [List.set, Nat.reduceAdd] at hS
      refine wl_nil ?_
      refine hK12 _ _ ?_
      refine wp_seq_k fun K13 hK13 => ?_
      refine wp_region_lit ?_
      refine wl hF rfl rfl rfl (r_loadn ag30 (hF.ev rfl) (hS.box_rd (i := 4) rfl) sz30) ?_; clear hF a; intro a hF
      refine wl_mk hF hS rfl rfl rfl (r_call1 en23 (hF.ev rfl)) (toModel_c (hS.k hy) (by omega)) ?_; clear hF a; rintro vs28 w9 a hS_ hF; replace hS := hS_; clear hS_; dsimp only [List.cons_append, List.nil_append] at hS
      refine wl_alloc hF hS rfl zr33 ?_; clear hF a; intro g4 w10 a hS_ hB_ hF; replace hS := hS_; clear hS_ hB_
      refine wl_storew hF hS (i := 0) rfl (hF.ev rfl) (hF.ev rfl) sz33 rfl rfl ?_; intro w11 hS_; replace hS := hS_; clear hS_; dsimp only [List.set, Nat.reduceAdd] at hS
      refine wl_nil ?_
      refine hK13 _ _ ?_
      refine wp_seq_k fun K14 hK14 => ?_
      refine wp_region_lit ?_
      refine wl hF rfl rfl rfl (r_loadn ag33 (hF.ev rfl) (hS.box_rd (i := 2) rfl) sz33) ?_; clear hF a; intro a hF
      refine wl hF rfl rfl rfl (r_loadn ag33 (hF.ev rfl) (hS.box_rd (i := 0) rfl) sz33) ?_; clear hF a; intro a hF
      refine wl_call hF rfl rfl rfl (r_call2 en24 (hF.ev rfl) (hF.ev rfl)) (implEqualModels_c (hS.part_k (i := 3) rfl) (hS.part_k (i := 1) rfl)) ?_; clear hF a; rintro v w12 a ⟨rfl, hB_⟩ hF; replace hS := hS.ext hB_; clear hB_
      refine wl hF rfl rfl rfl (r_assign (hF.ev rfl)) ?_; clear hF a; intro a hF
      refine wl_nil ?_
      refine hK14 _ _ ?_
      refine wp_seq_k fun K15 hK15 => ?_
      refine wp_seq_k fun K16 hK16 => ?_
      refine wp_region_lit ?_
      refine wl hF rfl rfl rfl (r_move (hF.ev rfl)) ?_; clear hF a; intro a hF
      refine wl hF rfl rfl rfl (r_move (hF.ev rfl)) ?_; clear hF a; intro a hF
      refine wl hF rfl rfl rfl (r_neqb bl4 (hF.ev rfl) (hF.ev rfl)) ?_; clear hF a; intro a hF
      refine wl_nil ?_
      refine hK16 _ _ ?_
      first | refine wc_dec (hF.ev rfl) (fun c34 => ?_) (fun c34 => ?_) | refine wc_ndec (hF.ev rfl) (fun c34 => ?_) (fun c34 => ?_) | refine wc_b (hF.ev rfl) (fun c34 => ?_) (fun c34 => ?_)
      · exfalso; first | omega | exact (c34 rfl).elim | (simp_all; done)
      refine wp_skip ?_
      refine hK15 _ _ ?_
      refine wp_seq_k fun K17 hK17 => ?_
      refine wp_seq_k fun K18 hK18 => ?_
      refine wp_region_todo (is := [0, 1, 2, 3, 4]) [] [] (by kernel_rfl) hF hS ⟨trivial, by decide, by decide, by decide⟩ (by kernel_rfl) ?_; clear hF; intro hl_ wd hSd
      refine todo_quiet hl_ (by kernel_rfl) rfl rfl rfl rfl rfl (fun a w_ hF hB_ => r_loadn ag33 (hF.ev rfl) ((hSd.ext hB_).box_rd (i := 2) rfl) sz33) ?_
      refine todo_quiet hl_ (by kernel_rfl) rfl rfl rfl rfl rfl (fun a w_ hF hB_ => r_loadn ag30 (hF.ev rfl) ((hSd.ext hB_).box_rd (i := 7) rfl) sz30) ?_
      refine todo_mk hl_ rfl (by kernel_rfl) rfl rfl rfl rfl rfl (fun a w_ hF => r_call1 en23 (hF.ev rfl)) (fun w_ hS => toModel_c (hS.k hx) (by omega)) ?_; rintro vs37
      refine todo_rd hl_ rfl (by kernel_rfl) rfl rfl rfl rfl rfl (fun a w_ hF => r_call2 en25 (hF.ev rfl) (hF.ev rfl)) (fun w_ hS => eqModel_same (hS.part_k (i := 4) rfl) (hS.part_k (i := 0) rfl)) ?_
      refine todo_quiet hl_ (by kernel_rfl) rfl rfl rfl rfl rfl (fun a w_ hF hB_ => r_not (hF.ev rfl)) ?_
      refine todo_fin hl_ rfl (by kernel_rfl) (tl := []) rfl ?_; clear hS a; intro a w13 hF hA_
      have hS := hA_.sep; clear hA_
      clear hl_ hSd wd; dsimp only [List.cons_append, List.nil_append] at hS
      refine wl_nil ⟨rfl, ?_⟩
      refine hK18 _ _ ?_
      refine wc_false (hF.ev rfl) ?_
      refine wp_skip ?_
      refine hK17 _ _ ?_
      refine wp_seq_k fun K19 hK19 => ?_
      refine wp_seq_k fun K20 hK20 => ?_
      refine wp_region_todo (is := [0, 1, 2, 3, 4]) [] [] (by kernel_rfl) hF hS ⟨trivial, by decide, by decide, by decide⟩ (by kernel_rfl) ?_; clear hF; intro hl_ wd hSd
      refine todo_quiet hl_ (by kernel_rfl) rfl rfl rfl rfl rfl (fun a w_ hF hB_ => r_loadn ag33 (hF.ev rfl) ((hSd.ext hB_).box_rd (i := 1) rfl) sz33) ?_
      refine todo_quiet hl_ (by kernel_rfl) rfl rfl rfl rfl rfl (fun a w_ hF hB_ => r_loadn ag30 (hF.ev rfl) ((hSd.ext hB_).box_rd (i := 7) rfl) sz30) ?_
      refine todo_mk hl_ rfl (by kernel_rfl) rfl rfl rfl rfl rfl (fun a w_ hF => r_call1 en23 (hF.ev rfl)) (fun w_ hS => toModel_c (hS.k hy) (by omega)) ?_; rintro vs42
      refine todo_rd hl_ rfl (by kernel_rfl) rfl rfl rfl rfl rfl (fun a w_ hF => r_call2 en25 (hF.ev rfl) (hF.ev rfl)) (fun w_ hS => eqModel_same (hS.part_k (i := 3) rfl) (hS.part_k (i := 0) rfl)) ?_
      refine todo_quiet hl_ (by kernel_rfl) rfl rfl rfl rfl rfl (fun a w_ hF hB_ => r_not (hF.ev rfl)) ?_
      refine todo_fin hl_ rfl (by kernel_rfl) (tl := []) rfl ?_; clear hS a; intro a w14 hF hA_
      have hS := hA_.sep; clear hA_
      clear hl_ hSd wd; dsimp only [List.cons_append, List.nil_append] at hS
      refine wl_nil ⟨rfl, ?_⟩
      refine hK20 _ _ ?_
      refine wc_false (hF.ev rfl) ?_
      refine wp_skip ?_
      refine hK19 _ _ ?_
      refine wp_seq_k fun K21 hK21 => ?_
      refine wp_region_lit ?_
      refine wl hF rfl rfl rfl (r_assign ec) ?_; clear hF a; intro a hF
      refine wl_nil ?_
      refine hK21 _ _ ?_
      refine wp_ret ?_
      try simp only [Exit.then, Exit.inBlock, ↓reduceIte]
      exact ret1 rfl hF rfl ⟨rfl, hS.old⟩

end Go.Proofs.Ytgilfekfplfohaa.Wk
