/- Walks: SplitLimbo, the reference's, the program's, and the law. -/
import Derived.Test.YtgilfekfplfohaaChecked
import Derived.Test.YtgilfekfplfohaaWkA
namespace Go.Proofs.Ytgilfekfplfohaa.Wk
open Go Go.RowKit Sl
set_option linter.unusedVariables false
set_option linter.unusedSimpArgs false
set_option maxRecDepth 20000

def splitIn (xs ys : List Int) : List Int := xs.filter fun x => decide (x ∈ ys)
def splitOut (xs ys : List Int) : List Int := xs.filter fun x => !decide (x ∈ ys)
section
variable {xs ys : List Int} {k : Nat} {x : Int}
theorem in_yes (hx : xs[k]? = some x) (h : x ∈ ys) : splitIn (xs.take (k + 1)) ys = splitIn (xs.take k) ys ++ [x] := by
  simp [splitIn, List.take_add_one, hx, h]
theorem in_no (hx : xs[k]? = some x) (h : ¬ x ∈ ys) : splitIn (xs.take (k + 1)) ys = splitIn (xs.take k) ys := by
  simp [splitIn, List.take_add_one, hx, h]
theorem out_yes (hx : xs[k]? = some x) (h : x ∈ ys) : splitOut (xs.take (k + 1)) ys = splitOut (xs.take k) ys := by
  simp [splitOut, List.take_add_one, hx, h]
theorem out_no (hx : xs[k]? = some x) (h : ¬ x ∈ ys) : splitOut (xs.take (k + 1)) ys = splitOut (xs.take k) ys ++ [x] := by
  simp [splitOut, List.take_add_one, hx, h]
theorem in_le (xs ys : List Int) (k : Nat) : (splitIn (xs.take k) ys).length ≤ xs.length :=
  Nat.le_trans (List.length_filter_le _ _) (by simp; omega)
theorem out_le (xs ys : List Int) (k : Nat) : (splitOut (xs.take k) ys).length ≤ xs.length :=
  Nat.le_trans (List.length_filter_le _ _) (by simp; omega)
theorem in_le' (xs ys : List Int) : (splitIn xs ys).length ≤ xs.length := List.length_filter_le _ _
theorem out_le' (xs ys : List Int) : (splitOut xs ys).length ≤ xs.length := List.length_filter_le _ _
theorem notin_next (h : ¬ x ∈ xs.take k) {y : Int} (hy : xs[k]? = some y) (e : ¬ y = x) : ¬ x ∈ xs.take (k + 1) := by
  rw [List.take_add_one, hy]
  simp only [Option.toList_some, List.mem_append, List.mem_singleton, not_or]
  exact ⟨h, fun h => e h.symm⟩
theorem mem_at {y : Int} (hy : xs[k]? = some y) (e : y = x) : x ∈ xs := by
  subst e; exact List.mem_of_getElem? hy
theorem notin_all (h : ¬ x ∈ xs.take k) (hk : k ≤ xs.length) (h1 : ¬ (k : Int) < xs.length) : ¬ x ∈ xs := by
  have : k = xs.length := by omega
  subst this
  rwa [List.take_length] at h
end

set_option maxHeartbeats 4000000 in
set_option maxRecDepth 20000 in
theorem l8Has_c {W : World} {va : Value} {xs : List Int} {x : Int} (ha : intEK.Rd W va xs) : Calls Try.prog 64 #[va, vi x] W (Ret fun v w' => v = .bool (decide (x ∈ xs)) ∧ Below W.heap.size W w') := by
  refine calls_fr Try.func64 rfl Try.ntmps64 rfl ?_
  intro a hF
  have hS := Sep.refl W
  obtain ⟨A_a, q_a, rfl, hq_a, hn_a⟩ := ha.sl; unfold maxLen at hn_a
  refine wp_seq_k fun K1 hK1 => ?_
  refine wp_region_lit ?_
  refine wl hF rfl rfl rfl (r_assign ec) ?_; clear hF a; intro a hF
  refine wl_nil ?_
  refine hK1 _ _ ?_
  refine wp_seq_k fun K2 hK2 => ?_
  refine wp_seq_k fun K3 hK3 => ?_
  refine wp_region_lit ?_
  refine wl hF rfl rfl rfl (r_assign ec) ?_; clear hF a; intro a hF
  refine wl_nil ?_
  refine hK3 _ _ ?_
  refine wp_block ?_
  refine wp_loop_g (σ := Nat) (fun k a w => k ≤ xs.length ∧ ¬ x ∈ xs.take k ∧ Sep W [] w ∧ Fr 18 [(5, vi k), (1, vi x), (0, .slice A_a xs.length q_a)] a) (fun k => xs.length - k) 0 ?_ ?_
  · exact ⟨Nat.zero_le _, by simp, hS, (((hF.nil.keep hF (t := 0) rfl).keep hF (t := 1) rfl).keep hF (t := 5) rfl)⟩
  ·
    clear hF hS a
    rintro k a w ⟨hk, hn, hS, hF⟩
    refine wp_seq_k fun K4 hK4 => ?_
    refine wp_seq_k fun K5 hK5 => ?_
    refine wp_region_lit ?_
    refine wl hF rfl rfl rfl (r_move (hF.ev rfl)) ?_; clear hF a; intro a hF
    refine wl hF rfl rfl rfl (r_move (hF.ev rfl)) ?_; clear hF a; intro a hF
    refine wl hF rfl rfl rfl (r_len ul22 (hF.ev rfl)) ?_; clear hF a; intro a hF
    refine wl hF rfl rfl rfl (r_lss (hF.ev rfl) (hF.ev rfl)) ?_; clear hF a; intro a hF
    refine wl_nil ?_
    refine hK5 _ _ ?_
    first | refine wc_dec (hF.ev rfl) (fun c9 => ?_) (fun c9 => ?_) | refine wc_ndec (hF.ev rfl) (fun c9 => ?_) (fun c9 => ?_) | refine wc_b (hF.ev rfl) (fun c9 => ?_) (fun c9 => ?_)
    ·
      have hlt : k < xs.length := by omega
      obtain ⟨y, hy⟩ : ∃ y, xs[k]? = some y := ⟨_, List.getElem?_eq_getElem hlt⟩
      refine wp_skip ?_
      refine hK4 _ _ ?_
      refine wp_seq_k fun K6 hK6 => ?_
      refine wp_block ?_
      refine wp_seq_k fun K7 hK7 => ?_
      refine wp_region_lit ?_
      refine wl hF rfl rfl rfl (r_move (hF.ev rfl)) ?_; clear hF a; intro a hF
      refine wl hF rfl rfl rfl (r_move (hF.ev rfl)) ?_; clear hF a; intro a hF
      obtain ⟨g14, o14, m14, q14, hv14, hm14, hl14, hc14⟩ := Rd.idxF (hS.rd ha) hy
      refine wl hF rfl rfl rfl (r_index sl22 ((hF.ev rfl).trans hv14) (hF.ev rfl) (by omega) (by omega)) ?_; clear hF a; intro a hF
      refine wl hF rfl rfl rfl (r_load1 sc3 (hF.ev rfl) (hc14 0 _ rfl)) ?_; clear hF a; intro a hF
      refine wl hF rfl rfl rfl (r_move (hF.ev rfl)) ?_; clear hF a; intro a hF
      refine wl hF rfl rfl rfl (r_eql (hF.ev rfl) (hF.ev rfl)) ?_; clear hF a; intro a hF
      refine wl_nil ?_
      refine hK7 _ _ ?_
      first | refine wc_dec (hF.ev rfl) (fun c17 => ?_) (fun c17 => ?_) | refine wc_ndec (hF.ev rfl) (fun c17 => ?_) (fun c17 => ?_) | refine wc_b (hF.ev rfl) (fun c17 => ?_) (fun c17 => ?_)
      ·
        refine wp_seq_k fun K8 hK8 => ?_
        refine wp_region_lit ?_
        refine wl hF rfl rfl rfl (r_assign ec) ?_; clear hF a; intro a hF
        refine wl_nil ?_
        refine hK8 _ _ ?_
        refine wp_ret ?_
        try simp only [Exit.then, Exit.inBlock, ↓reduceIte]
        refine ret1 rfl hF rfl ⟨congrArg Value.bool (Eq.symm ?_), hS.old⟩
        first | exact decide_eq_true (mem_at hy c17) | exact decide_eq_false (notin_all hn hk (by assumption))
      ·
        refine wp_skip ?_
        simp only [Exit.then, Exit.inBlock, ↓reduceIte]
        refine hK6 _ _ ?_
        refine wp_region_lit ?_
        refine wl hF rfl rfl rfl (r_move (hF.ev rfl)) ?_; clear hF a; intro a hF
        refine wl hF rfl rfl rfl (r_add (hF.ev rfl) ec) ?_; clear hF a; intro a hF
        refine wl hF rfl rfl rfl (r_assign (hF.ev rfl)) ?_; clear hF a; intro a hF
        refine wl_nil ?_
        try simp only [Exit.then, Exit.inBlock, ↓reduceIte]
        exact ⟨k + 1, ⟨by omega, notin_next hn hy c17, hS, (((hF.nil.keep hF (t := 0) rfl).keep hF (t := 1) rfl).keepE hF (t := 5) rfl (wk (by omega)))⟩, by omega⟩
    ·
      refine wp_exit ?_
      simp only [Exit.then, Exit.inBlock, ↓reduceIte]
      refine hK2 _ _ ?_
      refine wp_seq_k fun K9 hK9 => ?_
      refine wp_region_lit ?_
      refine wl hF rfl rfl rfl (r_assign ec) ?_; clear hF a; intro a hF
      refine wl_nil ?_
      refine hK9 _ _ ?_
      refine wp_ret ?_
      try simp only [Exit.then, Exit.inBlock, ↓reduceIte]
      refine ret1 rfl hF rfl ⟨congrArg Value.bool (Eq.symm ?_), hS.old⟩
      first | exact decide_eq_true (mem_at hy c17) | exact decide_eq_false (notin_all hn hk (by assumption))

set_option maxHeartbeats 4000000 in
set_option maxRecDepth 20000 in
theorem index_c {W : World} {va : Value} {xs : List Int} {x : Int} (ha : intEK.Rd W va xs) : Calls Try.prog 107 #[va, vi x] W (Ret fun v w' => (∃ j : Int, v = vi j ∧ (0 ≤ j ↔ x ∈ xs)) ∧ Below W.heap.size W w') := by
  refine calls_fr Try.func107 rfl Try.ntmps107 rfl ?_
  intro a hF
  obtain ⟨A_a, q_a, rfl, hq_a, hn_a⟩ := ha.sl; unfold maxLen at hn_a
  have hS := Sep.refl W
  refine wp_seq_k fun K1 hK1 => ?_
  refine wp_region_lit ?_
  refine wl hF rfl rfl rfl (r_assign ec) ?_; clear hF a; intro a hF
  refine wl_nil ?_
  refine hK1 _ _ ?_
  refine wp_seq_k fun K2 hK2 => ?_
  refine wp_seq_k fun K3 hK3 => ?_
  refine wp_region_lit ?_
  refine wl hF rfl rfl rfl (r_move (hF.ev rfl)) ?_; clear hF a; intro a hF
  refine wl hF rfl rfl rfl (r_len ul22 (hF.ev rfl)) ?_; clear hF a; intro a hF
  refine wl hF rfl rfl rfl (r_move ec) ?_; clear hF a; intro a hF
  refine wl_nil ?_
  refine hK3 _ _ ?_
  refine wp_block ?_
  refine wp_loop_g (σ := Nat) (fun k a w => k ≤ xs.length ∧ ¬ x ∈ xs.take k ∧ Sep W [] w ∧ Fr 19 [(8, vi k), (7, vi xs.length), (1, vi x), (0, .slice A_a xs.length q_a)] a) (fun k => xs.length - k) 0 ?_ ?_
  · exact ⟨Nat.zero_le _, by simp, hS, ((((hF.nil.keep hF (t := 0) rfl).keep hF (t := 1) rfl).keep hF (t := 7) rfl).keep hF (t := 8) rfl)⟩
  ·
    clear hF hS a
    rintro k a w ⟨hk, hn, hS, hF⟩
    refine wp_seq_k fun K4 hK4 => ?_
    refine wp_region_lit ?_
    refine wl hF rfl rfl rfl (r_lss (hF.ev rfl) (hF.ev rfl)) ?_; clear hF a; intro a hF
    refine wl_nil ?_
    refine hK4 _ _ ?_
    refine wp_seq_k fun K5 hK5 => ?_
    first | refine wc_dec (hF.ev rfl) (fun c9 => ?_) (fun c9 => ?_) | refine wc_ndec (hF.ev rfl) (fun c9 => ?_) (fun c9 => ?_) | refine wc_b (hF.ev rfl) (fun c9 => ?_) (fun c9 => ?_)
    ·
      have hlt : k < xs.length := by omega
      obtain ⟨y, hy⟩ : ∃ y, xs[k]? = some y := ⟨_, List.getElem?_eq_getElem hlt⟩
      refine wp_skip ?_
      refine hK5 _ _ ?_
      refine wp_seq_k fun K6 hK6 => ?_
      refine wp_block ?_
      refine wp_seq_k fun K7 hK7 => ?_
      refine wp_region_lit ?_
      refine wl hF rfl rfl rfl (r_move (hF.ev rfl)) ?_; clear hF a; intro a hF
      refine wl hF rfl rfl rfl (r_assign (hF.ev rfl)) ?_; clear hF a; intro a hF
      refine wl_nil ?_
      refine hK7 _ _ ?_
      refine wp_seq_k fun K8 hK8 => ?_
      refine wp_region_lit ?_
      refine wl hF rfl rfl rfl (r_move (hF.ev rfl)) ?_; clear hF a; intro a hF
      refine wl hF rfl rfl rfl (r_move (hF.ev rfl)) ?_; clear hF a; intro a hF
      refine wl hF rfl rfl rfl (r_move (hF.ev rfl)) ?_; clear hF a; intro a hF
      obtain ⟨g14, o14, m14, q14, hv14, hm14, hl14, hc14⟩ := Rd.idxF (hS.rd ha) hy
      refine wl hF rfl rfl rfl (r_index sl22 ((hF.ev rfl).trans hv14) (hF.ev rfl) (by omega) (by omega)) ?_; clear hF a; intro a hF
      refine wl hF rfl rfl rfl (r_load1 sc3 (hF.ev rfl) (hc14 0 _ rfl)) ?_; clear hF a; intro a hF
      refine wl hF rfl rfl rfl (r_eql (hF.ev rfl) (hF.ev rfl)) ?_; clear hF a; intro a hF
      refine wl_nil ?_
      refine hK8 _ _ ?_
      first | refine wc_dec (hF.ev rfl) (fun c16 => ?_) (fun c16 => ?_) | refine wc_ndec (hF.ev rfl) (fun c16 => ?_) (fun c16 => ?_) | refine wc_b (hF.ev rfl) (fun c16 => ?_) (fun c16 => ?_)
      ·
        refine wp_seq_k fun K9 hK9 => ?_
        refine wp_region_lit ?_
        refine wl hF rfl rfl rfl (r_move (hF.ev rfl)) ?_; clear hF a; intro a hF
        refine wl hF rfl rfl rfl (r_assign (hF.ev rfl)) ?_; clear hF a; intro a hF
        refine wl_nil ?_
        refine hK9 _ _ ?_
        refine wp_ret ?_
        try simp only [Exit.then, Exit.inBlock, ↓reduceIte]
        first | exact ret1 rfl hF rfl ⟨⟨_, rfl, ⟨fun _ => mem_at hy c16.symm, fun _ => by omega⟩⟩, hS.old⟩ | exact ret1 rfl hF rfl ⟨⟨_, rfl, ⟨fun h => absurd h (by omega), fun h => absurd h (notin_all hn hk (by assumption))⟩⟩, hS.old⟩
      ·
        refine wp_skip ?_
        simp only [Exit.then, Exit.inBlock, ↓reduceIte]
        refine hK6 _ _ ?_
        refine wp_region_lit ?_
        refine wl hF rfl rfl rfl (r_add (hF.ev rfl) ec) ?_; clear hF a; intro a hF
        refine wl hF rfl rfl rfl (r_move (hF.ev rfl)) ?_; clear hF a; intro a hF
        refine wl_nil ?_
        try simp only [Exit.then, Exit.inBlock, ↓reduceIte]
        exact ⟨k + 1, ⟨by omega, notin_next hn hy (fun e => c16 e.symm), hS, ((((hF.nil.keep hF (t := 0) rfl).keep hF (t := 1) rfl).keep hF (t := 7) rfl).keepE hF (t := 8) rfl (wk (by omega)))⟩, by omega⟩
    ·
      refine wp_exit ?_
      simp only [Exit.then, Exit.inBlock, ↓reduceIte]
      refine hK2 _ _ ?_
      refine wp_seq_k fun K10 hK10 => ?_
      refine wp_region_lit ?_
      refine wl hF rfl rfl rfl (r_assign ec) ?_; clear hF a; intro a hF
      refine wl_nil ?_
      refine hK10 _ _ ?_
      refine wp_ret ?_
      try simp only [Exit.then, Exit.inBlock, ↓reduceIte]
      first | exact ret1 rfl hF rfl ⟨⟨_, rfl, ⟨fun _ => mem_at hy c16.symm, fun _ => by omega⟩⟩, hS.old⟩ | exact ret1 rfl hF rfl ⟨⟨_, rfl, ⟨fun h => absurd h (by omega), fun h => absurd h (notin_all hn hk (by assumption))⟩⟩, hS.old⟩

set_option maxHeartbeats 4000000 in
set_option maxRecDepth 20000 in
theorem contains_c {W : World} {va : Value} {xs : List Int} {x : Int} (ha : intEK.Rd W va xs) : Calls Try.prog 65 #[va, vi x] W (Ret fun v w' => v = .bool (decide (x ∈ xs)) ∧ Below W.heap.size W w') := by
  refine calls_fr Try.func65 rfl Try.ntmps65 rfl ?_
  intro a hF
  have hS := Sep.refl W
  refine wp_seq_k fun K1 hK1 => ?_
  refine wp_region_lit ?_
  refine wl hF rfl rfl rfl (r_assign ec) ?_; clear hF a; intro a hF
  refine wl_nil ?_
  refine hK1 _ _ ?_
  refine wp_seq_k fun K2 hK2 => ?_
  refine wp_region_lit ?_
  refine wl hF rfl rfl rfl (r_move (hF.ev rfl)) ?_; clear hF a; intro a hF
  refine wl hF rfl rfl rfl (r_move (hF.ev rfl)) ?_; clear hF a; intro a hF
  refine wl_call hF rfl rfl rfl (r_call2 en107 (hF.ev rfl) (hF.ev rfl)) (index_c (hS.rd ha)) ?_; clear hF a; rintro v w1 a ⟨⟨j, rfl, hj⟩, hB_⟩ hF; replace hS := hS.ext hB_; clear hB_
  refine wl hF rfl rfl rfl (r_geq (hF.ev rfl) ec) ?_; clear hF a; intro a hF
  refine wl hF rfl rfl rfl (r_assign (hF.ev rfl)) ?_; clear hF a; intro a hF
  refine wl_nil ?_
  refine hK2 _ _ ?_
  refine wp_ret ?_
  try simp only [Exit.then, Exit.inBlock, ↓reduceIte]
  exact ret1 rfl hF rfl ⟨congrArg Value.bool (decide_eq_decide.2 hj), hS.old⟩

set_option maxHeartbeats 4000000 in
set_option maxRecDepth 20000 in
theorem specSplit_c {W : World} {va vb : Value} {xs ys : List Int} (ha : intEK.Rd W va xs) (hb : intEK.Rd W vb ys) (hz : xs.length ≤ 1099511627776) : Calls Try.prog 15 #[va, vb] W (Ret (Mk W (fun (γ : Value × Value) => .tuple #[γ.1, γ.2]) (fun γ => [Own intEK γ.1 (splitIn xs ys), Own intEK γ.2 (splitOut xs ys)]))) := by
  refine calls_fr Try.func15 rfl Try.ntmps15 rfl ?_
  intro a hF
  obtain ⟨A_a, q_a, rfl, hq_a, hn_a⟩ := ha.sl; unfold maxLen at hn_a
  have hS := Sep.refl W
  refine wp_seq_k fun K1 hK1 => ?_
  refine wp_region_lit ?_
  refine wl hF rfl rfl rfl (r_assign ec) ?_; clear hF a; intro a hF
  refine wl hF rfl rfl rfl (r_assign ec) ?_; clear hF a; intro a hF
  refine wl_nil ?_
  refine hK1 _ _ ?_
  refine wp_seq_k fun K2 hK2 => ?_
  refine wp_region_lit ?_
  refine wl_bslice intEK [] [] rfl hF hS rfl mk22 rfl trivial rfl rfl rfl rfl ?_; clear hF a; intro gl_9 w1 a hS_ hF; replace hS := hS_; clear hS_
  refine wl hF rfl rfl rfl (r_assign (hF.ev rfl)) ?_; clear hF a; intro a hF
  refine wl_nil ?_
  refine hK2 _ _ ?_
  refine wp_seq_k fun K3 hK3 => ?_
  refine wp_region_lit ?_
  refine wl_bslice intEK [] [] rfl hF hS rfl mk22 rfl trivial rfl rfl rfl rfl ?_; clear hF a; intro gl_10 w2 a hS_ hF; replace hS := hS_; clear hS_
  refine wl hF rfl rfl rfl (r_assign (hF.ev rfl)) ?_; clear hF a; intro a hF
  refine wl_nil ?_
  refine hK3 _ _ ?_
  refine wp_seq_k fun K4 hK4 => ?_
  refine wp_seq_k fun K5 hK5 => ?_
  refine wp_region_lit ?_
  refine wl hF rfl rfl rfl (r_assign ec) ?_; clear hF a; intro a hF
  refine wl_nil ?_
  refine hK5 _ _ ?_
  refine wp_block ?_
  refine wp_loop_g (σ := Nat × Value × Value) (fun s a w => s.1 ≤ xs.length ∧ Sep W [Own intEK s.2.2 (splitOut (xs.take s.1) ys), Own intEK s.2.1 (splitIn (xs.take s.1) ys)] w ∧ Fr 39 [(8, vi s.1), (7, s.2.2), (6, s.2.1), (1, vb), (0, .slice A_a xs.length q_a)] a) (fun s => xs.length - s.1) (0, .slice (some ⟨gl_9, 0, none⟩) 0 0, .slice (some ⟨gl_10, 0, none⟩) 0 0) ?_ ?_
  · exact ⟨Nat.zero_le _, hS, (((((hF.nil.keep hF (t := 0) rfl).keep hF (t := 1) rfl).keep hF (t := 6) rfl).keep hF (t := 7) rfl).keep hF (t := 8) rfl)⟩
  ·
    clear hF hS a
    rintro ⟨k, p, q⟩ a w ⟨hk, hS, hF⟩
    dsimp only at hk hS hF
    refine wp_seq_k fun K6 hK6 => ?_
    refine wp_seq_k fun K7 hK7 => ?_
    refine wp_region_lit ?_
    refine wl hF rfl rfl rfl (r_move (hF.ev rfl)) ?_; clear hF a; intro a hF
    refine wl hF rfl rfl rfl (r_move (hF.ev rfl)) ?_; clear hF a; intro a hF
    refine wl hF rfl rfl rfl (r_len ul22 (hF.ev rfl)) ?_; clear hF a; intro a hF
    refine wl hF rfl rfl rfl (r_lss (hF.ev rfl) (hF.ev rfl)) ?_; clear hF a; intro a hF
    refine wl_nil ?_
    refine hK7 _ _ ?_
    first | refine wc_dec (hF.ev rfl) (fun c14 => ?_) (fun c14 => ?_) | refine wc_ndec (hF.ev rfl) (fun c14 => ?_) (fun c14 => ?_) | refine wc_b (hF.ev rfl) (fun c14 => ?_) (fun c14 => ?_)
    ·
      have hlt : k < xs.length := by omega
      obtain ⟨x, hx⟩ : ∃ x, xs[k]? = some x := ⟨_, List.getElem?_eq_getElem hlt⟩
      refine wp_skip ?_
      refine hK6 _ _ ?_
      refine wp_seq_k fun K8 hK8 => ?_
      refine wp_block ?_
      refine wp_seq_k fun K9 hK9 => ?_
      refine wp_region_lit ?_
      refine wl hF rfl rfl rfl (r_move (hF.ev rfl)) ?_; clear hF a; intro a hF
      refine wl hF rfl rfl rfl (r_move (hF.ev rfl)) ?_; clear hF a; intro a hF
      refine wl hF rfl rfl rfl (r_move (hF.ev rfl)) ?_; clear hF a; intro a hF
      obtain ⟨g20, o20, m20, q20, hv20, hm20, hl20, hc20⟩ := Rd.idxF (hS.rd ha) hx
      refine wl hF rfl rfl rfl (r_index sl22 ((hF.ev rfl).trans hv20) (hF.ev rfl) (by omega) (by omega)) ?_; clear hF a; intro a hF
      refine wl hF rfl rfl rfl (r_load1 sc3 (hF.ev rfl) (hc20 0 _ rfl)) ?_; clear hF a; intro a hF
      refine wl_call hF rfl rfl rfl (r_call2 en64 (hF.ev rfl) (hF.ev rfl)) (l8Has_c (hS.rd hb)) ?_; clear hF a; rintro v w3 a ⟨rfl, hB_⟩ hF; replace hS := hS.ext hB_; clear hB_
      refine wl_nil ?_
      refine hK9 _ _ ?_
      first | refine wc_dec (hF.ev rfl) (fun c22 => ?_) (fun c22 => ?_) | refine wc_ndec (hF.ev rfl) (fun c22 => ?_) (fun c22 => ?_) | refine wc_b (hF.ev rfl) (fun c22 => ?_) (fun c22 => ?_)
      ·
        refine wp_region_lit ?_
        refine wl hF rfl rfl rfl (r_move (hF.ev rfl)) ?_; clear hF a; intro a hF
        refine wl hF rfl rfl rfl (r_move (hF.ev rfl)) ?_; clear hF a; intro a hF
        refine wl hF rfl rfl rfl (r_move (hF.ev rfl)) ?_; clear hF a; intro a hF
        obtain ⟨g26, o26, m26, q26, hv26, hm26, hl26, hc26⟩ := Rd.idxF (hS.rd ha) hx
        refine wl hF rfl rfl rfl (r_index sl22 ((hF.ev rfl).trans hv26) (hF.ev rfl) (by omega) (by omega)) ?_; clear hF a; intro a hF
        refine wl hF rfl rfl rfl (r_load1 sc3 (hF.ev rfl) (hc26 0 _ rfl)) ?_; clear hF a; intro a hF
        refine wl_bslice intEK [vi x] [x] rfl hF hS rfl mk22 rfl ⟨rfl, (hF.ev rfl), trivial⟩ rfl rfl rfl rfl ?_; clear hF a; intro gl_28 w4 a hS_ hF; replace hS := hS_; clear hS_
        refine wl_append (q := 2) hF hS rfl rfl (hS.own_rd (i := 0) rfl) mk22 rfl (hF.ev rfl) (hF.ev rfl) (by have := in_le xs ys k; simp only [List.length_cons, List.length_nil]; omega) (by have := in_le xs ys k; simp only [List.length_cons, List.length_nil]; unfold maxLen; omega) ?_; clear hF a; intro A_29 c_29 w5 a hS_ hF; replace hS := hS_; clear hS_; dsimp only [List.set, List.length_cons, List.length_nil] at hS hF
        refine wl hF rfl rfl rfl (r_assign (hF.ev rfl)) ?_; clear hF a; intro a hF
        refine wl_nil ?_
        simp only [Exit.then, Exit.inBlock, ↓reduceIte]
        refine hK8 _ _ ?_
        refine wp_region_lit ?_
        refine wl hF rfl rfl rfl (r_move (hF.ev rfl)) ?_; clear hF a; intro a hF
        refine wl hF rfl rfl rfl (r_add (hF.ev rfl) ec) ?_; clear hF a; intro a hF
        refine wl hF rfl rfl rfl (r_assign (hF.ev rfl)) ?_; clear hF a; intro a hF
        refine wl_nil ?_
        try simp only [Exit.then, Exit.inBlock, ↓reduceIte]
        refine ⟨(k + 1, _, _), ⟨by dsimp only; omega, ?_, (((((hF.nil.keep hF (t := 0) rfl).keep hF (t := 1) rfl).keep hF (t := 6) rfl).keep hF (t := 7) rfl).keepE hF (t := 8) rfl (wk (by omega)))⟩, by dsimp only; omega⟩
        dsimp only
        first
          | rw [in_yes hx c22, out_yes hx c22]; exact hS.pick [1, 2] (by decide) rfl
          | rw [in_no hx c22, out_no hx c22]; exact hS.pick [1, 2] (by decide) rfl
      ·
        refine wp_region_lit ?_
        refine wl hF rfl rfl rfl (r_move (hF.ev rfl)) ?_; clear hF a; intro a hF
        refine wl hF rfl rfl rfl (r_move (hF.ev rfl)) ?_; clear hF a; intro a hF
        refine wl hF rfl rfl rfl (r_move (hF.ev rfl)) ?_; clear hF a; intro a hF
        obtain ⟨g33, o33, m33, q33, hv33, hm33, hl33, hc33⟩ := Rd.idxF (hS.rd ha) hx
        refine wl hF rfl rfl rfl (r_index sl22 ((hF.ev rfl).trans hv33) (hF.ev rfl) (by omega) (by omega)) ?_; clear hF a; intro a hF
        refine wl hF rfl rfl rfl (r_load1 sc3 (hF.ev rfl) (hc33 0 _ rfl)) ?_; clear hF a; intro a hF
        refine wl_bslice intEK [vi x] [x] rfl hF hS rfl mk22 rfl ⟨rfl, (hF.ev rfl), trivial⟩ rfl rfl rfl rfl ?_; clear hF a; intro gl_35 w6 a hS_ hF; replace hS := hS_; clear hS_
        refine wl_append (q := 1) hF hS rfl rfl (hS.own_rd (i := 0) rfl) mk22 rfl (hF.ev rfl) (hF.ev rfl) (by have := out_le xs ys k; simp only [List.length_cons, List.length_nil]; omega) (by have := out_le xs ys k; simp only [List.length_cons, List.length_nil]; unfold maxLen; omega) ?_; clear hF a; intro A_36 c_36 w7 a hS_ hF; replace hS := hS_; clear hS_; dsimp only [List.set, List.length_cons, List.length_nil] at hS hF
        refine wl hF rfl rfl rfl (r_assign (hF.ev rfl)) ?_; clear hF a; intro a hF
        refine wl_nil ?_
        simp only [Exit.then, Exit.inBlock, ↓reduceIte]
        refine hK8 _ _ ?_
        refine wp_region_lit ?_
        refine wl hF rfl rfl rfl (r_move (hF.ev rfl)) ?_; clear hF a; intro a hF
        refine wl hF rfl rfl rfl (r_add (hF.ev rfl) ec) ?_; clear hF a; intro a hF
        refine wl hF rfl rfl rfl (r_assign (hF.ev rfl)) ?_; clear hF a; intro a hF
        refine wl_nil ?_
        try simp only [Exit.then, Exit.inBlock, ↓reduceIte]
        refine ⟨(k + 1, _, _), ⟨by dsimp only; omega, ?_, (((((hF.nil.keep hF (t := 0) rfl).keep hF (t := 1) rfl).keep hF (t := 6) rfl).keep hF (t := 7) rfl).keepE hF (t := 8) rfl (wk (by omega)))⟩, by dsimp only; omega⟩
        dsimp only
        first
          | rw [in_yes hx c22, out_yes hx c22]; exact hS.pick [1, 2] (by decide) rfl
          | rw [in_no hx c22, out_no hx c22]; exact hS.pick [1, 2] (by decide) rfl
    ·
      refine wp_exit ?_
      simp only [Exit.then, Exit.inBlock, ↓reduceIte]
      refine hK4 _ _ ?_
      refine wp_seq_k fun K10 hK10 => ?_
      refine wp_region_lit ?_
      refine wl hF rfl rfl rfl (r_move (hF.ev rfl)) ?_; clear hF a; intro a hF
      refine wl hF rfl rfl rfl (r_move (hF.ev rfl)) ?_; clear hF a; intro a hF
      refine wl hF rfl rfl rfl (r_assign (hF.ev rfl)) ?_; clear hF a; intro a hF
      refine wl hF rfl rfl rfl (r_assign (hF.ev rfl)) ?_; clear hF a; intro a hF
      refine wl_nil ?_
      refine hK10 _ _ ?_
      refine wp_ret ?_
      try simp only [Exit.then, Exit.inBlock, ↓reduceIte]
      obtain rfl : k = xs.length := by omega
      rw [List.take_length] at hS
      exact ret2 rfl hF rfl rfl ⟨(_, _), rfl, hS.pick [1, 0] (by decide) rfl⟩

set_option maxHeartbeats 4000000 in
set_option maxRecDepth 20000 in
theorem implSplit_c {W : World} {va vb : Value} {xs ys : List Int} (ha : intEK.Rd W va xs) (hb : intEK.Rd W vb ys) (hz : xs.length ≤ 1099511627776) : Calls Try.prog 17 #[va, vb] W (Ret (Mk W (fun (γ : Value × Value) => .tuple #[γ.1, γ.2]) (fun γ => [Own intEK γ.1 (splitIn xs ys), Own intEK γ.2 (splitOut xs ys)]))) := by
  refine calls_fr Try.func17 rfl Try.ntmps17 rfl ?_
  intro a hF
  obtain ⟨A_a, q_a, rfl, hq_a, hn_a⟩ := ha.sl; unfold maxLen at hn_a
  have hS := Sep.refl W
  refine wp_seq_k fun K1 hK1 => ?_
  refine wp_region_lit ?_
  refine wl hF rfl rfl rfl (r_assign ec) ?_; clear hF a; intro a hF
  refine wl hF rfl rfl rfl (r_assign ec) ?_; clear hF a; intro a hF
  refine wl_nil ?_
  refine hK1 _ _ ?_
  refine wp_seq_k fun K2 hK2 => ?_
  refine wp_region_lit ?_
  refine wl_bslice intEK [] [] rfl hF hS rfl mk22 rfl trivial rfl rfl rfl rfl ?_; clear hF a; intro gl_10 w1 a hS_ hF; replace hS := hS_; clear hS_
  refine wl_bslice intEK [] [] rfl hF hS rfl mk22 rfl trivial rfl rfl rfl rfl ?_; clear hF a; intro gl_11 w2 a hS_ hF; replace hS := hS_; clear hS_
  refine wl hF rfl rfl rfl (r_assign (hF.ev rfl)) ?_; clear hF a; intro a hF
  refine wl hF rfl rfl rfl (r_assign (hF.ev rfl)) ?_; clear hF a; intro a hF
  refine wl_nil ?_
  refine hK2 _ _ ?_
  refine wp_seq_k fun K3 hK3 => ?_
  refine wp_seq_k fun K4 hK4 => ?_
  refine wp_region_lit ?_
  refine wl hF rfl rfl rfl (r_move (hF.ev rfl)) ?_; clear hF a; intro a hF
  refine wl hF rfl rfl rfl (r_len ul22 (hF.ev rfl)) ?_; clear hF a; intro a hF
  refine wl hF rfl rfl rfl (r_move ec) ?_; clear hF a; intro a hF
  refine wl_nil ?_
  refine hK4 _ _ ?_
  refine wp_block ?_
  refine wp_loop_g (σ := Nat × Value × Value) (fun s a w => s.1 ≤ xs.length ∧ Sep W [Own intEK s.2.2 (splitOut (xs.take s.1) ys), Own intEK s.2.1 (splitIn (xs.take s.1) ys)] w ∧ Fr 32 [(14, vi s.1), (7, s.2.2), (6, s.2.1), (13, vi xs.length), (12, .slice A_a xs.length q_a), (1, vb), (0, .slice A_a xs.length q_a)] a) (fun s => xs.length - s.1) (0, .slice (some ⟨gl_10, 0, none⟩) 0 0, .slice (some ⟨gl_11, 0, none⟩) 0 0) ?_ ?_
  · exact ⟨Nat.zero_le _, hS, (((((((hF.nil.keep hF (t := 0) rfl).keep hF (t := 1) rfl).keep hF (t := 12) rfl).keep hF (t := 13) rfl).keep hF (t := 6) rfl).keep hF (t := 7) rfl).keep hF (t := 14) rfl)⟩
  ·
    clear hF hS a
    rintro ⟨k, p, q⟩ a w ⟨hk, hS, hF⟩
    dsimp only at hk hS hF
    refine wp_seq_k fun K5 hK5 => ?_
    refine wp_region_lit ?_
    refine wl hF rfl rfl rfl (r_lss (hF.ev rfl) (hF.ev rfl)) ?_; clear hF a; intro a hF
    refine wl_nil ?_
    refine hK5 _ _ ?_
    refine wp_seq_k fun K6 hK6 => ?_
    first | refine wc_dec (hF.ev rfl) (fun c15 => ?_) (fun c15 => ?_) | refine wc_ndec (hF.ev rfl) (fun c15 => ?_) (fun c15 => ?_) | refine wc_b (hF.ev rfl) (fun c15 => ?_) (fun c15 => ?_)
    ·
      have hlt : k < xs.length := by omega
      obtain ⟨x, hx⟩ : ∃ x, xs[k]? = some x := ⟨_, List.getElem?_eq_getElem hlt⟩
      refine wp_skip ?_
      refine hK6 _ _ ?_
      refine wp_seq_k fun K7 hK7 => ?_
      refine wp_block ?_
      refine wp_seq_k fun K8 hK8 => ?_
      refine wp_region_lit ?_
      obtain ⟨g16, o16, m16, q16, hv16, hm16, hl16, hc16⟩ := Rd.idxF (hS.rd ha) hx
      refine wl hF rfl rfl rfl (r_index sl22 ((hF.ev rfl).trans hv16) (hF.ev rfl) (by omega) (by omega)) ?_; clear hF a; intro a hF
      refine wl hF rfl rfl rfl (r_load1 sc3 (hF.ev rfl) (hc16 0 _ rfl)) ?_; clear hF a; intro a hF
      refine wl hF rfl rfl rfl (r_assign (hF.ev rfl)) ?_; clear hF a; intro a hF
      refine wl_nil ?_
      refine hK8 _ _ ?_
      refine wp_seq_k fun K9 hK9 => ?_
      refine wp_region_lit ?_
      refine wl hF rfl rfl rfl (r_move (hF.ev rfl)) ?_; clear hF a; intro a hF
      refine wl hF rfl rfl rfl (r_move (hF.ev rfl)) ?_; clear hF a; intro a hF
      refine wl_call hF rfl rfl rfl (r_call2 en65 (hF.ev rfl) (hF.ev rfl)) (contains_c (hS.rd hb)) ?_; clear hF a; rintro v w3 a ⟨rfl, hB_⟩ hF; replace hS := hS.ext hB_; clear hB_
      refine wl_nil ?_
      refine hK9 _ _ ?_
      first | refine wc_dec (hF.ev rfl) (fun c20 => ?_) (fun c20 => ?_) | refine wc_ndec (hF.ev rfl) (fun c20 => ?_) (fun c20 => ?_) | refine wc_b (hF.ev rfl) (fun c20 => ?_) (fun c20 => ?_)
      ·
        refine wp_region_lit ?_
        refine wl hF rfl rfl rfl (r_move (hF.ev rfl)) ?_; clear hF a; intro a hF
        refine wl hF rfl rfl rfl (r_move (hF.ev rfl)) ?_; clear hF a; intro a hF
        refine wl_bslice intEK [vi x] [x] rfl hF hS rfl mk22 rfl ⟨rfl, (hF.ev rfl), trivial⟩ rfl rfl rfl rfl ?_; clear hF a; intro gl_23 w4 a hS_ hF; replace hS := hS_; clear hS_
        refine wl_append (q := 2) hF hS rfl rfl (hS.own_rd (i := 0) rfl) mk22 rfl (hF.ev rfl) (hF.ev rfl) (by have := in_le xs ys k; simp only [List.length_cons, List.length_nil]; omega) (by have := in_le xs ys k; simp only [List.length_cons, List.length_nil]; unfold maxLen; omega) ?_; clear hF a; intro A_24 c_24 w5 a hS_ hF; replace hS := hS_; clear hS_; dsimp only [List.set, List.length_cons, List.length_nil] at hS hF
        refine wl hF rfl rfl rfl (r_assign (hF.ev rfl)) ?_; clear hF a; intro a hF
        refine wl_nil ?_
        simp only [Exit.then, Exit.inBlock, ↓reduceIte]
        refine hK7 _ _ ?_
        refine wp_region_lit ?_
        refine wl hF rfl rfl rfl (r_add (hF.ev rfl) ec) ?_; clear hF a; intro a hF
        refine wl hF rfl rfl rfl (r_move (hF.ev rfl)) ?_; clear hF a; intro a hF
        refine wl_nil ?_
        try simp only [Exit.then, Exit.inBlock, ↓reduceIte]
        refine ⟨(k + 1, _, _), ⟨by dsimp only; omega, ?_, (((((((hF.nil.keep hF (t := 0) rfl).keep hF (t := 1) rfl).keep hF (t := 12) rfl).keep hF (t := 13) rfl).keep hF (t := 6) rfl).keep hF (t := 7) rfl).keepE hF (t := 14) rfl (wk (by omega)))⟩, by dsimp only; omega⟩
        dsimp only
        first
          | rw [in_yes hx c20, out_yes hx c20]; exact hS.pick [1, 2] (by decide) rfl
          | rw [in_no hx c20, out_no hx c20]; exact hS.pick [1, 2] (by decide) rfl
      ·
        refine wp_region_lit ?_
        refine wl hF rfl rfl rfl (r_move (hF.ev rfl)) ?_; clear hF a; intro a hF
        refine wl hF rfl rfl rfl (r_move (hF.ev rfl)) ?_; clear hF a; intro a hF
        refine wl_bslice intEK [vi x] [x] rfl hF hS rfl mk22 rfl ⟨rfl, (hF.ev rfl), trivial⟩ rfl rfl rfl rfl ?_; clear hF a; intro gl_27 w6 a hS_ hF; replace hS := hS_; clear hS_
        refine wl_append (q := 1) hF hS rfl rfl (hS.own_rd (i := 0) rfl) mk22 rfl (hF.ev rfl) (hF.ev rfl) (by have := out_le xs ys k; simp only [List.length_cons, List.length_nil]; omega) (by have := out_le xs ys k; simp only [List.length_cons, List.length_nil]; unfold maxLen; omega) ?_; clear hF a; intro A_28 c_28 w7 a hS_ hF; replace hS := hS_; clear hS_; dsimp only [List.set, List.length_cons, List.length_nil] at hS hF
        refine wl hF rfl rfl rfl (r_assign (hF.ev rfl)) ?_; clear hF a; intro a hF
        refine wl_nil ?_
        simp only [Exit.then, Exit.inBlock, ↓reduceIte]
        refine hK7 _ _ ?_
        refine wp_region_lit ?_
        refine wl hF rfl rfl rfl (r_add (hF.ev rfl) ec) ?_; clear hF a; intro a hF
        refine wl hF rfl rfl rfl (r_move (hF.ev rfl)) ?_; clear hF a; intro a hF
        refine wl_nil ?_
        try simp only [Exit.then, Exit.inBlock, ↓reduceIte]
        refine ⟨(k + 1, _, _), ⟨by dsimp only; omega, ?_, (((((((hF.nil.keep hF (t := 0) rfl).keep hF (t := 1) rfl).keep hF (t := 12) rfl).keep hF (t := 13) rfl).keep hF (t := 6) rfl).keep hF (t := 7) rfl).keepE hF (t := 14) rfl (wk (by omega)))⟩, by dsimp only; omega⟩
        dsimp only
        first
          | rw [in_yes hx c20, out_yes hx c20]; exact hS.pick [1, 2] (by decide) rfl
          | rw [in_no hx c20, out_no hx c20]; exact hS.pick [1, 2] (by decide) rfl
    ·
      refine wp_exit ?_
      simp only [Exit.then, Exit.inBlock, ↓reduceIte]
      refine hK3 _ _ ?_
      refine wp_seq_k fun K10 hK10 => ?_
      refine wp_region_lit ?_
      refine wl hF rfl rfl rfl (r_move (hF.ev rfl)) ?_; clear hF a; intro a hF
      refine wl hF rfl rfl rfl (r_move (hF.ev rfl)) ?_; clear hF a; intro a hF
      refine wl hF rfl rfl rfl (r_assign (hF.ev rfl)) ?_; clear hF a; intro a hF
      refine wl hF rfl rfl rfl (r_assign (hF.ev rfl)) ?_; clear hF a; intro a hF
      refine wl_nil ?_
      refine hK10 _ _ ?_
      refine wp_ret ?_
      try simp only [Exit.then, Exit.inBlock, ↓reduceIte]
      obtain rfl : k = xs.length := by omega
      rw [List.take_length] at hS
      exact ret2 rfl hF rfl rfl ⟨(_, _), rfl, hS.pick [1, 0] (by decide) rfl⟩

set_option maxHeartbeats 4000000 in
set_option maxRecDepth 20000 in
theorem law_FnExactSplitLimbo {W : World} {va vb : Value} {xs ys : List Int} (ha : intEK.Rd W va xs) (hb : intEK.Rd W vb ys) : Calls Try.prog 3 #[va, vb] W (Ret fun v w' => v = .bool true ∧ Below W.heap.size W w') := by
  refine calls_fr Try.func3 rfl Try.ntmps3 rfl ?_
  intro a hF
  have hS := Sep.refl W
  obtain ⟨A_a, q_a, rfl, hq_a, hn_a⟩ := ha.sl; unfold maxLen at hn_a
  obtain ⟨A_b, q_b, rfl, hq_b, hn_b⟩ := hb.sl; unfold maxLen at hn_b
  have hin := in_le' xs ys
  have hout := out_le' xs ys
  refine wp_seq_k fun K1 hK1 => ?_
  refine wp_region_lit ?_
  refine wl hF rfl rfl rfl (r_assign ec) ?_; clear hF a; intro a hF
  refine wl_nil ?_
  refine hK1 _ _ ?_
  refine wp_seq_k fun K2 hK2 => ?_
  refine wp_seq_k fun K3 hK3 => ?_
  refine wp_region_lit ?_
  refine wl hF rfl rfl rfl (r_move (hF.ev rfl)) ?_; clear hF a; intro a hF
  refine wl hF rfl rfl rfl (r_len ul22 (hF.ev rfl)) ?_; clear hF a; intro a hF
  refine wl hF rfl rfl rfl (r_gtr (hF.ev rfl) ec) ?_; clear hF a; intro a hF
  refine wl_nil ?_
  refine hK3 _ _ ?_
  first | refine wc_dec (hF.ev rfl) (fun c18 => ?_) (fun c18 => ?_) | refine wc_ndec (hF.ev rfl) (fun c18 => ?_) (fun c18 => ?_) | refine wc_b (hF.ev rfl) (fun c18 => ?_) (fun c18 => ?_)
  ·
    refine wp_seq_k fun K4 hK4 => ?_
    refine wp_region_lit ?_
    refine wl hF rfl rfl rfl (r_assign ec) ?_; clear hF a; intro a hF
    refine wl_nil ?_
    refine hK4 _ _ ?_
    refine wp_ret ?_
    try simp only [Exit.then, Exit.inBlock, ↓reduceIte]
    exact ret1 rfl hF rfl ⟨rfl, hS.old⟩
  ·
    refine wp_skip ?_
    refine hK2 _ _ ?_
    refine wp_seq_k fun K5 hK5 => ?_
    refine wp_seq_k fun K6 hK6 => ?_
    refine wp_region_lit ?_
    refine wl hF rfl rfl rfl (r_move (hF.ev rfl)) ?_; clear hF a; intro a hF
    refine wl hF rfl rfl rfl (r_len ul22 (hF.ev rfl)) ?_; clear hF a; intro a hF
    refine wl hF rfl rfl rfl (r_gtr (hF.ev rfl) ec) ?_; clear hF a; intro a hF
    refine wl_nil ?_
    refine hK6 _ _ ?_
    first | refine wc_dec (hF.ev rfl) (fun c21 => ?_) (fun c21 => ?_) | refine wc_ndec (hF.ev rfl) (fun c21 => ?_) (fun c21 => ?_) | refine wc_b (hF.ev rfl) (fun c21 => ?_) (fun c21 => ?_)
    ·
      refine wp_seq_k fun K7 hK7 => ?_
      refine wp_region_lit ?_
      refine wl hF rfl rfl rfl (r_assign ec) ?_; clear hF a; intro a hF
      refine wl_nil ?_
      refine hK7 _ _ ?_
      refine wp_ret ?_
      try simp only [Exit.then, Exit.inBlock, ↓reduceIte]
      exact ret1 rfl hF rfl ⟨rfl, hS.old⟩
    ·
      refine wp_skip ?_
      refine hK5 _ _ ?_
      refine wp_seq_k fun K8 hK8 => ?_
      refine wp_region_lit ?_
      refine wl hF rfl rfl rfl (r_move (hF.ev rfl)) ?_; clear hF a; intro a hF
      refine wl_mk hF hS rfl rfl rfl (r_call1 en16 (hF.ev rfl)) (toIntS_c (hS.rd ha) (by omega)) ?_; clear hF a; rintro vr24 w1 a hS_ hF; replace hS := hS_; clear hS_; dsimp only [List.cons_append, List.nil_append] at hS
      refine wl hF rfl rfl rfl (r_move (hF.ev rfl)) ?_; clear hF a; intro a hF
      refine wl_mk hF hS rfl rfl rfl (r_call1 en16 (hF.ev rfl)) (toIntS_c (hS.rd hb) (by omega)) ?_; clear hF a; rintro vr26 w2 a hS_ hF; replace hS := hS_; clear hS_; dsimp only [List.cons_append, List.nil_append] at hS
      refine wl_mk hF hS rfl rfl rfl (r_call2 en15 (hF.ev rfl) (hF.ev rfl)) (specSplit_c (hS.own_rd (i := 1) rfl) (hS.own_rd (i := 0) rfl) (by omega)) ?_; clear hF a; rintro ⟨p27, q27⟩ w3 a hS_ hF; replace hS := hS_; clear hS_; dsimp only [List.cons_append, List.nil_append] at hS
      refine wl hF rfl rfl rfl (r_move (hF.ev rfl)) ?_; clear hF a; intro a hF
      refine wl hF rfl rfl rfl (r_extract (hF.ev rfl) rfl) ?_; clear hF a; intro a hF
      refine wl hF rfl rfl rfl (r_extract (hF.ev rfl) rfl) ?_; clear hF a; intro a hF
      refine wl hF rfl rfl rfl (r_assign (hF.ev rfl)) ?_; clear hF a; intro a hF
      refine wl hF rfl rfl rfl (r_assign (hF.ev rfl)) ?_; clear hF a; intro a hF
      refine wl_nil ?_
      refine hK8 _ _ ?_
      refine wp_seq_k fun K9 hK9 => ?_
      refine wp_region_lit ?_
      refine wl hF rfl rfl rfl (r_move (hF.ev rfl)) ?_; clear hF a; intro a hF
      refine wl_mk hF hS rfl rfl rfl (r_call1 en16 (hF.ev rfl)) (toIntS_c (hS.rd ha) (by omega)) ?_; clear hF a; rintro vr31 w4 a hS_ hF; replace hS := hS_; clear hS_; dsimp only [List.cons_append, List.nil_append] at hS
      refine wl hF rfl rfl rfl (r_assign (hF.ev rfl)) ?_; clear hF a; intro a hF
      refine wl_nil ?_
      refine hK9 _ _ ?_
      refine wp_seq_k fun K10 hK10 => ?_
      refine wp_region_lit ?_
      refine wl hF rfl rfl rfl (r_move (hF.ev rfl)) ?_; clear hF a; intro a hF
      refine wl_mk hF hS rfl rfl rfl (r_call1 en16 (hF.ev rfl)) (toIntS_c (hS.rd hb) (by omega)) ?_; clear hF a; rintro vr33 w5 a hS_ hF; replace hS := hS_; clear hS_; dsimp only [List.cons_append, List.nil_append] at hS
      refine wl hF rfl rfl rfl (r_assign (hF.ev rfl)) ?_; clear hF a; intro a hF
      refine wl_nil ?_
      refine hK10 _ _ ?_
      refine wp_seq_k fun K11 hK11 => ?_
      refine wp_region_lit ?_
      refine wl hF rfl rfl rfl (r_move (hF.ev rfl)) ?_; clear hF a; intro a hF
      refine wl hF rfl rfl rfl (r_move (hF.ev rfl)) ?_; clear hF a; intro a hF
      refine wl_mk hF hS rfl rfl rfl (r_call2 en17 (hF.ev rfl) (hF.ev rfl)) (implSplit_c (hS.own_rd (i := 1) rfl) (hS.own_rd (i := 0) rfl) (by omega)) ?_; clear hF a; rintro ⟨p37, q37⟩ w6 a hS_ hF; replace hS := hS_; clear hS_; dsimp only [List.cons_append, List.nil_append] at hS
      refine wl hF rfl rfl rfl (r_move (hF.ev rfl)) ?_; clear hF a; intro a hF
      refine wl hF rfl rfl rfl (r_extract (hF.ev rfl) rfl) ?_; clear hF a; intro a hF
      refine wl hF rfl rfl rfl (r_extract (hF.ev rfl) rfl) ?_; clear hF a; intro a hF
      refine wl hF rfl rfl rfl (r_assign (hF.ev rfl)) ?_; clear hF a; intro a hF
      refine wl hF rfl rfl rfl (r_assign (hF.ev rfl)) ?_; clear hF a; intro a hF
      refine wl_nil ?_
      refine hK11 _ _ ?_
      refine wp_seq_k fun K12 hK12 => ?_
      refine wp_seq_k fun K13 hK13 => ?_
      refine wp_region_lit ?_
      refine wl hF rfl rfl rfl (r_move (hF.ev rfl)) ?_; clear hF a; intro a hF
      refine wl hF rfl rfl rfl (r_move (hF.ev rfl)) ?_; clear hF a; intro a hF
      refine wl_call hF rfl rfl rfl (r_call2 en18 (hF.ev rfl) (hF.ev rfl)) (eqIntS_same (hS.own_rd (i := 0) rfl) (hS.own_rd (i := 4) rfl)) ?_; clear hF a; rintro v w7 a ⟨rfl, hB_⟩ hF; replace hS := hS.ext hB_; clear hB_
      refine wl hF rfl rfl rfl (r_not (hF.ev rfl)) ?_; clear hF a; intro a hF
      refine wl hF rfl rfl rfl (r_move (hF.ev rfl)) ?_; clear hF a; intro a hF
      refine wl_take hF rfl rfl rfl rfl ?_
      refine wl hF rfl rfl rfl (r_move (hF.ev rfl)) ?_; clear hF a; intro a hF
      refine wl_take hF rfl rfl rfl rfl ?_
      refine wl hF rfl rfl rfl (r_move (hF.ev rfl)) ?_; clear hF a; intro a hF
      refine wl_take hF rfl rfl rfl rfl ?_
      refine wl_call hF rfl rfl rfl (r_call2 en18 (hF.ev rfl) (hF.ev rfl)) (eqIntS_same (hS.own_rd (i := 1) rfl) (hS.own_rd (i := 5) rfl)) ?_; clear hF a; rintro v w8 a ⟨rfl, hB_⟩ hF; replace hS := hS.ext hB_; clear hB_
      refine wl_take hF rfl rfl rfl rfl ?_
      refine wl hF rfl rfl rfl (r_not (hF.ev rfl)) ?_; clear hF a; intro a hF
      refine wl hF rfl rfl rfl (r_pick_f (hF.ev rfl) (hF.ev rfl)) ?_; clear hF a; intro a hF
      refine wl_nil ?_
      refine hK13 _ _ ?_
      refine wc_false (hF.ev rfl) ?_
      refine wp_skip ?_
      refine hK12 _ _ ?_
      refine wp_seq_k fun K14 hK14 => ?_
      refine wp_seq_k fun K15 hK15 => ?_
      refine wp_region_lit ?_
      refine wl hF rfl rfl rfl (r_move (hF.ev rfl)) ?_; clear hF a; intro a hF
      refine wl hF rfl rfl rfl (r_move (hF.ev rfl)) ?_; clear hF a; intro a hF
      refine wl_mk hF hS rfl rfl rfl (r_call1 en16 (hF.ev rfl)) (toIntS_c (hS.rd ha) (by omega)) ?_; clear hF a; rintro vr52 w9 a hS_ hF; replace hS := hS_; clear hS_; dsimp only [List.cons_append, List.nil_append] at hS
      refine wl_call hF rfl rfl rfl (r_call2 en18 (hF.ev rfl) (hF.ev rfl)) (eqIntS_same (hS.own_rd (i := 4) rfl) (hS.own_rd (i := 0) rfl)) ?_; clear hF a; rintro v w10 a ⟨rfl, hB_⟩ hF; replace hS := hS.ext hB_; clear hB_
      refine wl hF rfl rfl rfl (r_not (hF.ev rfl)) ?_; clear hF a; intro a hF
      refine wl_nil ?_
      refine hK15 _ _ ?_
      refine wc_false (hF.ev rfl) ?_
      refine wp_skip ?_
      refine hK14 _ _ ?_
      refine wp_seq_k fun K16 hK16 => ?_
      refine wp_seq_k fun K17 hK17 => ?_
      refine wp_region_lit ?_
      refine wl hF rfl rfl rfl (r_move (hF.ev rfl)) ?_; clear hF a; intro a hF
      refine wl hF rfl rfl rfl (r_move (hF.ev rfl)) ?_; clear hF a; intro a hF
      refine wl_mk hF hS rfl rfl rfl (r_call1 en16 (hF.ev rfl)) (toIntS_c (hS.rd hb) (by omega)) ?_; clear hF a; rintro vr57 w11 a hS_ hF; replace hS := hS_; clear hS_; dsimp only [List.cons_append, List.nil_append] at hS
      refine wl_call hF rfl rfl rfl (r_call2 en18 (hF.ev rfl) (hF.ev rfl)) (eqIntS_same (hS.own_rd (i := 4) rfl) (hS.own_rd (i := 0) rfl)) ?_; clear hF a; rintro v w12 a ⟨rfl, hB_⟩ hF; replace hS := hS.ext hB_; clear hB_
      refine wl hF rfl rfl rfl (r_not (hF.ev rfl)) ?_; clear hF a; intro a hF
      refine wl_nil ?_
      refine hK17 _ _ ?_
      refine wc_false (hF.ev rfl) ?_
      refine wp_skip ?_
      refine hK16 _ _ ?_
      refine wp_seq_k fun K18 hK18 => ?_
      refine wp_region_lit ?_
      refine wl hF rfl rfl rfl (r_assign ec) ?_; clear hF a; intro a hF
      refine wl_nil ?_
      refine hK18 _ _ ?_
      refine wp_seq_k fun K19 hK19 => ?_
      refine wp_region_lit ?_
      refine wl hF rfl rfl rfl (r_move (hF.ev rfl)) ?_; clear hF a; intro a hF
      refine wl hF rfl rfl rfl (r_move (hF.ev rfl)) ?_; clear hF a; intro a hF
      refine wl_call hF rfl rfl rfl (r_call2 en19 (hF.ev rfl) (hF.ev rfl)) (markIntS_c hS (q := 5) rfl (by omega) (by first | omega | (simp only [marks_length]; omega))) ?_; clear hF a; rintro v w13 a ⟨rfl, hS_⟩ hF; replace hS := hS_; clear hS_; dsimp only [List.set] at hS
      refine wl hF rfl rfl rfl (r_assign (hF.ev rfl)) ?_; clear hF a; intro a hF
      refine wl_nil ?_
      refine hK19 _ _ ?_
      refine wp_seq_k fun K20 hK20 => ?_
      refine wp_region_lit ?_
      refine wl hF rfl rfl rfl (r_move (hF.ev rfl)) ?_; clear hF a; intro a hF
      refine wl hF rfl rfl rfl (r_move (hF.ev rfl)) ?_; clear hF a; intro a hF
      refine wl_call hF rfl rfl rfl (r_call2 en19 (hF.ev rfl) (hF.ev rfl)) (markIntS_c hS (q := 4) rfl (by omega) (by first | omega | (simp only [marks_length]; omega))) ?_; clear hF a; rintro v w14 a ⟨rfl, hS_⟩ hF; replace hS := hS_; clear hS_; dsimp only [List.set] at hS
      refine wl hF rfl rfl rfl (r_assign (hF.ev rfl)) ?_; clear hF a; intro a hF
      refine wl_nil ?_
      refine hK20 _ _ ?_
      refine wp_seq_k fun K21 hK21 => ?_
      refine wp_seq_k fun K22 hK22 => ?_
      refine wp_region_lit ?_
      refine wl hF rfl rfl rfl (r_move (hF.ev rfl)) ?_; clear hF a; intro a hF
      refine wl hF rfl rfl rfl (r_lss (hF.ev rfl) ec) ?_; clear hF a; intro a hF
      refine wl hF rfl rfl rfl (r_move (hF.ev rfl)) ?_; clear hF a; intro a hF
      revert hF; intro hF0; refine bsplit (t := 68) hF0 rfl (fun b68 hF => ?_) (fun b68 hF => ?_)
      · exfalso; clear hF hF0; try simp only [decide_eq_true_eq, decide_eq_false_iff_not, Bool.not_eq_true', Bool.not_eq_false'] at b68
        first | omega | simp_all; done
      clear hF0
      refine wl_take hF rfl rfl rfl rfl ?_
      refine wl hF rfl rfl rfl (r_move (hF.ev rfl)) ?_; clear hF a; intro a hF
      refine wl_take hF rfl rfl rfl rfl ?_
      refine wl hF rfl rfl rfl (r_move (hF.ev rfl)) ?_; clear hF a; intro a hF
      refine wl_take hF rfl rfl rfl rfl ?_
      refine wl_call hF rfl rfl rfl (r_call2 en18 (hF.ev rfl) (hF.ev rfl)) (eqIntS_same (hS.own_rd (i := 2) rfl) (hS.own_rd (i := 6) rfl)) ?_; clear hF a; rintro v w15 a ⟨rfl, hB_⟩ hF; replace hS := hS.ext hB_; clear hB_
      refine wl_take hF rfl rfl rfl rfl ?_
      refine wl hF rfl rfl rfl (r_not (hF.ev rfl)) ?_; clear hF a; intro a hF
      refine wl hF rfl rfl rfl (r_pick_f (hF.ev rfl) (hF.ev rfl)) ?_; clear hF a; intro a hF
      refine wl hF rfl rfl rfl (r_move (hF.ev rfl)) ?_; clear hF a; intro a hF
      refine wl_take hF rfl rfl rfl rfl ?_
      refine wl hF rfl rfl rfl (r_move (hF.ev rfl)) ?_; clear hF a; intro a hF
      refine wl_take hF rfl rfl rfl rfl ?_
      refine wl hF rfl rfl rfl (r_move (hF.ev rfl)) ?_; clear hF a; intro a hF
      refine wl_take hF rfl rfl rfl rfl ?_
      refine wl_call hF rfl rfl rfl (r_call2 en18 (hF.ev rfl) (hF.ev rfl)) (eqIntS_same (hS.own_rd (i := 3) rfl) (hS.own_rd (i := 7) rfl)) ?_; clear hF a; rintro v w16 a ⟨rfl, hB_⟩ hF; replace hS := hS.ext hB_; clear hB_
      refine wl_take hF rfl rfl rfl rfl ?_
      refine wl hF rfl rfl rfl (r_not (hF.ev rfl)) ?_; clear hF a; intro a hF
      refine wl hF rfl rfl rfl (r_pick_f (hF.ev rfl) (hF.ev rfl)) ?_; clear hF a; intro a hF
      refine wl_nil ?_
      refine hK22 _ _ ?_
      refine wc_false (hF.ev rfl) ?_
      refine wp_skip ?_
      refine hK21 _ _ ?_
      refine wp_seq_k fun K23 hK23 => ?_
      refine wp_region_lit ?_
      refine wl hF rfl rfl rfl (r_assign ec) ?_; clear hF a; intro a hF
      refine wl_nil ?_
      refine hK23 _ _ ?_
      refine wp_seq_k fun K24 hK24 => ?_
      refine wp_region_lit ?_
      refine wl hF rfl rfl rfl (r_move (hF.ev rfl)) ?_; clear hF a; intro a hF
      refine wl hF rfl rfl rfl (r_move (hF.ev rfl)) ?_; clear hF a; intro a hF
      refine wl_call hF rfl rfl rfl (r_call2 en19 (hF.ev rfl) (hF.ev rfl)) (markIntS_c hS (q := 2) rfl (by omega) (by first | omega | (simp only [marks_length]; omega))) ?_; clear hF a; rintro v w17 a ⟨rfl, hS_⟩ hF; replace hS := hS_; clear hS_; dsimp only [List.set] at hS
      refine wl hF rfl rfl rfl (r_assign (hF.ev rfl)) ?_; clear hF a; intro a hF
      refine wl_nil ?_
      refine hK24 _ _ ?_
      refine wp_seq_k fun K25 hK25 => ?_
      refine wp_region_lit ?_
      refine wl hF rfl rfl rfl (r_move (hF.ev rfl)) ?_; clear hF a; intro a hF
      refine wl hF rfl rfl rfl (r_move (hF.ev rfl)) ?_; clear hF a; intro a hF
      refine wl_call hF rfl rfl rfl (r_call2 en19 (hF.ev rfl) (hF.ev rfl)) (markIntS_c hS (q := 3) rfl (by omega) (by first | omega | (simp only [marks_length]; omega))) ?_; clear hF a; rintro v w18 a ⟨rfl, hS_⟩ hF; replace hS := hS_; clear hS_; dsimp only [List.set] at hS
      refine wl hF rfl rfl rfl (r_assign (hF.ev rfl)) ?_; clear hF a; intro a hF
      refine wl_nil ?_
      refine hK25 _ _ ?_
      refine wp_seq_k fun K26 hK26 => ?_
      refine wp_region_lit ?_
      refine wl hF rfl rfl rfl (r_assign ec) ?_; clear hF a; intro a hF
      refine wl_nil ?_
      refine hK26 _ _ ?_
      refine wp_seq_k fun K27 hK27 => ?_
      refine wp_region_lit ?_
      refine wl hF rfl rfl rfl (r_move (hF.ev rfl)) ?_; clear hF a; intro a hF
      refine wl hF rfl rfl rfl (r_move (hF.ev rfl)) ?_; clear hF a; intro a hF
      refine wl_call hF rfl rfl rfl (r_call2 en20 (hF.ev rfl) (hF.ev rfl)) (heldIntS_c (hS.own_rd (i := 2) rfl) (by omega) (by first | omega | (simp only [marks_length]; omega))) ?_; clear hF a; rintro v w19 a ⟨rfl, hB_⟩ hF; replace hS := hS.ext hB_; clear hB_
      refine wl hF rfl rfl rfl (r_assign (hF.ev rfl)) ?_; clear hF a; intro a hF
      refine wl_nil ?_
      refine hK27 _ _ ?_
      refine wp_seq_k fun K28 hK28 => ?_
      refine wp_seq_k fun K29 hK29 => ?_
      refine wp_region_lit ?_
      refine wl hF rfl rfl rfl (r_move (hF.ev rfl)) ?_; clear hF a; intro a hF
      refine wl hF rfl rfl rfl (r_lss (hF.ev rfl) ec) ?_; clear hF a; intro a hF
      refine wl_nil ?_
      refine hK29 _ _ ?_
      first | refine wc_dec (hF.ev rfl) (fun c90 => ?_) (fun c90 => ?_) | refine wc_ndec (hF.ev rfl) (fun c90 => ?_) (fun c90 => ?_) | refine wc_b (hF.ev rfl) (fun c90 => ?_) (fun c90 => ?_)
      · exfalso; first | omega | simp_all; done
      refine wp_skip ?_
      refine hK28 _ _ ?_
      refine wp_seq_k fun K30 hK30 => ?_
      refine wp_region_lit ?_
      refine wl hF rfl rfl rfl (r_move (hF.ev rfl)) ?_; clear hF a; intro a hF
      refine wl hF rfl rfl rfl (r_move (hF.ev rfl)) ?_; clear hF a; intro a hF
      refine wl_call hF rfl rfl rfl (r_call2 en20 (hF.ev rfl) (hF.ev rfl)) (heldIntS_c (hS.own_rd (i := 3) rfl) (by omega) (by first | omega | (simp only [marks_length]; omega))) ?_; clear hF a; rintro v w20 a ⟨rfl, hB_⟩ hF; replace hS := hS.ext hB_; clear hB_
      refine wl hF rfl rfl rfl (r_assign (hF.ev rfl)) ?_; clear hF a; intro a hF
      refine wl_nil ?_
      refine hK30 _ _ ?_
      refine wp_seq_k fun K31 hK31 => ?_
      refine wp_seq_k fun K32 hK32 => ?_
      refine wp_region_lit ?_
      refine wl hF rfl rfl rfl (r_move (hF.ev rfl)) ?_; clear hF a; intro a hF
      refine wl hF rfl rfl rfl (r_lss (hF.ev rfl) ec) ?_; clear hF a; intro a hF
      refine wl_nil ?_
      refine hK32 _ _ ?_
      first | refine wc_dec (hF.ev rfl) (fun c95 => ?_) (fun c95 => ?_) | refine wc_ndec (hF.ev rfl) (fun c95 => ?_) (fun c95 => ?_) | refine wc_b (hF.ev rfl) (fun c95 => ?_) (fun c95 => ?_)
      · exfalso; first | omega | simp_all; done
      refine wp_skip ?_
      refine hK31 _ _ ?_
      refine wp_seq_k fun K33 hK33 => ?_
      refine wp_seq_k fun K34 hK34 => ?_
      refine wp_region_lit ?_
      refine wl hF rfl rfl rfl (r_move (hF.ev rfl)) ?_; clear hF a; intro a hF
      refine wl hF rfl rfl rfl (r_move (hF.ev rfl)) ?_; clear hF a; intro a hF
      refine wl hF rfl rfl rfl (r_neq (hF.ev rfl) (hF.ev rfl)) ?_; clear hF a; intro a hF
      refine wl_nil ?_
      refine hK34 _ _ ?_
      first | refine wc_dec (hF.ev rfl) (fun c98 => ?_) (fun c98 => ?_) | refine wc_ndec (hF.ev rfl) (fun c98 => ?_) (fun c98 => ?_) | refine wc_b (hF.ev rfl) (fun c98 => ?_) (fun c98 => ?_)
      · exfalso; first | omega | simp_all; done
      refine wp_skip ?_
      refine hK33 _ _ ?_
      refine wp_seq_k fun K35 hK35 => ?_
      refine wp_region_lit ?_
      refine wl hF rfl rfl rfl (r_move (hF.ev rfl)) ?_; clear hF a; intro a hF
      refine wl_mk hF hS rfl rfl rfl (r_call1 en16 (hF.ev rfl)) (toIntS_c (hS.rd ha) (by omega)) ?_; clear hF a; rintro vr101 w21 a hS_ hF; replace hS := hS_; clear hS_; dsimp only [List.cons_append, List.nil_append] at hS
      refine wl hF rfl rfl rfl (r_move (hF.ev rfl)) ?_; clear hF a; intro a hF
      refine wl_mk hF hS rfl rfl rfl (r_call1 en16 (hF.ev rfl)) (toIntS_c (hS.rd hb) (by omega)) ?_; clear hF a; rintro vr103 w22 a hS_ hF; replace hS := hS_; clear hS_; dsimp only [List.cons_append, List.nil_append] at hS
      refine wl_mk hF hS rfl rfl rfl (r_call2 en17 (hF.ev rfl) (hF.ev rfl)) (implSplit_c (hS.own_rd (i := 1) rfl) (hS.own_rd (i := 0) rfl) (by omega)) ?_; clear hF a; rintro ⟨p104, q104⟩ w23 a hS_ hF; replace hS := hS_; clear hS_; dsimp only [List.cons_append, List.nil_append] at hS
      refine wl hF rfl rfl rfl (r_move (hF.ev rfl)) ?_; clear hF a; intro a hF
      refine wl hF rfl rfl rfl (r_extract (hF.ev rfl) rfl) ?_; clear hF a; intro a hF
      refine wl hF rfl rfl rfl (r_extract (hF.ev rfl) rfl) ?_; clear hF a; intro a hF
      refine wl hF rfl rfl rfl (r_assign (hF.ev rfl)) ?_; clear hF a; intro a hF
      refine wl hF rfl rfl rfl (r_assign (hF.ev rfl)) ?_; clear hF a; intro a hF
      refine wl_nil ?_
      refine hK35 _ _ ?_
      refine wp_seq_k fun K36 hK36 => ?_
      refine wp_seq_k fun K37 hK37 => ?_
      refine wp_region_lit ?_
      refine wl hF rfl rfl rfl (r_move (hF.ev rfl)) ?_; clear hF a; intro a hF
      refine wl hF rfl rfl rfl (r_move (hF.ev rfl)) ?_; clear hF a; intro a hF
      refine wl_call hF rfl rfl rfl (r_call2 en18 (hF.ev rfl) (hF.ev rfl)) (eqIntS_same (hS.own_rd (i := 0) rfl) (hS.own_rd (i := 10) rfl)) ?_; clear hF a; rintro v w24 a ⟨rfl, hB_⟩ hF; replace hS := hS.ext hB_; clear hB_
      refine wl hF rfl rfl rfl (r_not (hF.ev rfl)) ?_; clear hF a; intro a hF
      refine wl hF rfl rfl rfl (r_move (hF.ev rfl)) ?_; clear hF a; intro a hF
      refine wl_take hF rfl rfl rfl rfl ?_
      refine wl hF rfl rfl rfl (r_move (hF.ev rfl)) ?_; clear hF a; intro a hF
      refine wl_take hF rfl rfl rfl rfl ?_
      refine wl hF rfl rfl rfl (r_move (hF.ev rfl)) ?_; clear hF a; intro a hF
      refine wl_take hF rfl rfl rfl rfl ?_
      refine wl_call hF rfl rfl rfl (r_call2 en18 (hF.ev rfl) (hF.ev rfl)) (eqIntS_same (hS.own_rd (i := 1) rfl) (hS.own_rd (i := 11) rfl)) ?_; clear hF a; rintro v w25 a ⟨rfl, hB_⟩ hF; replace hS := hS.ext hB_; clear hB_
      refine wl_take hF rfl rfl rfl rfl ?_
      refine wl hF rfl rfl rfl (r_not (hF.ev rfl)) ?_; clear hF a; intro a hF
      refine wl hF rfl rfl rfl (r_pick_f (hF.ev rfl) (hF.ev rfl)) ?_; clear hF a; intro a hF
      refine wl_nil ?_
      refine hK37 _ _ ?_
      refine wc_false (hF.ev rfl) ?_
      refine wp_skip ?_
      refine hK36 _ _ ?_
      refine wp_seq_k fun K38 hK38 => ?_
      refine wp_region_lit ?_
      refine wl hF rfl rfl rfl (r_assign ec) ?_; clear hF a; intro a hF
      refine wl_nil ?_
      refine hK38 _ _ ?_
      refine wp_seq_k fun K39 hK39 => ?_
      refine wp_region_lit ?_
      refine wl hF rfl rfl rfl (r_move (hF.ev rfl)) ?_; clear hF a; intro a hF
      refine wl hF rfl rfl rfl (r_move (hF.ev rfl)) ?_; clear hF a; intro a hF
      refine wl_call hF rfl rfl rfl (r_call2 en20 (hF.ev rfl) (hF.ev rfl)) (heldIntS_c (hS.own_rd (i := 6) rfl) (by omega) (by first | omega | (simp only [marks_length]; omega))) ?_; clear hF a; rintro v w26 a ⟨rfl, hB_⟩ hF; replace hS := hS.ext hB_; clear hB_
      refine wl hF rfl rfl rfl (r_assign (hF.ev rfl)) ?_; clear hF a; intro a hF
      refine wl_nil ?_
      refine hK39 _ _ ?_
      refine wp_seq_k fun K40 hK40 => ?_
      refine wp_seq_k fun K41 hK41 => ?_
      refine wp_region_lit ?_
      refine wl hF rfl rfl rfl (r_move (hF.ev rfl)) ?_; clear hF a; intro a hF
      refine wl hF rfl rfl rfl (r_lss (hF.ev rfl) ec) ?_; clear hF a; intro a hF
      refine wl_nil ?_
      refine hK41 _ _ ?_
      first | refine wc_dec (hF.ev rfl) (fun c121 => ?_) (fun c121 => ?_) | refine wc_ndec (hF.ev rfl) (fun c121 => ?_) (fun c121 => ?_) | refine wc_b (hF.ev rfl) (fun c121 => ?_) (fun c121 => ?_)
      · exfalso; first | omega | simp_all; done
      refine wp_skip ?_
      refine hK40 _ _ ?_
      refine wp_seq_k fun K42 hK42 => ?_
      refine wp_region_lit ?_
      refine wl hF rfl rfl rfl (r_move (hF.ev rfl)) ?_; clear hF a; intro a hF
      refine wl hF rfl rfl rfl (r_move (hF.ev rfl)) ?_; clear hF a; intro a hF
      refine wl_call hF rfl rfl rfl (r_call2 en20 (hF.ev rfl) (hF.ev rfl)) (heldIntS_c (hS.own_rd (i := 7) rfl) (by omega) (by first | omega | (simp only [marks_length]; omega))) ?_; clear hF a; rintro v w27 a ⟨rfl, hB_⟩ hF; replace hS := hS.ext hB_; clear hB_
      refine wl hF rfl rfl rfl (r_assign (hF.ev rfl)) ?_; clear hF a; intro a hF
      refine wl_nil ?_
      refine hK42 _ _ ?_
      refine wp_seq_k fun K43 hK43 => ?_
      refine wp_seq_k fun K44 hK44 => ?_
      refine wp_region_lit ?_
      refine wl hF rfl rfl rfl (r_move (hF.ev rfl)) ?_; clear hF a; intro a hF
      refine wl hF rfl rfl rfl (r_lss (hF.ev rfl) ec) ?_; clear hF a; intro a hF
      refine wl_nil ?_
      refine hK44 _ _ ?_
      first | refine wc_dec (hF.ev rfl) (fun c126 => ?_) (fun c126 => ?_) | refine wc_ndec (hF.ev rfl) (fun c126 => ?_) (fun c126 => ?_) | refine wc_b (hF.ev rfl) (fun c126 => ?_) (fun c126 => ?_)
      · exfalso; first | omega | simp_all; done
      refine wp_skip ?_
      refine hK43 _ _ ?_
      refine wp_seq_k fun K45 hK45 => ?_
      refine wp_seq_k fun K46 hK46 => ?_
      refine wp_region_lit ?_
      refine wl hF rfl rfl rfl (r_move (hF.ev rfl)) ?_; clear hF a; intro a hF
      refine wl hF rfl rfl rfl (r_move (hF.ev rfl)) ?_; clear hF a; intro a hF
      refine wl hF rfl rfl rfl (r_neq (hF.ev rfl) (hF.ev rfl)) ?_; clear hF a; intro a hF
      refine wl_nil ?_
      refine hK46 _ _ ?_
      first | refine wc_dec (hF.ev rfl) (fun c129 => ?_) (fun c129 => ?_) | refine wc_ndec (hF.ev rfl) (fun c129 => ?_) (fun c129 => ?_) | refine wc_b (hF.ev rfl) (fun c129 => ?_) (fun c129 => ?_)
      · exfalso; first | omega | simp_all; done
      refine wp_skip ?_
      refine hK45 _ _ ?_
      refine wp_seq_k fun K47 hK47 => ?_
      refine wp_region_lit ?_
      refine wl hF rfl rfl rfl (r_assign ec) ?_; clear hF a; intro a hF
      refine wl_nil ?_
      refine hK47 _ _ ?_
      refine wp_ret ?_
      try simp only [Exit.then, Exit.inBlock, ↓reduceIte]
      exact ret1 rfl hF rfl ⟨rfl, hS.old⟩

end Go.Proofs.Ytgilfekfplfohaa.Wk
