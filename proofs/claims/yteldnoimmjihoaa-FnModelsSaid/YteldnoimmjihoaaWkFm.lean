/- Walks: the law on models. -/
import Derived.Test.YteldnoimmjihoaaChecked
import Derived.Test.YteldnoimmjihoaaWkDa
import Derived.Test.YteldnoimmjihoaaWkX
import Derived.Test.YteldnoimmjihoaaWkEqM
import Derived.Test.YteldnoimmjihoaaFactsF
namespace Go.Proofs.Yteldnoimmjihoaa.Wk
open Go Go.RowKit Sl
set_option linter.unusedVariables false
set_option linter.unusedSimpArgs false
set_option maxRecDepth 20000

section
variable {c : Config} {m : Model} {p : Int} {o : Sl.Op} {e : Sl.Event}
theorem apply_no (h : ¬ (isModel c m = true ∧ o.ok ∧ (0 ≤ p ∧ p ≤ c.threads - 1))) : applyModel c m p o = (m, ⟨0, 0⟩) := if_neg h
theorem apply_no4 (h : ((isModel c m = false ∨ p < 0) ∨ c.threads ≤ p) ∨ ¬ o.ok) : applyModel c m p o = (m, ⟨0, 0⟩) := by
  refine apply_no fun g => ?_
  rcases h with ((h | h) | h) | h
  · rw [g.1] at h; cases h
  · omega
  · omega
  · exact h g.2.1
theorem apply_kept (h : ¬ (applyModel c m p o).2.code = 0) : (applyModel c m p o).1 = m := by
  unfold applyModel at h ⊢
  repeat' split
  all_goals first | rfl | (exfalso; simp_all; done)
theorem explains_kept (h : (explains c m e).2 = false) : (explains c m e).1 = m := by
  unfold explains at h ⊢
  split
  · rename_i h1
    rw [if_pos h1] at h
    split
    · rename_i h2; rw [if_pos h2] at h; cases h
    · rfl
  · rfl
theorem apply_vals (h : ¬ o.kind = 3) : (applyModel c m p o).1.values = m.values := by
  unfold applyModel
  repeat' split
  all_goals first | rfl | (exfalso; omega)
theorem at0_set_ne {xs : List (List Int)} {k q : Int} {y : List Int} (h0 : 0 ≤ k) (h1 : 0 ≤ q) (hn : q ≠ k) : at0 (xs.set k.toNat y) q = at0 xs q := by
  unfold at0
  rw [List.getElem?_set_ne (by omega)]
theorem apply_others {q : Int} (h0 : 0 ≤ p) (h1 : 0 ≤ q) (hn : q ≠ p) : at0 (applyModel c m p o).1.snapshots q = at0 m.snapshots q := by
  unfold applyModel
  repeat' split
  all_goals first | rfl | exact at0_set_ne h0 h1 hn
theorem at0_set_self {xs : List (List Int)} {k : Int} {y : List Int} (h0 : 0 ≤ k) (h1 : k < xs.length) : at0 (xs.set k.toNat y) k = y := by
  unfold at0
  rw [List.getElem?_set_self (by omega)]; rfl
theorem apply_self (hm : isModel c m = true) (h0 : 0 ≤ p) (h1 : p ≤ c.threads - 1) (g1 : (0 : Int) < (at0 m.snapshots p).length) (g2 : (0 : Int) < (at0 (applyModel c m p o).1.snapshots p).length) : at0 (applyModel c m p o).1.snapshots p = at0 m.snapshots p := by
  have hth := (isModel_thr hm).2
  revert g2
  unfold applyModel
  repeat' split
  all_goals first
    | (intro _; rfl)
    | (intro _; exfalso; simp_all; done)
    | (intro g; dsimp only at g; rw [at0_set_self h0 (by omega)] at g; exfalso; simp at g)
theorem apply_snaps {q : Int} (hm : isModel c m = true) (h0 : 0 ≤ p) (h1 : p ≤ c.threads - 1) (hq : 0 ≤ q) (h : (¬ q = p ∧ ¬ at0 (applyModel c m p o).1.snapshots q = at0 m.snapshots q) ∨ (((0 : Int) < (at0 m.snapshots q).length ∧ (0 : Int) < (at0 (applyModel c m p o).1.snapshots q).length) ∧ ¬ at0 (applyModel c m p o).1.snapshots q = at0 m.snapshots q)) : False := by
  rcases h with ⟨hn, h⟩ | ⟨⟨g1, g2⟩, h⟩
  · exact h (apply_others h0 hq hn)
  · by_cases e : q = p
    · subst e; exact h (apply_self hm h0 h1 g1 g2)
    · exact h (apply_others h0 hq e)
end

set_option maxHeartbeats 4000000 in
set_option maxRecDepth 20000 in
theorem big_c {W : World} {vb : Value} {bs : List Int} (hb : byteEK.Rd W vb bs) : Calls Try.prog 31 #[vb] W (Ret fun v w' => v = .bool (decide (1048576 < bs.length)) ∧ Below W.heap.size W w') := by
  refine calls_fr Try.func31 rfl Try.ntmps31 rfl ?_
  intro a hF
  have hS := Sep.refl W
  obtain ⟨A_b, q_b, rfl, hq_b, hn_b⟩ := hb.sl; unfold maxLen at hn_b
  refine ws fun K1 hK1 => ?_
  refine wl_mvs (A := [_]) hF rfl ?_; clear hF a; intro a hF
  refine wl_nil (hK1 _ _ ?_)
  refine ws fun K2 hK2 => ?_
  refine wl_mvs (A := [_]) hF rfl ?_; clear hF a; intro a hF
  refine wl hF rfl rfl rfl (r_len ul64 (hF.ev rfl)) ?_; clear hF a; intro a hF
  refine wl hF rfl rfl rfl (r_gtr (hF.ev rfl) ec) ?_; clear hF a; intro a hF
  refine wl_mvs (A := [_]) hF rfl ?_; clear hF a; intro a hF
  refine wl_nil (hK2 _ _ ?_)
  refine wp_ret ?_
  try simp only [Exit.then, Exit.inBlock, ↓reduceIte]
  refine ret1 rfl hF rfl ⟨congrArg Value.bool (decide_eq_decide.2 (by omega)), hS.old⟩

set_option maxHeartbeats 4000000 in
set_option maxRecDepth 20000 in
theorem sameInts_c {W : World} {va vb : Value} {xs ys : List Int} (ha : intEK.Rd W va xs) (hb : intEK.Rd W vb ys) : Calls Try.prog 40 #[va, vb] W (Ret fun v w' => v = .bool (decide (xs = ys)) ∧ Below W.heap.size W w') := by
  refine calls_fr Try.func40 rfl Try.ntmps40 rfl ?_
  intro a hF
  obtain ⟨A_a, q_a, rfl, hq_a, hn_a⟩ := ha.sl; unfold maxLen at hn_a
  obtain ⟨A_b, q_b, rfl, hq_b, hn_b⟩ := hb.sl; unfold maxLen at hn_b
  have hS := Sep.refl W
  refine ws fun K1 hK1 => ?_
  refine wl_mvs (A := [_]) hF rfl ?_; clear hF a; intro a hF
  refine wl_nil (hK1 _ _ ?_)
  refine wp_seq_k fun K2 hK2 => ?_
  refine ws fun K3 hK3 => ?_
  refine wl_mvs (A := [_]) hF rfl ?_; clear hF a; intro a hF
  refine wl hF rfl rfl rfl (r_len ul24 (hF.ev rfl)) ?_; clear hF a; intro a hF
  refine wl_mvs (A := [_]) hF rfl ?_; clear hF a; intro a hF
  refine wl hF rfl rfl rfl (r_len ul24 (hF.ev rfl)) ?_; clear hF a; intro a hF
  refine wl hF rfl rfl rfl (r_neq (hF.ev rfl) (hF.ev rfl)) ?_; clear hF a; intro a hF
  refine wl_nil (hK3 _ _ ?_)
  first | refine wc_dec (hF.ev rfl) (fun c10 => ?_) (fun c10 => ?_) | refine wc_ndec (hF.ev rfl) (fun c10 => ?_) (fun c10 => ?_) | refine wc_b (hF.ev rfl) (fun c10 => ?_) (fun c10 => ?_)
  ·
    refine ws fun K4 hK4 => ?_
    refine wl_mvs (A := [_]) hF rfl ?_; clear hF a; intro a hF
    refine wl_nil (hK4 _ _ ?_)
    refine wp_ret ?_
    try simp only [Exit.then, Exit.inBlock, ↓reduceIte]
    refine ret1 rfl hF rfl ⟨?_, hS.old⟩
    first | exact eq_len c10 | exact eq_at hx hy c25 | exact eq_all htk hk hlen (by omega)
  refine wp_skip ?_
  refine hK2 _ _ ?_
  refine wp_seq_k fun K5 hK5 => ?_
  refine ws fun K6 hK6 => ?_
  refine wl_mvs (A := [_]) hF rfl ?_; clear hF a; intro a hF
  refine wl_nil (hK6 _ _ ?_)
  refine wp_block ?_
  refine wp_loop_g (σ := Nat) (fun k a w => k ≤ xs.length ∧ xs.length = ys.length ∧ xs.take k = ys.take k ∧ Sep W [] w ∧ Fr 26 [(5, vi k), (0, .slice A_a xs.length q_a), (1, .slice A_b ys.length q_b)] a) (fun k => xs.length - k) 0 ?_ ?_
  · exact ⟨Nat.zero_le _, by omega, rfl, hS, (((hF.nil.keep hF (t := 1) rfl).keep hF (t := 0) rfl).keep hF (t := 5) rfl)⟩
  clear hF hS a
  rintro k a w ⟨hk, hlen, htk, hS, hF⟩
  refine wp_seq_k fun K7 hK7 => ?_
  refine ws fun K8 hK8 => ?_
  refine wl_mvs (A := [_, _]) hF rfl ?_; clear hF a; intro a hF
  refine wl hF rfl rfl rfl (r_len ul24 (hF.ev rfl)) ?_; clear hF a; intro a hF
  refine wl hF rfl rfl rfl (r_lss (hF.ev rfl) (hF.ev rfl)) ?_; clear hF a; intro a hF
  refine wl_nil (hK8 _ _ ?_)
  first | refine wc_dec (hF.ev rfl) (fun c14 => ?_) (fun c14 => ?_) | refine wc_ndec (hF.ev rfl) (fun c14 => ?_) (fun c14 => ?_) | refine wc_b (hF.ev rfl) (fun c14 => ?_) (fun c14 => ?_)
  ·
    have hlt : k < xs.length := by omega
    obtain ⟨x, hx⟩ : ∃ x, xs[k]? = some x := ⟨_, List.getElem?_eq_getElem hlt⟩
    obtain ⟨y, hy⟩ : ∃ y, ys[k]? = some y := ⟨_, List.getElem?_eq_getElem (by omega)⟩
    refine wp_skip ?_
    refine hK7 _ _ ?_
    refine wp_seq_k fun K9 hK9 => ?_
    refine wp_block ?_
    refine wp_seq_k fun K10 hK10 => ?_
    refine wp_region_calm (by kernel_rfl) (by kernel_rfl) ?_
    refine wq_mvs (A := [_, _]) hF rfl ?_; clear hF a; intro a hF
    obtain ⟨g19, o19, m19, q19, hv19, hm19, hl19, hc19⟩ := Rd.idxF (hS.rd ha) hx
    refine wq hF rfl rfl rfl (fun w_ hB_ => r_index sl24 ((hF.ev rfl).trans hv19) (hF.ev rfl) (by omega) (by omega)) ?_; clear hF a; intro a hF
    refine wq hF rfl rfl rfl (fun w_ hB_ => r_load1 sc3 (hF.ev rfl) (cellB hB_ (hc19 0 _ rfl))) ?_; clear hF a; intro a hF
    refine wq_mvs (A := [_, _]) hF rfl ?_; clear hF a; intro a hF
    obtain ⟨g23, o23, m23, q23, hv23, hm23, hl23, hc23⟩ := Rd.idxF (hS.rd hb) hy
    refine wq hF rfl rfl rfl (fun w_ hB_ => r_index sl24 ((hF.ev rfl).trans hv23) (hF.ev rfl) (by omega) (by omega)) ?_; clear hF a; intro a hF
    refine wq hF rfl rfl rfl (fun w_ hB_ => r_load1 sc3 (hF.ev rfl) (cellB hB_ (hc23 0 _ rfl))) ?_; clear hF a; intro a hF
    refine wq hF rfl rfl rfl (fun w_ hB_ => r_neq (hF.ev rfl) (hF.ev rfl)) ?_; clear hF a; intro a hF
    refine wpQuiet_nil ?_; intro w1 hB_; replace hS := hS.ext hB_; clear hB_
    refine hK10 _ _ ?_
    first | refine wc_dec (hF.ev rfl) (fun c25 => ?_) (fun c25 => ?_) | refine wc_ndec (hF.ev rfl) (fun c25 => ?_) (fun c25 => ?_) | refine wc_b (hF.ev rfl) (fun c25 => ?_) (fun c25 => ?_)
    ·
      refine ws fun K11 hK11 => ?_
      refine wl_mvs (A := [_]) hF rfl ?_; clear hF a; intro a hF
      refine wl_nil (hK11 _ _ ?_)
      refine wp_ret ?_
      try simp only [Exit.then, Exit.inBlock, ↓reduceIte]
      refine ret1 rfl hF rfl ⟨?_, hS.old⟩
      first | exact eq_len c10 | exact eq_at hx hy c25 | exact eq_all htk hk hlen (by omega)
    refine wp_skip ?_
    simp only [Exit.then, Exit.inBlock, ↓reduceIte]
    refine hK9 _ _ ?_
    refine wp_region_lit ?_
    refine wl_mvs (A := [_]) hF rfl ?_; clear hF a; intro a hF
    refine wl hF rfl rfl rfl (r_add (hF.ev rfl) ec) ?_; clear hF a; intro a hF
    refine wl_mvs (A := [_]) hF rfl ?_; clear hF a; intro a hF
    refine wl_nil ?_
    try simp only [Exit.then, Exit.inBlock, ↓reduceIte]
    exact ⟨k + 1, ⟨by omega, hlen, take_next htk hx hy c25, hS, (((hF.nil.keep hF (t := 1) rfl).keep hF (t := 0) rfl).keepE hF (t := 5) rfl (wk (by omega)))⟩, by omega⟩
  refine wp_exit ?_
  simp only [Exit.then, Exit.inBlock, ↓reduceIte]
  refine hK5 _ _ ?_
  refine ws fun K12 hK12 => ?_
  refine wl_mvs (A := [_]) hF rfl ?_; clear hF a; intro a hF
  refine wl_nil (hK12 _ _ ?_)
  refine wp_ret ?_
  try simp only [Exit.then, Exit.inBlock, ↓reduceIte]
  refine ret1 rfl hF rfl ⟨?_, hS.old⟩
  first | exact eq_len c10 | exact eq_at hx hy c25 | exact eq_all htk hk hlen (by omega)

set_option maxHeartbeats 4000000 in
set_option maxRecDepth 20000 in
theorem law_FnModels {W : World} {vb : Value} {bs : List Int} (hb : byteEK.Rd W vb bs) : Calls Try.prog 7 #[vb] W (Ret fun v w' => v = .bool true ∧ Below W.heap.size W w') := by
  refine calls_fr Try.func7 rfl Try.ntmps7 rfl ?_
  intro a hF
  have hS := Sep.refl W
  refine ws fun K1 hK1 => ?_
  refine wl_mvs (A := [_]) hF rfl ?_; clear hF a; intro a hF
  refine wl_nil (hK1 _ _ ?_)
  refine wp_seq_k fun K2 hK2 => ?_
  refine ws fun K3 hK3 => ?_
  refine wl_mvs (A := [_]) hF rfl ?_; clear hF a; intro a hF
  refine wl_call hF rfl rfl rfl (r_call1 en31 (hF.ev rfl)) (big_c (hS.rd hb)) ?_; clear hF a; rintro v w1 a ⟨rfl, hB_⟩ hF; replace hS := hS.ext hB_; clear hB_
  refine wl_nil (hK3 _ _ ?_)
  refine wc_fx (t := 20) hF rfl ?_ ?_ <;> clear hF <;> intro c20 hF <;> try simp only [zb1, zb2, zb3, zb4, zb5, zb6, zb7, zb8] at c20
  ·
    refine ws fun K4 hK4 => ?_
    refine wl_mvs (A := [_]) hF rfl ?_; clear hF a; intro a hF
    refine wl_nil (hK4 _ _ ?_)
    refine wp_ret ?_
    try simp only [Exit.then, Exit.inBlock, ↓reduceIte]
    first
      | exact ret1 rfl hF rfl ⟨rfl, hS.old⟩
      | (refine ret1 rfl hF rfl ⟨congrArg Value.bool ?_, hS.old⟩; rw [hno]; simp; done)
      | (refine ret1 rfl hF rfl ⟨congrArg Value.bool ?_, hS.old⟩
         rw [hmx, Bool.true_and]
         by_cases hk3 : o23.kind = 3
         · simp [hk3]
         · rw [apply_vals hk3]; simp)
  refine wp_skip ?_
  refine hK2 _ _ ?_
  refine ws fun K5 hK5 => ?_
  refine wl_mvs (A := [_]) hF rfl ?_; clear hF a; intro a hF
  refine wl_mk hF hS rfl rfl rfl (r_call1 en32 (hF.ev rfl)) (drawApplyModel_c (hS.rd hb) (by omega)) ?_; clear hF a; rintro ⟨⟨c23, m23, vs23, p23, o23⟩, hz23⟩ w2 a hS_ hF; replace hS := hS_; clear hS_; dsimp only [List.cons_append, List.nil_append] at hS
  try dsimp only at hz23
  refine wl_mvs (A := [_]) hF rfl ?_; clear hF a; intro a hF
  refine wl hF rfl rfl rfl (r_extract (hF.ev rfl) rfl) ?_; clear hF a; intro a hF
  refine wl hF rfl rfl rfl (r_extract (hF.ev rfl) rfl) ?_; clear hF a; intro a hF
  refine wl hF rfl rfl rfl (r_extract (hF.ev rfl) rfl) ?_; clear hF a; intro a hF
  refine wl hF rfl rfl rfl (r_extract (hF.ev rfl) rfl) ?_; clear hF a; intro a hF
  refine wl_alloc hF hS rfl zr38 ?_; clear hF a; intro g1 w3 a hS_ hB_ hF; replace hS := hS_; clear hS_ hB_
  refine wl_alloc hF hS rfl zr35 ?_; clear hF a; intro g2 w4 a hS_ hB_ hF; replace hS := hS_; clear hS_ hB_
  refine wl_alloc hF hS rfl zr41 ?_; clear hF a; intro g3 w5 a hS_ hB_ hF; replace hS := hS_; clear hS_ hB_
  refine wl_storen (cs' := [_, _, _, _, _, _]) hF hS (i := 2) rfl (hF.ev rfl) (hF.ev rfl) sz38 ⟨rfl, rfl⟩ rfl rfl ?_; intro w6 hS_; replace hS := hS_; clear hS_; dsimp only [List.set] at hS
  refine wl_storew hF hS (i := 1) rfl (hF.ev rfl) (hF.ev rfl) sz35 rfl rfl ?_; intro w7 hS_; replace hS := hS_; clear hS_; dsimp only [List.set, Nat.reduceAdd] at hS
  refine wl_mvs (A := [_]) hF rfl ?_; clear hF a; intro a hF
  refine wl_storen (cs' := [_, _, _]) hF hS (i := 0) rfl (hF.ev rfl) (hF.ev rfl) sz41 ⟨rfl, rfl⟩ rfl rfl ?_; intro w8 hS_; replace hS := hS_; clear hS_; dsimp only [List.set] at hS
  refine wl_nil (hK5 _ _ ?_)
  refine ws fun K6 hK6 => ?_
  refine wl hF rfl rfl rfl (r_loadn ag38 (hF.ev rfl) (hS.box_rd (i := 2) rfl) sz38) ?_; clear hF a; intro a hF
  refine wl hF rfl rfl rfl (r_loadn ag35 (hF.ev rfl) (hS.box_rd (i := 1) rfl) sz35) ?_; clear hF a; intro a hF
  refine wl_mvs (A := [_]) hF rfl ?_; clear hF a; intro a hF
  refine wl hF rfl rfl rfl (r_loadn ag41 (hF.ev rfl) (hS.box_rd (i := 0) rfl) sz41) ?_; clear hF a; intro a hF
  refine wl_mk hF hS rfl rfl rfl (r_call4 en33 (hF.ev rfl) (hF.ev rfl) (hF.ev rfl) (hF.ev rfl)) (implApplyModel_c (hS.part_k (i := 3) rfl) (by omega)) ?_; clear hF a; rintro vs33 w9 a hS_ hF; replace hS := hS_; clear hS_; dsimp only [List.cons_append, List.nil_append] at hS
  refine wl_mvs (A := [_]) hF rfl ?_; clear hF a; intro a hF
  refine wl hF rfl rfl rfl (r_extract (hF.ev rfl) rfl) ?_; clear hF a; intro a hF
  refine wl hF rfl rfl rfl (r_extract (hF.ev rfl) rfl) ?_; clear hF a; intro a hF
  refine wl_alloc hF hS rfl zr35 ?_; clear hF a; intro g4 w10 a hS_ hB_ hF; replace hS := hS_; clear hS_ hB_
  refine wl_alloc hF hS rfl zr42 ?_; clear hF a; intro g5 w11 a hS_ hB_ hF; replace hS := hS_; clear hS_ hB_
  refine wl_storew hF hS (i := 1) rfl (hF.ev rfl) (hF.ev rfl) sz35 rfl rfl ?_; intro w12 hS_; replace hS := hS_; clear hS_; dsimp only [List.set, Nat.reduceAdd] at hS
  refine wl_storen (cs' := [_, _]) hF hS (i := 0) rfl (hF.ev rfl) (hF.ev rfl) sz42 ⟨rfl, rfl⟩ rfl rfl ?_; intro w13 hS_; replace hS := hS_; clear hS_; dsimp only [List.set] at hS
  refine wl_nil (hK6 _ _ ?_)
  refine ws fun K7 hK7 => ?_
  refine wl hF rfl rfl rfl (r_loadn ag38 (hF.ev rfl) (hS.box_rd (i := 5) rfl) sz38) ?_; clear hF a; intro a hF
  refine wl hF rfl rfl rfl (r_loadn ag35 (hF.ev rfl) (hS.box_rd (i := 4) rfl) sz35) ?_; clear hF a; intro a hF
  refine wl_mvs (A := [_]) hF rfl ?_; clear hF a; intro a hF
  refine wl hF rfl rfl rfl (r_loadn ag41 (hF.ev rfl) (hS.box_rd (i := 3) rfl) sz41) ?_; clear hF a; intro a hF
  refine wl_mk hF hS rfl rfl rfl (r_call4 en34 (hF.ev rfl) (hF.ev rfl) (hF.ev rfl) (hF.ev rfl)) (specApplyModel_c (hS.part_k (i := 6) rfl) (by omega)) ?_; clear hF a; rintro vs41 w14 a hS_ hF; replace hS := hS_; clear hS_; dsimp only [List.cons_append, List.nil_append] at hS
  refine wl_mvs (A := [_]) hF rfl ?_; clear hF a; intro a hF
  refine wl hF rfl rfl rfl (r_extract (hF.ev rfl) rfl) ?_; clear hF a; intro a hF
  refine wl hF rfl rfl rfl (r_extract (hF.ev rfl) rfl) ?_; clear hF a; intro a hF
  refine wl_alloc hF hS rfl zr35 ?_; clear hF a; intro g6 w15 a hS_ hB_ hF; replace hS := hS_; clear hS_ hB_
  refine wl_alloc hF hS rfl zr42 ?_; clear hF a; intro g7 w16 a hS_ hB_ hF; replace hS := hS_; clear hS_ hB_
  refine wl_storew hF hS (i := 1) rfl (hF.ev rfl) (hF.ev rfl) sz35 rfl rfl ?_; intro w17 hS_; replace hS := hS_; clear hS_; dsimp only [List.set, Nat.reduceAdd] at hS
  refine wl_storen (cs' := [_, _]) hF hS (i := 0) rfl (hF.ev rfl) (hF.ev rfl) sz42 ⟨rfl, rfl⟩ rfl rfl ?_; intro w18 hS_; replace hS := hS_; clear hS_; dsimp only [List.set] at hS
  refine wl_nil (hK7 _ _ ?_)
  refine wp_seq_k fun K8 hK8 => ?_
  refine wp_seq_k fun K9 hK9 => ?_
  refine wp_region_calm (by kernel_rfl) (by kernel_rfl) ?_
  refine wq hF rfl rfl rfl (fun w_ hB_ => r_loadn ag42 (hF.ev rfl) ((hS.ext hB_).box_rd (i := 3) rfl) sz42) ?_; clear hF a; intro a hF
  refine wq hF rfl rfl rfl (fun w_ hB_ => r_loadn ag42 (hF.ev rfl) ((hS.ext hB_).box_rd (i := 0) rfl) sz42) ?_; clear hF a; intro a hF
  refine wq hF rfl rfl rfl (fun w_ hB_ => r_neqF [_, _] [_, _] fl42 ag42 eg42 rfl rfl ((hF.ev rfl).trans rfl) ((hF.ev rfl).trans rfl)) ?_; clear hF a; intro a hF
  refine wq_mvs (A := [_]) hF rfl ?_; clear hF a; intro a hF
  apply wq_or (A := [_, _, _, _, _]) (pk := 52) hF (tc := 47) rfl
  ·
    intro hg47 a hF; try simp only [zb1, zb2, zb3, zb4, zb5, zb6, zb7, zb8] at hg47
    refine wq_take hF rfl rfl rfl rfl ?_
    refine wq hF rfl rfl rfl (fun w_ hB_ => r_loadn ag35 (hF.ev rfl) ((hS.ext hB_).box_rd (i := 4) rfl) sz35) ?_; clear hF a; intro a hF
    refine wq_take hF rfl rfl rfl rfl ?_
    refine wq hF rfl rfl rfl (fun w_ hB_ => r_loadn ag35 (hF.ev rfl) ((hS.ext hB_).box_rd (i := 1) rfl) sz35) ?_; clear hF a; intro a hF
    refine wq_take hF rfl rfl rfl rfl ?_
    refine wq_call hF rfl rfl rfl (fun w_ hB_ => r_call2 en35 (hF.ev rfl) (hF.ev rfl)) (fun w_ hB_ => implEqualModels_c ((hS.ext hB_).part_k (i := 5) rfl) ((hS.ext hB_).part_k (i := 2) rfl)) ?_; clear hF a; intro a hF
    refine wq_take hF rfl rfl rfl rfl ?_
    refine wq hF rfl rfl rfl (fun w_ hB_ => r_not (hF.ev rfl)) ?_; clear hF a; intro a hF
    refine wq hF rfl rfl rfl (fun w_ hB_ => r_pick_f (hF.ev rfl) (hF.ev rfl)) ?_; clear hF a; intro a hF
    exact wpQuiet_nil ((Fr.pre (A := [_, _, _, _, _]) hF rfl).keep hF (t := 52) rfl)
  ·
    intro hg47 a hF; try simp only [zb1, zb2, zb3, zb4, zb5, zb6, zb7, zb8] at hg47
    refine wq_mvs (A := [_, _, _, _]) hF rfl ?_; clear hF a; intro a hF
    refine wq hF rfl rfl rfl (fun w_ hB_ => r_pick_t (hF.ev rfl) ec) ?_; clear hF a; intro a hF
    exact wpQuiet_nil ((Fr.pre (A := [_, _, _, _, _]) hF rfl).keep hF (t := 52) rfl)
  clear hF a; intro a hF
  refine wq_mvs (A := [_]) hF rfl ?_; clear hF a; intro a hF
  apply wq_or (A := [_, _, _, _, _, _, _, _]) (pk := 61) hF (tc := 53) rfl
  ·
    intro hg53 a hF; try simp only [zb1, zb2, zb3, zb4, zb5, zb6, zb7, zb8] at hg53
    refine wq_take hF rfl rfl rfl rfl ?_
    refine wq hF rfl rfl rfl (fun w_ hB_ => r_loadn ag38 (hF.ev rfl) ((hS.ext hB_).box_rd (i := 8) rfl) sz38) ?_; clear hF a; intro a hF
    refine wq_take hF rfl rfl rfl rfl ?_
    refine wq hF rfl rfl rfl (fun w_ hB_ => r_loadn ag35 (hF.ev rfl) ((hS.ext hB_).box_rd (i := 7) rfl) sz35) ?_; clear hF a; intro a hF
    refine wq_take hF rfl rfl rfl rfl ?_
    refine wq_call hF rfl rfl rfl (fun w_ hB_ => r_call2 en36 (hF.ev rfl) (hF.ev rfl)) (fun w_ hB_ => implIsModel_c ((hS.ext hB_).part_k (i := 9) rfl)) ?_; clear hF a; intro a hF
    refine wq_take hF rfl rfl rfl rfl ?_
    refine wq hF rfl rfl rfl (fun w_ hB_ => r_loadn ag38 (hF.ev rfl) ((hS.ext hB_).box_rd (i := 8) rfl) sz38) ?_; clear hF a; intro a hF
    refine wq_take hF rfl rfl rfl rfl ?_
    refine wq hF rfl rfl rfl (fun w_ hB_ => r_loadn ag35 (hF.ev rfl) ((hS.ext hB_).box_rd (i := 7) rfl) sz35) ?_; clear hF a; intro a hF
    refine wq_take hF rfl rfl rfl rfl ?_
    refine wq_call hF rfl rfl rfl (fun w_ hB_ => r_call2 en37 (hF.ev rfl) (hF.ev rfl)) (fun w_ hB_ => specIsModel_c ((hS.ext hB_).part_k (i := 9) rfl)) ?_; clear hF a; intro a hF
    refine wq_take hF rfl rfl rfl rfl ?_
    refine wq hF rfl rfl rfl (fun w_ hB_ => r_neqb bl4 (hF.ev rfl) (hF.ev rfl)) ?_; clear hF a; intro a hF
    refine wq hF rfl rfl rfl (fun w_ hB_ => r_pick_f (hF.ev rfl) (hF.ev rfl)) ?_; clear hF a; intro a hF
    exact wpQuiet_nil ((Fr.pre (A := [_, _, _, _, _, _, _, _]) hF rfl).keep hF (t := 61) rfl)
  ·
    intro hg53 a hF; try simp only [zb1, zb2, zb3, zb4, zb5, zb6, zb7, zb8] at hg53
    refine wq_mvs (A := [_, _, _, _, _, _, _]) hF rfl ?_; clear hF a; intro a hF
    refine wq hF rfl rfl rfl (fun w_ hB_ => r_pick_t (hF.ev rfl) ec) ?_; clear hF a; intro a hF
    exact wpQuiet_nil ((Fr.pre (A := [_, _, _, _, _, _, _, _]) hF rfl).keep hF (t := 61) rfl)
  clear hF a; intro a hF
  refine wpQuiet_nil ?_; intro w21 hB_; replace hS := hS.ext hB_; clear hB_
  refine hK9 _ _ ?_
  refine wc_fx (t := 61) hF rfl ?_ ?_ <;> clear hF <;> intro c61 hF <;> try simp only [zb1, zb2, zb3, zb4, zb5, zb6, zb7, zb8] at c61
  ·
    exfalso; simp at c61
  refine wp_skip ?_
  refine hK8 _ _ ?_
  refine ws fun K10 hK10 => ?_
  refine wl_mvs (A := [_]) hF rfl ?_; clear hF a; intro a hF
  refine wl_mk hF hS rfl rfl rfl (r_call1 en38 (hF.ev rfl)) (drawExplains_c (hS.rd hb) (by omega)) ?_; clear hF a; rintro ⟨⟨c64, m64, vs64, e64⟩, hz64⟩ w22 a hS_ hF; replace hS := hS_; clear hS_; dsimp only [List.cons_append, List.nil_append] at hS
  try dsimp only at hz64
  refine wl_mvs (A := [_]) hF rfl ?_; clear hF a; intro a hF
  refine wl hF rfl rfl rfl (r_extract (hF.ev rfl) rfl) ?_; clear hF a; intro a hF
  refine wl hF rfl rfl rfl (r_extract (hF.ev rfl) rfl) ?_; clear hF a; intro a hF
  refine wl hF rfl rfl rfl (r_extract (hF.ev rfl) rfl) ?_; clear hF a; intro a hF
  refine wl_alloc hF hS rfl zr38 ?_; clear hF a; intro g8 w23 a hS_ hB_ hF; replace hS := hS_; clear hS_ hB_
  refine wl_alloc hF hS rfl zr35 ?_; clear hF a; intro g9 w24 a hS_ hB_ hF; replace hS := hS_; clear hS_ hB_
  refine wl_alloc hF hS rfl zr44 ?_; clear hF a; intro g10 w25 a hS_ hB_ hF; replace hS := hS_; clear hS_ hB_
  refine wl_storen (cs' := [_, _, _, _, _, _]) hF hS (i := 2) rfl (hF.ev rfl) (hF.ev rfl) sz38 ⟨rfl, rfl⟩ rfl rfl ?_; intro w26 hS_; replace hS := hS_; clear hS_; dsimp only [List.set] at hS
  refine wl_storew hF hS (i := 1) rfl (hF.ev rfl) (hF.ev rfl) sz35 rfl rfl ?_; intro w27 hS_; replace hS := hS_; clear hS_; dsimp only [List.set, Nat.reduceAdd] at hS
  refine wl_storen (cs' := [_, _, _, _, _, _, _, _]) hF hS (i := 0) rfl (hF.ev rfl) (hF.ev rfl) sz44 ⟨rfl, rfl⟩ rfl rfl ?_; intro w28 hS_; replace hS := hS_; clear hS_; dsimp only [List.set] at hS
  refine wl_nil (hK10 _ _ ?_)
  refine ws fun K11 hK11 => ?_
  refine wl hF rfl rfl rfl (r_loadn ag38 (hF.ev rfl) (hS.box_rd (i := 2) rfl) sz38) ?_; clear hF a; intro a hF
  refine wl hF rfl rfl rfl (r_loadn ag35 (hF.ev rfl) (hS.box_rd (i := 1) rfl) sz35) ?_; clear hF a; intro a hF
  refine wl hF rfl rfl rfl (r_loadn ag44 (hF.ev rfl) (hS.box_rd (i := 0) rfl) sz44) ?_; clear hF a; intro a hF
  refine wl_mk hF hS rfl rfl rfl (r_call3 en13 (hF.ev rfl) (hF.ev rfl) (hF.ev rfl)) (implExplains_c (hS.part_k (i := 3) rfl) (by omega)) ?_; clear hF a; rintro vs72 w29 a hS_ hF; replace hS := hS_; clear hS_; dsimp only [List.cons_append, List.nil_append] at hS
  refine wl_mvs (A := [_]) hF rfl ?_; clear hF a; intro a hF
  refine wl hF rfl rfl rfl (r_extract (hF.ev rfl) rfl) ?_; clear hF a; intro a hF
  refine wl hF rfl rfl rfl (r_extract (hF.ev rfl) rfl) ?_; clear hF a; intro a hF
  refine wl_alloc hF hS rfl zr35 ?_; clear hF a; intro g11 w30 a hS_ hB_ hF; replace hS := hS_; clear hS_ hB_
  refine wl_storew hF hS (i := 0) rfl (hF.ev rfl) (hF.ev rfl) sz35 rfl rfl ?_; intro w31 hS_; replace hS := hS_; clear hS_; dsimp only [List.set, Nat.reduceAdd] at hS
  refine wl_mvs (A := [_]) hF rfl ?_; clear hF a; intro a hF
  refine wl_nil (hK11 _ _ ?_)
  refine ws fun K12 hK12 => ?_
  refine wl hF rfl rfl rfl (r_loadn ag38 (hF.ev rfl) (hS.box_rd (i := 4) rfl) sz38) ?_; clear hF a; intro a hF
  refine wl hF rfl rfl rfl (r_loadn ag35 (hF.ev rfl) (hS.box_rd (i := 3) rfl) sz35) ?_; clear hF a; intro a hF
  refine wl hF rfl rfl rfl (r_loadn ag44 (hF.ev rfl) (hS.box_rd (i := 2) rfl) sz44) ?_; clear hF a; intro a hF
  refine wl_mk hF hS rfl rfl rfl (r_call3 en9 (hF.ev rfl) (hF.ev rfl) (hF.ev rfl)) (specExplains_c (hS.part_k (i := 5) rfl) (by omega)) ?_; clear hF a; rintro vs79 w32 a hS_ hF; replace hS := hS_; clear hS_; dsimp only [List.cons_append, List.nil_append] at hS
  refine wl_mvs (A := [_]) hF rfl ?_; clear hF a; intro a hF
  refine wl hF rfl rfl rfl (r_extract (hF.ev rfl) rfl) ?_; clear hF a; intro a hF
  refine wl hF rfl rfl rfl (r_extract (hF.ev rfl) rfl) ?_; clear hF a; intro a hF
  refine wl_alloc hF hS rfl zr35 ?_; clear hF a; intro g12 w33 a hS_ hB_ hF; replace hS := hS_; clear hS_ hB_
  refine wl_storew hF hS (i := 0) rfl (hF.ev rfl) (hF.ev rfl) sz35 rfl rfl ?_; intro w34 hS_; replace hS := hS_; clear hS_; dsimp only [List.set, Nat.reduceAdd] at hS
  refine wl_mvs (A := [_]) hF rfl ?_; clear hF a; intro a hF
  refine wl_nil (hK12 _ _ ?_)
  refine wp_seq_k fun K13 hK13 => ?_
  refine ws fun K14 hK14 => ?_
  refine wl_mvs (A := [_, _]) hF rfl ?_; clear hF a; intro a hF
  refine wl hF rfl rfl rfl (r_neqb bl4 (hF.ev rfl) (hF.ev rfl)) ?_; clear hF a; intro a hF
  refine wl_mvs (A := [_]) hF rfl ?_; clear hF a; intro a hF
  apply wl_or (A := [_, _, _, _, _]) (pk := 90) hF hS (tc := 85) rfl
  ·
    intro hg85 a hF; try simp only [zb1, zb2, zb3, zb4, zb5, zb6, zb7, zb8] at hg85
    refine wl_take hF rfl rfl rfl rfl ?_
    refine wl hF rfl rfl rfl (r_loadn ag35 (hF.ev rfl) (hS.box_rd (i := 2) rfl) sz35) ?_; clear hF a; intro a hF
    refine wl_take hF rfl rfl rfl rfl ?_
    refine wl hF rfl rfl rfl (r_loadn ag35 (hF.ev rfl) (hS.box_rd (i := 0) rfl) sz35) ?_; clear hF a; intro a hF
    refine wl_take hF rfl rfl rfl rfl ?_
    refine wl_call hF rfl rfl rfl (r_call2 en35 (hF.ev rfl) (hF.ev rfl)) (implEqualModels_c (hS.part_k (i := 3) rfl) (hS.part_k (i := 1) rfl)) ?_; clear hF a; rintro v w35 a ⟨rfl, hB_⟩ hF; replace hS := hS.ext hB_; clear hB_
    refine wl_take hF rfl rfl rfl rfl ?_
    refine wl hF rfl rfl rfl (r_not (hF.ev rfl)) ?_; clear hF a; intro a hF
    refine wl hF rfl rfl rfl (r_pick_f (hF.ev rfl) (hF.ev rfl)) ?_; clear hF a; intro a hF
    exact wl_nil ⟨rfl, (Fr.pre (A := [_, _, _, _, _]) hF rfl).keep hF (t := 90) rfl, hS⟩
  ·
    intro hg85 a hF; try simp only [zb1, zb2, zb3, zb4, zb5, zb6, zb7, zb8] at hg85
    refine wl_mvs (A := [_, _, _, _]) hF rfl ?_; clear hF a; intro a hF
    refine wl hF rfl rfl rfl (r_pick_t (hF.ev rfl) ec) ?_; clear hF a; intro a hF
    exact wl_nil ⟨rfl, (Fr.pre (A := [_, _, _, _, _]) hF rfl).keep hF (t := 90) rfl, hS⟩
  clear hF a hS; intro a w36 hF hS
  refine wl_mvs (A := [_]) hF rfl ?_; clear hF a; intro a hF
  apply wl_or (A := [_, _, _, _, _, _, _, _, _]) (pk := 100) hF hS (tc := 91) rfl
  ·
    intro hg91 a hF; try simp only [zb1, zb2, zb3, zb4, zb5, zb6, zb7, zb8] at hg91
    refine wl_mvs (A := [_]) hF rfl ?_; clear hF a; intro a hF
    refine wl_take hF rfl rfl rfl rfl ?_
    refine wl hF rfl rfl rfl (r_not (hF.ev rfl)) ?_; clear hF a; intro a hF
    refine wl_mvs (A := [_]) hF rfl ?_; clear hF a; intro a hF
    apply wl_and (A := [_, _, _, _, _]) (pk := 99) hF hS (tc := 94) rfl
    ·
      intro hg94 a hF; try simp only [zb1, zb2, zb3, zb4, zb5, zb6, zb7, zb8] at hg94
      refine wl_take hF rfl rfl rfl rfl ?_
      refine wl hF rfl rfl rfl (r_loadn ag35 (hF.ev rfl) (hS.box_rd (i := 2) rfl) sz35) ?_; clear hF a; intro a hF
      refine wl_take hF rfl rfl rfl rfl ?_
      refine wl hF rfl rfl rfl (r_loadn ag35 (hF.ev rfl) (hS.box_rd (i := 5) rfl) sz35) ?_; clear hF a; intro a hF
      refine wl_take hF rfl rfl rfl rfl ?_
      refine wl_call hF rfl rfl rfl (r_call2 en35 (hF.ev rfl) (hF.ev rfl)) (implEqualModels_c (hS.part_k (i := 3) rfl) (hS.part_k (i := 7) rfl)) ?_; clear hF a; rintro v w37 a ⟨rfl, hB_⟩ hF; replace hS := hS.ext hB_; clear hB_
      refine wl_take hF rfl rfl rfl rfl ?_
      refine wl hF rfl rfl rfl (r_not (hF.ev rfl)) ?_; clear hF a; intro a hF
      refine wl_take hF rfl rfl rfl rfl ?_
      refine wl hF rfl rfl rfl (r_pick_t (hF.ev rfl) (hF.ev rfl)) ?_; clear hF a; intro a hF
      exact wl_nil ⟨rfl, (Fr.pre (A := [_, _, _, _, _]) hF rfl).keep hF (t := 99) rfl, hS⟩
    ·
      intro hg94 a hF; try simp only [zb1, zb2, zb3, zb4, zb5, zb6, zb7, zb8] at hg94
      refine wl_mvs (A := [_, _, _, _]) hF rfl ?_; clear hF a; intro a hF
      refine wl_take hF rfl rfl rfl rfl ?_
      refine wl hF rfl rfl rfl (r_pick_f (hF.ev rfl) ec) ?_; clear hF a; intro a hF
      exact wl_nil ⟨rfl, (Fr.pre (A := [_, _, _, _, _]) hF rfl).keep hF (t := 99) rfl, hS⟩
    intro a w38 hF hS
    refine wl hF rfl rfl rfl (r_pick_f (hF.ev rfl) (hF.ev rfl)) ?_; clear hF a; intro a hF
    exact wl_nil ⟨rfl, (Fr.pre (A := [_, _, _, _, _]) hF rfl).keep hF (t := 100) rfl, hS⟩
  ·
    intro hg91 a hF; try simp only [zb1, zb2, zb3, zb4, zb5, zb6, zb7, zb8] at hg91
    refine wl_mvs (A := [_, _, _, _, _, _, _, _]) hF rfl ?_; clear hF a; intro a hF
    refine wl hF rfl rfl rfl (r_pick_t (hF.ev rfl) ec) ?_; clear hF a; intro a hF
    exact wl_nil ⟨rfl, (Fr.pre (A := [_, _, _, _, _, _, _, _, _]) hF rfl).keep hF (t := 100) rfl, hS⟩
  clear hF a hS; intro a w39 hF hS
  refine wl_nil (hK14 _ _ ?_)
  refine wc_fx (t := 100) hF rfl ?_ ?_ <;> clear hF <;> intro c100 hF <;> try simp only [zb1, zb2, zb3, zb4, zb5, zb6, zb7, zb8] at c100
  ·
    exfalso; rcases c100 with h | ⟨h1, h2⟩
    · simp at h
    · exact h2 (explains_kept h1)
  refine wp_skip ?_
  refine hK13 _ _ ?_
  refine wp_seq_k fun K15 hK15 => ?_
  refine ws fun K16 hK16 => ?_
  refine wl hF rfl rfl rfl (r_loadn ag38 (hF.ev rfl) (hS.box_rd (i := 16) rfl) sz38) ?_; clear hF a; intro a hF
  refine wl hF rfl rfl rfl (r_loadn ag35 (hF.ev rfl) (hS.box_rd (i := 15) rfl) sz35) ?_; clear hF a; intro a hF
  refine wl_call hF rfl rfl rfl (r_call2 en37 (hF.ev rfl) (hF.ev rfl)) (specIsModel_c (hS.part_k (i := 17) rfl)) ?_; clear hF a; rintro v w40 a ⟨rfl, hB_⟩ hF; replace hS := hS.ext hB_; clear hB_
  refine wl hF rfl rfl rfl (r_not (hF.ev rfl)) ?_; clear hF a; intro a hF
  refine wl_mvs (A := [_]) hF rfl ?_; clear hF a; intro a hF
  apply wl_or (A := [_, _, _]) (pk := 108) hF hS (tc := 105) rfl
  ·
    intro hg105 a hF; try simp only [zb1, zb2, zb3, zb4, zb5, zb6, zb7, zb8] at hg105
    refine wl_mvs (A := [_]) hF rfl ?_; clear hF a; intro a hF
    refine wl_take hF rfl rfl rfl rfl ?_
    refine wl hF rfl rfl rfl (r_lss (hF.ev rfl) ec) ?_; clear hF a; intro a hF
    refine wl hF rfl rfl rfl (r_pick_f (hF.ev rfl) (hF.ev rfl)) ?_; clear hF a; intro a hF
    exact wl_nil ⟨rfl, (Fr.pre (A := [_, _, _]) hF rfl).keep hF (t := 108) rfl, hS⟩
  ·
    intro hg105 a hF; try simp only [zb1, zb2, zb3, zb4, zb5, zb6, zb7, zb8] at hg105
    refine wl_mvs (A := [_, _]) hF rfl ?_; clear hF a; intro a hF
    refine wl hF rfl rfl rfl (r_pick_t (hF.ev rfl) ec) ?_; clear hF a; intro a hF
    exact wl_nil ⟨rfl, (Fr.pre (A := [_, _, _]) hF rfl).keep hF (t := 108) rfl, hS⟩
  clear hF a hS; intro a w41 hF hS
  refine wl_mvs (A := [_]) hF rfl ?_; clear hF a; intro a hF
  apply wl_or (A := [_, _, _, _, _]) (pk := 114) hF hS (tc := 109) rfl
  ·
    intro hg109 a hF; try simp only [zb1, zb2, zb3, zb4, zb5, zb6, zb7, zb8] at hg109
    refine wl_mvs (A := [_]) hF rfl ?_; clear hF a; intro a hF
    refine wl_take hF rfl rfl rfl rfl ?_
    refine wl hF rfl rfl rfl (r_field fo38_0 (hF.ev rfl)) ?_; clear hF a; intro a hF
    refine wl_take hF rfl rfl rfl rfl ?_
    refine wl hF rfl rfl rfl (r_load1 sc3 (hF.ev rfl) (hS.box (i := 16) rfl rfl)) ?_; clear hF a; intro a hF
    refine wl_take hF rfl rfl rfl rfl ?_
    refine wl hF rfl rfl rfl (r_geq (hF.ev rfl) (hF.ev rfl)) ?_; clear hF a; intro a hF
    refine wl hF rfl rfl rfl (r_pick_f (hF.ev rfl) (hF.ev rfl)) ?_; clear hF a; intro a hF
    exact wl_nil ⟨rfl, (Fr.pre (A := [_, _, _, _, _]) hF rfl).keep hF (t := 114) rfl, hS⟩
  ·
    intro hg109 a hF; try simp only [zb1, zb2, zb3, zb4, zb5, zb6, zb7, zb8] at hg109
    refine wl_mvs (A := [_, _, _, _]) hF rfl ?_; clear hF a; intro a hF
    refine wl hF rfl rfl rfl (r_pick_t (hF.ev rfl) ec) ?_; clear hF a; intro a hF
    exact wl_nil ⟨rfl, (Fr.pre (A := [_, _, _, _, _]) hF rfl).keep hF (t := 114) rfl, hS⟩
  clear hF a hS; intro a w42 hF hS
  refine wl_mvs (A := [_]) hF rfl ?_; clear hF a; intro a hF
  apply wl_or (A := [_, _, _, _]) (pk := 119) hF hS (tc := 115) rfl
  ·
    intro hg115 a hF; try simp only [zb1, zb2, zb3, zb4, zb5, zb6, zb7, zb8] at hg115
    refine wl_take hF rfl rfl rfl rfl ?_
    refine wl hF rfl rfl rfl (r_loadn ag41 (hF.ev rfl) (hS.box_rd (i := 14) rfl) sz41) ?_; clear hF a; intro a hF
    refine wl_take hF rfl rfl rfl rfl ?_
    refine wl_call hF rfl rfl rfl (r_call1 en39 (hF.ev rfl)) (specIsOp_c _) ?_; clear hF a; rintro v w43 a ⟨rfl, hB_⟩ hF; replace hS := hS.ext hB_; clear hB_
    refine wl_take hF rfl rfl rfl rfl ?_
    refine wl hF rfl rfl rfl (r_not (hF.ev rfl)) ?_; clear hF a; intro a hF
    refine wl hF rfl rfl rfl (r_pick_f (hF.ev rfl) (hF.ev rfl)) ?_; clear hF a; intro a hF
    exact wl_nil ⟨rfl, (Fr.pre (A := [_, _, _, _]) hF rfl).keep hF (t := 119) rfl, hS⟩
  ·
    intro hg115 a hF; try simp only [zb1, zb2, zb3, zb4, zb5, zb6, zb7, zb8] at hg115
    refine wl_mvs (A := [_, _, _]) hF rfl ?_; clear hF a; intro a hF
    refine wl hF rfl rfl rfl (r_pick_t (hF.ev rfl) ec) ?_; clear hF a; intro a hF
    exact wl_nil ⟨rfl, (Fr.pre (A := [_, _, _, _]) hF rfl).keep hF (t := 119) rfl, hS⟩
  clear hF a hS; intro a w44 hF hS
  refine wl_nil (hK16 _ _ ?_)
  refine wc_fx (t := 119) hF rfl ?_ ?_ <;> clear hF <;> intro c119 hF <;> try simp only [zb1, zb2, zb3, zb4, zb5, zb6, zb7, zb8] at c119
  ·
    have hno := apply_no4 c119
    refine ws fun K17 hK17 => ?_
    refine wl hF rfl rfl rfl (r_loadn ag35 (hF.ev rfl) (hS.box_rd (i := 12) rfl) sz35) ?_; clear hF a; intro a hF
    refine wl hF rfl rfl rfl (r_loadn ag35 (hF.ev rfl) (hS.box_rd (i := 15) rfl) sz35) ?_; clear hF a; intro a hF
    refine wl_call hF rfl rfl rfl (r_call2 en35 (hF.ev rfl) (hF.ev rfl)) (implEqualModels_c (hS.part_k (i := 13) rfl) (hS.part_k (i := 17) rfl)) ?_; clear hF a; rintro v w45 a ⟨rfl, hB_⟩ hF; replace hS := hS.ext hB_; clear hB_
    refine wl_mvs (A := [_]) hF rfl ?_; clear hF a; intro a hF
    apply wl_and (A := [_, _, _, _]) (pk := 127) hF hS (tc := 123) rfl
    ·
      intro hg123 a hF; try simp only [zb1, zb2, zb3, zb4, zb5, zb6, zb7, zb8] at hg123
      refine wl_take hF rfl rfl rfl rfl ?_
      refine wl hF rfl rfl rfl (r_loadn ag42 (hF.ev rfl) (hS.box_rd (i := 11) rfl) sz42) ?_; clear hF a; intro a hF
      refine wl_take hF rfl rfl rfl rfl ?_
      refine wl hF rfl rfl rfl (r_build (bd42) trivial) ?_; clear hF a; intro a hF
      refine wl_take hF rfl rfl rfl rfl ?_
      refine wl hF rfl rfl rfl (r_eqlF [_, _] [_, _] fl42 ag42 eg42 rfl rfl ((hF.ev rfl).trans rfl) ((hF.ev rfl).trans rfl)) ?_; clear hF a; intro a hF
      refine wl hF rfl rfl rfl (r_pick_t (hF.ev rfl) (hF.ev rfl)) ?_; clear hF a; intro a hF
      exact wl_nil ⟨rfl, (Fr.pre (A := [_, _, _, _]) hF rfl).keep hF (t := 127) rfl, hS⟩
    ·
      intro hg123 a hF; try simp only [zb1, zb2, zb3, zb4, zb5, zb6, zb7, zb8] at hg123
      refine wl_mvs (A := [_, _, _]) hF rfl ?_; clear hF a; intro a hF
      refine wl hF rfl rfl rfl (r_pick_f (hF.ev rfl) ec) ?_; clear hF a; intro a hF
      exact wl_nil ⟨rfl, (Fr.pre (A := [_, _, _, _]) hF rfl).keep hF (t := 127) rfl, hS⟩
    clear hF a hS; intro a w46 hF hS
    refine wl_mvs (A := [_]) hF rfl ?_; clear hF a; intro a hF
    refine wl_nil (hK17 _ _ ?_)
    refine wp_ret ?_
    try simp only [Exit.then, Exit.inBlock, ↓reduceIte]
    first
      | exact ret1 rfl hF rfl ⟨rfl, hS.old⟩
      | (refine ret1 rfl hF rfl ⟨congrArg Value.bool ?_, hS.old⟩; rw [hno]; simp; done)
      | (refine ret1 rfl hF rfl ⟨congrArg Value.bool ?_, hS.old⟩
         rw [hmx, Bool.true_and]
         by_cases hk3 : o23.kind = 3
         · simp [hk3]
         · rw [apply_vals hk3]; simp)
  have hguard : isModel c23 m23 = true ∧ o23.ok ∧ (0 ≤ p23 ∧ p23 ≤ c23.threads - 1) := ⟨c119.1.1.1, c119.2, by omega, by omega⟩
  have hth := (isModel_thr hguard.1).2
  have hbk := (isModel_thr hguard.1).1; unfold Config.ok at hbk
  have hmx : isModel c23 (applyModel c23 m23 p23 o23).1 = true := isModel_apply hguard.1
  have hthx := (isModel_thr hmx).2
  refine wp_skip ?_
  refine hK15 _ _ ?_
  refine wp_seq_k fun K18 hK18 => ?_
  refine ws fun K19 hK19 => ?_
  refine wl hF rfl rfl rfl (r_field fo42_0 (hF.ev rfl)) ?_; clear hF a; intro a hF
  refine wl hF rfl rfl rfl (r_load1 sc3 (hF.ev rfl) (hS.box (i := 11) rfl rfl)) ?_; clear hF a; intro a hF
  refine wl hF rfl rfl rfl (r_neq (hF.ev rfl) ec) ?_; clear hF a; intro a hF
  refine wl_mvs (A := [_]) hF rfl ?_; clear hF a; intro a hF
  apply wl_and (A := [_, _, _, _, _]) (pk := 136) hF hS (tc := 131) rfl
  ·
    intro hg131 a hF; try simp only [zb1, zb2, zb3, zb4, zb5, zb6, zb7, zb8] at hg131
    refine wl_take hF rfl rfl rfl rfl ?_
    refine wl hF rfl rfl rfl (r_loadn ag35 (hF.ev rfl) (hS.box_rd (i := 12) rfl) sz35) ?_; clear hF a; intro a hF
    refine wl_take hF rfl rfl rfl rfl ?_
    refine wl hF rfl rfl rfl (r_loadn ag35 (hF.ev rfl) (hS.box_rd (i := 15) rfl) sz35) ?_; clear hF a; intro a hF
    refine wl_take hF rfl rfl rfl rfl ?_
    refine wl_call hF rfl rfl rfl (r_call2 en35 (hF.ev rfl) (hF.ev rfl)) (implEqualModels_c (hS.part_k (i := 13) rfl) (hS.part_k (i := 17) rfl)) ?_; clear hF a; rintro v w47 a ⟨rfl, hB_⟩ hF; replace hS := hS.ext hB_; clear hB_
    refine wl_take hF rfl rfl rfl rfl ?_
    refine wl hF rfl rfl rfl (r_not (hF.ev rfl)) ?_; clear hF a; intro a hF
    refine wl hF rfl rfl rfl (r_pick_t (hF.ev rfl) (hF.ev rfl)) ?_; clear hF a; intro a hF
    exact wl_nil ⟨rfl, (Fr.pre (A := [_, _, _, _, _]) hF rfl).keep hF (t := 136) rfl, hS⟩
  ·
    intro hg131 a hF; try simp only [zb1, zb2, zb3, zb4, zb5, zb6, zb7, zb8] at hg131
    refine wl_mvs (A := [_, _, _, _]) hF rfl ?_; clear hF a; intro a hF
    refine wl hF rfl rfl rfl (r_pick_f (hF.ev rfl) ec) ?_; clear hF a; intro a hF
    exact wl_nil ⟨rfl, (Fr.pre (A := [_, _, _, _, _]) hF rfl).keep hF (t := 136) rfl, hS⟩
  clear hF a hS; intro a w48 hF hS
  refine wl_nil (hK19 _ _ ?_)
  refine wc_fx (t := 136) hF rfl ?_ ?_ <;> clear hF <;> intro c136 hF <;> try simp only [zb1, zb2, zb3, zb4, zb5, zb6, zb7, zb8] at c136
  ·
    exfalso; exact c136.2 (apply_kept c136.1)
  replace hS := hS.pull (p := 17) rfl; dsimp only [List.eraseIdx] at hS
  replace hS : Sep W (Own intEK (sv (vs23.getD 0 (none, 0, 0))) m23.values :: Own (sliceEK intEK) (sv (vs23.getD 1 (none, 0, 0))) m23.snapshots :: _) _ := hS.part_open
  replace hS := hS.pull (p := 15) rfl; dsimp only [List.eraseIdx] at hS
  replace hS : Sep W (Own intEK (sv (vs33.getD 0 (none, 0, 0))) (applyModel c23 m23 p23 o23).1.values :: Own (sliceEK intEK) (sv (vs33.getD 1 (none, 0, 0))) (applyModel c23 m23 p23 o23).1.snapshots :: _) _ := hS.part_open
  refine wp_skip ?_
  refine hK18 _ _ ?_
  refine wp_seq_k fun K20 hK20 => ?_
  refine ws fun K21 hK21 => ?_
  refine wl_mvs (A := [_]) hF rfl ?_; clear hF a; intro a hF
  refine wl_nil (hK21 _ _ ?_)
  refine wp_block ?_
  have hL_ := ((((((hF.nil.keep hF (t := 7) rfl).keep hF (t := 6) rfl).keep hF (t := 5) rfl).keep hF (t := 4) rfl).keep hF (t := 3) rfl).keep hF (t := 2) rfl)
  refine wp_loop_r (σ := Nat) (fun k L_ => (18, vi k) :: L_) (fun k => ((k : Int) ≤ c23.threads)) (fun k => (c23.threads - k).toNat) 0 hS (hL_.keepE hF (t := 18) rfl rfl) ?_ ?_
  · exact by omega
  clear hF hS hL_ a
  rintro k a w49 hk hS hF; try dsimp only at hF; try dsimp only at hS
  refine wp_seq_k fun K22 hK22 => ?_
  refine ws fun K23 hK23 => ?_
  refine wl_mvs (A := [_]) hF rfl ?_; clear hF a; intro a hF
  refine wl hF rfl rfl rfl (r_field fo38_0 (hF.ev rfl)) ?_; clear hF a; intro a hF
  refine wl hF rfl rfl rfl (r_load1 sc3 (hF.ev rfl) (hS.box (i := 19) rfl rfl)) ?_; clear hF a; intro a hF
  refine wl hF rfl rfl rfl (r_lss (hF.ev rfl) (hF.ev rfl)) ?_; clear hF a; intro a hF
  refine wl_nil (hK23 _ _ ?_)
  refine wc_fx (t := 140) hF rfl ?_ ?_ <;> clear hF <;> intro c140 hF <;> try simp only [zb1, zb2, zb3, zb4, zb5, zb6, zb7, zb8] at c140
  ·
    refine wp_skip ?_
    refine hK22 _ _ ?_
    refine wp_seq_k fun K24 hK24 => ?_
    refine wp_block ?_
    refine wp_seq_k fun K25 hK25 => ?_
    refine wp_region_calm (by kernel_rfl) (by kernel_rfl) ?_
    refine wq_mvs (A := [_, _]) hF rfl ?_; clear hF a; intro a hF
    refine wq hF rfl rfl rfl (fun w_ hB_ => r_neq (hF.ev rfl) (hF.ev rfl)) ?_; clear hF a; intro a hF
    refine wq_mvs (A := [_]) hF rfl ?_; clear hF a; intro a hF
    apply wq_and (A := [_, _, _, _, _, _, _, _, _, _, _, _, _]) (pk := 159) hF (tc := 146) rfl
    ·
      intro hg146 a hF; try simp only [zb1, zb2, zb3, zb4, zb5, zb6, zb7, zb8] at hg146
      refine wq_take hF rfl rfl rfl rfl ?_
      refine wq hF rfl rfl rfl (fun w_ hB_ => r_field fo35_1 (hF.ev rfl)) ?_; clear hF a; intro a hF
      refine wq_take hF rfl rfl rfl rfl ?_
      refine wq hF rfl rfl rfl (fun w_ hB_ => r_load1 sc25 (hF.ev rfl) ((hS.ext hB_).box (i := 16) rfl rfl)) ?_; clear hF a; intro a hF
      refine wq_mvs (A := [_]) hF rfl ?_; clear hF a; intro a hF
      refine wq_take hF rfl rfl rfl rfl ?_
      obtain ⟨g150, o150, m150, q150, cs150, hv150, hm150, hl150, hk150, hz150, hc150⟩ := Rd.at ((hS.own_rd (i := 1) rfl)) (a := a) (X := .tmp 149) (hF.ev rfl) (by omega) (by omega)
      obtain ⟨v150, rfl, hr150⟩ := hk150; obtain ⟨Ae150, qe150, rfl, _, hme150⟩ := hr150.sl; unfold maxLen at hme150
      refine wq hF rfl rfl rfl (fun w_ hB_ => r_index sl25 ((hF.ev rfl).trans hv150) (hF.ev rfl) (by omega) (by first | omega | (simp at hm150; omega))) ?_; clear hF a; intro a hF
      refine wq_take hF rfl rfl rfl rfl ?_
      refine wq hF rfl rfl rfl (fun w_ hB_ => r_load1 sc24 (hF.ev rfl) (cellB hB_ (hc150 0 _ rfl))) ?_; clear hF a; intro a hF
      refine wq_take hF rfl rfl rfl rfl ?_
      refine wq hF rfl rfl rfl (fun w_ hB_ => r_field fo35_1 (hF.ev rfl)) ?_; clear hF a; intro a hF
      refine wq_take hF rfl rfl rfl rfl ?_
      refine wq hF rfl rfl rfl (fun w_ hB_ => r_load1 sc25 (hF.ev rfl) ((hS.ext hB_).box (i := 18) rfl rfl)) ?_; clear hF a; intro a hF
      refine wq_mvs (A := [_]) hF rfl ?_; clear hF a; intro a hF
      refine wq_take hF rfl rfl rfl rfl ?_
      obtain ⟨g155, o155, m155, q155, cs155, hv155, hm155, hl155, hk155, hz155, hc155⟩ := Rd.at ((hS.own_rd (i := 3) rfl)) (a := a) (X := .tmp 154) (hF.ev rfl) (by omega) (by omega)
      obtain ⟨v155, rfl, hr155⟩ := hk155; obtain ⟨Ae155, qe155, rfl, _, hme155⟩ := hr155.sl; unfold maxLen at hme155
      refine wq hF rfl rfl rfl (fun w_ hB_ => r_index sl25 ((hF.ev rfl).trans hv155) (hF.ev rfl) (by omega) (by first | omega | (simp at hm155; omega))) ?_; clear hF a; intro a hF
      refine wq_take hF rfl rfl rfl rfl ?_
      refine wq hF rfl rfl rfl (fun w_ hB_ => r_load1 sc24 (hF.ev rfl) (cellB hB_ (hc155 0 _ rfl))) ?_; clear hF a; intro a hF
      refine wq_take hF rfl rfl rfl rfl ?_
      refine wq_call hF rfl rfl rfl (fun w_ hB_ => r_call2 en40 (hF.ev rfl) (hF.ev rfl)) (fun w_ hB_ => sameInts_c (hr150.mov hB_) (hr155.mov hB_)) ?_; clear hF a; intro a hF
      refine wq_take hF rfl rfl rfl rfl ?_
      refine wq hF rfl rfl rfl (fun w_ hB_ => r_not (hF.ev rfl)) ?_; clear hF a; intro a hF
      refine wq hF rfl rfl rfl (fun w_ hB_ => r_pick_t (hF.ev rfl) (hF.ev rfl)) ?_; clear hF a; intro a hF
      exact wpQuiet_nil ((Fr.pre (A := [_, _, _, _, _, _, _, _, _, _, _, _, _]) hF rfl).keep hF (t := 159) rfl)
    ·
      intro hg146 a hF; try simp only [zb1, zb2, zb3, zb4, zb5, zb6, zb7, zb8] at hg146
      refine wq_mvs (A := [_, _, _, _, _, _, _, _, _, _, _, _]) hF rfl ?_; clear hF a; intro a hF
      refine wq hF rfl rfl rfl (fun w_ hB_ => r_pick_f (hF.ev rfl) ec) ?_; clear hF a; intro a hF
      exact wpQuiet_nil ((Fr.pre (A := [_, _, _, _, _, _, _, _, _, _, _, _, _]) hF rfl).keep hF (t := 159) rfl)
    clear hF a; intro a hF
    refine wq_mvs (A := [_]) hF rfl ?_; clear hF a; intro a hF
    apply wq_or (A := [_, _, _, _, _, _, _, _, _, _, _, _, _, _, _, _, _, _, _, _, _, _, _, _, _, _, _, _, _, _, _]) (pk := 191) hF (tc := 160) rfl
    ·
      intro hg160 a hF; try simp only [zb1, zb2, zb3, zb4, zb5, zb6, zb7, zb8] at hg160
      refine wq_take hF rfl rfl rfl rfl ?_
      refine wq hF rfl rfl rfl (fun w_ hB_ => r_field fo35_1 (hF.ev rfl)) ?_; clear hF a; intro a hF
      refine wq_take hF rfl rfl rfl rfl ?_
      refine wq hF rfl rfl rfl (fun w_ hB_ => r_load1 sc25 (hF.ev rfl) ((hS.ext hB_).box (i := 18) rfl rfl)) ?_; clear hF a; intro a hF
      refine wq_mvs (A := [_]) hF rfl ?_; clear hF a; intro a hF
      refine wq_take hF rfl rfl rfl rfl ?_
      obtain ⟨g164, o164, m164, q164, cs164, hv164, hm164, hl164, hk164, hz164, hc164⟩ := Rd.at ((hS.own_rd (i := 3) rfl)) (a := a) (X := .tmp 163) (hF.ev rfl) (by omega) (by omega)
      obtain ⟨v164, rfl, hr164⟩ := hk164; obtain ⟨Ae164, qe164, rfl, _, hme164⟩ := hr164.sl; unfold maxLen at hme164
      refine wq hF rfl rfl rfl (fun w_ hB_ => r_index sl25 ((hF.ev rfl).trans hv164) (hF.ev rfl) (by omega) (by first | omega | (simp at hm164; omega))) ?_; clear hF a; intro a hF
      refine wq_take hF rfl rfl rfl rfl ?_
      refine wq hF rfl rfl rfl (fun w_ hB_ => r_load1 sc24 (hF.ev rfl) (cellB hB_ (hc164 0 _ rfl))) ?_; clear hF a; intro a hF
      refine wq_take hF rfl rfl rfl rfl ?_
      refine wq hF rfl rfl rfl (fun w_ hB_ => r_len ul24 (hF.ev rfl)) ?_; clear hF a; intro a hF
      refine wq_take hF rfl rfl rfl rfl ?_
      refine wq hF rfl rfl rfl (fun w_ hB_ => r_gtr (hF.ev rfl) ec) ?_; clear hF a; intro a hF
      refine wq_mvs (A := [_]) hF rfl ?_; clear hF a; intro a hF
      apply wq_and (A := [_, _, _, _, _, _, _, _]) (pk := 176) hF (tc := 168) rfl
      ·
        intro hg168 a hF; try simp only [zb1, zb2, zb3, zb4, zb5, zb6, zb7, zb8] at hg168
        refine wq_take hF rfl rfl rfl rfl ?_
        refine wq hF rfl rfl rfl (fun w_ hB_ => r_field fo35_1 (hF.ev rfl)) ?_; clear hF a; intro a hF
        refine wq_take hF rfl rfl rfl rfl ?_
        refine wq hF rfl rfl rfl (fun w_ hB_ => r_load1 sc25 (hF.ev rfl) ((hS.ext hB_).box (i := 16) rfl rfl)) ?_; clear hF a; intro a hF
        refine wq_mvs (A := [_]) hF rfl ?_; clear hF a; intro a hF
        refine wq_take hF rfl rfl rfl rfl ?_
        obtain ⟨g172, o172, m172, q172, cs172, hv172, hm172, hl172, hk172, hz172, hc172⟩ := Rd.at ((hS.own_rd (i := 1) rfl)) (a := a) (X := .tmp 171) (hF.ev rfl) (by omega) (by omega)
        obtain ⟨v172, rfl, hr172⟩ := hk172; obtain ⟨Ae172, qe172, rfl, _, hme172⟩ := hr172.sl; unfold maxLen at hme172
        refine wq hF rfl rfl rfl (fun w_ hB_ => r_index sl25 ((hF.ev rfl).trans hv172) (hF.ev rfl) (by omega) (by first | omega | (simp at hm172; omega))) ?_; clear hF a; intro a hF
        refine wq_take hF rfl rfl rfl rfl ?_
        refine wq hF rfl rfl rfl (fun w_ hB_ => r_load1 sc24 (hF.ev rfl) (cellB hB_ (hc172 0 _ rfl))) ?_; clear hF a; intro a hF
        refine wq_take hF rfl rfl rfl rfl ?_
        refine wq hF rfl rfl rfl (fun w_ hB_ => r_len ul24 (hF.ev rfl)) ?_; clear hF a; intro a hF
        refine wq_take hF rfl rfl rfl rfl ?_
        refine wq hF rfl rfl rfl (fun w_ hB_ => r_gtr (hF.ev rfl) ec) ?_; clear hF a; intro a hF
        refine wq_take hF rfl rfl rfl rfl ?_
        refine wq hF rfl rfl rfl (fun w_ hB_ => r_pick_t (hF.ev rfl) (hF.ev rfl)) ?_; clear hF a; intro a hF
        exact wpQuiet_nil ((Fr.pre (A := [_, _, _, _, _, _, _, _]) hF rfl).keep hF (t := 176) rfl)
      ·
        intro hg168 a hF; try simp only [zb1, zb2, zb3, zb4, zb5, zb6, zb7, zb8] at hg168
        refine wq_mvs (A := [_, _, _, _, _, _, _]) hF rfl ?_; clear hF a; intro a hF
        refine wq_take hF rfl rfl rfl rfl ?_
        refine wq hF rfl rfl rfl (fun w_ hB_ => r_pick_f (hF.ev rfl) ec) ?_; clear hF a; intro a hF
        exact wpQuiet_nil ((Fr.pre (A := [_, _, _, _, _, _, _, _]) hF rfl).keep hF (t := 176) rfl)
      intro a hF
      refine wq_mvs (A := [_]) hF rfl ?_; clear hF a; intro a hF
      apply wq_and (A := [_, _, _, _, _, _, _, _, _, _, _, _, _]) (pk := 190) hF (tc := 177) rfl
      ·
        intro hg177 a hF; try simp only [zb1, zb2, zb3, zb4, zb5, zb6, zb7, zb8] at hg177
        refine wq_take hF rfl rfl rfl rfl ?_
        refine wq hF rfl rfl rfl (fun w_ hB_ => r_field fo35_1 (hF.ev rfl)) ?_; clear hF a; intro a hF
        refine wq_take hF rfl rfl rfl rfl ?_
        refine wq hF rfl rfl rfl (fun w_ hB_ => r_load1 sc25 (hF.ev rfl) ((hS.ext hB_).box (i := 16) rfl rfl)) ?_; clear hF a; intro a hF
        refine wq_mvs (A := [_]) hF rfl ?_; clear hF a; intro a hF
        refine wq_take hF rfl rfl rfl rfl ?_
        obtain ⟨g181, o181, m181, q181, cs181, hv181, hm181, hl181, hk181, hz181, hc181⟩ := Rd.at ((hS.own_rd (i := 1) rfl)) (a := a) (X := .tmp 180) (hF.ev rfl) (by omega) (by omega)
        obtain ⟨v181, rfl, hr181⟩ := hk181; obtain ⟨Ae181, qe181, rfl, _, hme181⟩ := hr181.sl; unfold maxLen at hme181
        refine wq hF rfl rfl rfl (fun w_ hB_ => r_index sl25 ((hF.ev rfl).trans hv181) (hF.ev rfl) (by omega) (by first | omega | (simp at hm181; omega))) ?_; clear hF a; intro a hF
        refine wq_take hF rfl rfl rfl rfl ?_
        refine wq hF rfl rfl rfl (fun w_ hB_ => r_load1 sc24 (hF.ev rfl) (cellB hB_ (hc181 0 _ rfl))) ?_; clear hF a; intro a hF
        refine wq_take hF rfl rfl rfl rfl ?_
        refine wq hF rfl rfl rfl (fun w_ hB_ => r_field fo35_1 (hF.ev rfl)) ?_; clear hF a; intro a hF
        refine wq_take hF rfl rfl rfl rfl ?_
        refine wq hF rfl rfl rfl (fun w_ hB_ => r_load1 sc25 (hF.ev rfl) ((hS.ext hB_).box (i := 18) rfl rfl)) ?_; clear hF a; intro a hF
        refine wq_mvs (A := [_]) hF rfl ?_; clear hF a; intro a hF
        refine wq_take hF rfl rfl rfl rfl ?_
        obtain ⟨g186, o186, m186, q186, cs186, hv186, hm186, hl186, hk186, hz186, hc186⟩ := Rd.at ((hS.own_rd (i := 3) rfl)) (a := a) (X := .tmp 185) (hF.ev rfl) (by omega) (by omega)
        obtain ⟨v186, rfl, hr186⟩ := hk186; obtain ⟨Ae186, qe186, rfl, _, hme186⟩ := hr186.sl; unfold maxLen at hme186
        refine wq hF rfl rfl rfl (fun w_ hB_ => r_index sl25 ((hF.ev rfl).trans hv186) (hF.ev rfl) (by omega) (by first | omega | (simp at hm186; omega))) ?_; clear hF a; intro a hF
        refine wq_take hF rfl rfl rfl rfl ?_
        refine wq hF rfl rfl rfl (fun w_ hB_ => r_load1 sc24 (hF.ev rfl) (cellB hB_ (hc186 0 _ rfl))) ?_; clear hF a; intro a hF
        refine wq_take hF rfl rfl rfl rfl ?_
        refine wq_call hF rfl rfl rfl (fun w_ hB_ => r_call2 en40 (hF.ev rfl) (hF.ev rfl)) (fun w_ hB_ => sameInts_c (hr181.mov hB_) (hr186.mov hB_)) ?_; clear hF a; intro a hF
        refine wq_take hF rfl rfl rfl rfl ?_
        refine wq hF rfl rfl rfl (fun w_ hB_ => r_not (hF.ev rfl)) ?_; clear hF a; intro a hF
        refine wq_take hF rfl rfl rfl rfl ?_
        refine wq hF rfl rfl rfl (fun w_ hB_ => r_pick_t (hF.ev rfl) (hF.ev rfl)) ?_; clear hF a; intro a hF
        exact wpQuiet_nil ((Fr.pre (A := [_, _, _, _, _, _, _, _, _, _, _, _, _]) hF rfl).keep hF (t := 190) rfl)
      ·
        intro hg177 a hF; try simp only [zb1, zb2, zb3, zb4, zb5, zb6, zb7, zb8] at hg177
        refine wq_mvs (A := [_, _, _, _, _, _, _, _, _, _, _, _]) hF rfl ?_; clear hF a; intro a hF
        refine wq_take hF rfl rfl rfl rfl ?_
        refine wq hF rfl rfl rfl (fun w_ hB_ => r_pick_f (hF.ev rfl) ec) ?_; clear hF a; intro a hF
        exact wpQuiet_nil ((Fr.pre (A := [_, _, _, _, _, _, _, _, _, _, _, _, _]) hF rfl).keep hF (t := 190) rfl)
      intro a hF
      refine wq hF rfl rfl rfl (fun w_ hB_ => r_pick_f (hF.ev rfl) (hF.ev rfl)) ?_; clear hF a; intro a hF
      exact wpQuiet_nil ((Fr.pre (A := [_, _, _, _, _, _, _, _, _, _, _, _]) hF rfl).keep hF (t := 191) rfl)
    ·
      intro hg160 a hF; try simp only [zb1, zb2, zb3, zb4, zb5, zb6, zb7, zb8] at hg160
      refine wq_mvs (A := [_, _, _, _, _, _, _, _, _, _, _, _, _, _, _, _, _, _, _, _, _, _, _, _, _, _, _, _, _, _]) hF rfl ?_; clear hF a; intro a hF
      refine wq hF rfl rfl rfl (fun w_ hB_ => r_pick_t (hF.ev rfl) ec) ?_; clear hF a; intro a hF
      exact wpQuiet_nil ((Fr.pre (A := [_, _, _, _, _, _, _, _, _, _, _, _, _, _, _, _, _, _, _, _, _, _, _, _, _, _, _, _, _, _, _]) hF rfl).keep hF (t := 191) rfl)
    clear hF a; intro a hF
    refine wpQuiet_nil ?_; intro w54 hB_; replace hS := hS.ext hB_; clear hB_
    refine hK25 _ _ ?_
    refine wc_fx (t := 191) hF rfl ?_ ?_ <;> clear hF <;> intro c191 hF <;> try simp only [zb1, zb2, zb3, zb4, zb5, zb6, zb7, zb8] at c191
    ·
      exfalso; exact apply_snaps hguard.1 (by omega) (by omega) (by omega) (q := (k : Int)) c191
    refine wp_skip ?_
    simp only [Exit.then, Exit.inBlock, ↓reduceIte]
    refine hK24 _ _ ?_
    refine wp_region_lit ?_
    refine wl_mvs (A := [_]) hF rfl ?_; clear hF a; intro a hF
    refine wl hF rfl rfl rfl (r_add (hF.ev rfl) ec) ?_; clear hF a; intro a hF
    refine wl_mvs (A := [_]) hF rfl ?_; clear hF a; intro a hF
    refine wl_nil ?_
    try simp only [Exit.then, Exit.inBlock, ↓reduceIte]
    refine ⟨k + 1, (by omega), hS, (((((((hF.nil.keep hF (t := 7) rfl).keep hF (t := 6) rfl).keep hF (t := 5) rfl).keep hF (t := 4) rfl).keep hF (t := 3) rfl).keep hF (t := 2) rfl).keepE hF (t := 18) rfl (wk (by omega))), by omega⟩
  refine wp_exit ?_
  simp only [Exit.then, Exit.inBlock, ↓reduceIte]
  refine hK20 _ _ ?_
  refine ws fun K26 hK26 => ?_
  refine wl hF rfl rfl rfl (r_loadn ag38 (hF.ev rfl) (hS.box_rd (i := 19) rfl) sz38) ?_; clear hF a; intro a hF
  refine wl hF rfl rfl rfl (r_loadn ag35 (hF.ev rfl) (hS.box_rd (i := 16) rfl) sz35) ?_; clear hF a; intro a hF
  refine wl_call hF rfl rfl rfl (r_call2 en36 (hF.ev rfl) (hF.ev rfl)) (implIsModel_c (show modelEK.K _ _ _ from ⟨_, _, rfl, hS.own_rd (i := 0) rfl, hS.own_rd (i := 1) rfl⟩)) ?_; clear hF a; rintro v w55 a ⟨rfl, hB_⟩ hF; replace hS := hS.ext hB_; clear hB_
  refine wl_mvs (A := [_]) hF rfl ?_; clear hF a; intro a hF
  apply wl_and (A := [_, _, _, _, _, _, _, _, _, _, _]) (pk := 206) hF hS (tc := 195) rfl
  ·
    intro hg195 a hF; try simp only [zb1, zb2, zb3, zb4, zb5, zb6, zb7, zb8] at hg195
    refine wl_take hF rfl rfl rfl rfl ?_
    refine wl hF rfl rfl rfl (r_field fo41_0 (hF.ev rfl)) ?_; clear hF a; intro a hF
    refine wl_take hF rfl rfl rfl rfl ?_
    refine wl hF rfl rfl rfl (r_load1 sc3 (hF.ev rfl) (hS.box (i := 17) rfl rfl)) ?_; clear hF a; intro a hF
    refine wl_take hF rfl rfl rfl rfl ?_
    refine wl hF rfl rfl rfl (r_eql (hF.ev rfl) ec) ?_; clear hF a; intro a hF
    refine wl_mvs (A := [_]) hF rfl ?_; clear hF a; intro a hF
    apply wl_or (A := [_, _, _, _, _, _]) (pk := 205) hF hS (tc := 199) rfl
    ·
      intro hg199 a hF; try simp only [zb1, zb2, zb3, zb4, zb5, zb6, zb7, zb8] at hg199
      refine wl_take hF rfl rfl rfl rfl ?_
      refine wl hF rfl rfl rfl (r_field fo35_0 (hF.ev rfl)) ?_; clear hF a; intro a hF
      refine wl_take hF rfl rfl rfl rfl ?_
      refine wl hF rfl rfl rfl (r_load1 sc24 (hF.ev rfl) (hS.box (i := 16) rfl rfl)) ?_; clear hF a; intro a hF
      refine wl_take hF rfl rfl rfl rfl ?_
      refine wl hF rfl rfl rfl (r_field fo35_0 (hF.ev rfl)) ?_; clear hF a; intro a hF
      refine wl_take hF rfl rfl rfl rfl ?_
      refine wl hF rfl rfl rfl (r_load1 sc24 (hF.ev rfl) (hS.box (i := 18) rfl rfl)) ?_; clear hF a; intro a hF
      refine wl_take hF rfl rfl rfl rfl ?_
      refine wl_call hF rfl rfl rfl (r_call2 en40 (hF.ev rfl) (hF.ev rfl)) (sameInts_c (hS.own_rd (i := 0) rfl) (hS.own_rd (i := 2) rfl)) ?_; clear hF a; rintro v w56 a ⟨rfl, hB_⟩ hF; replace hS := hS.ext hB_; clear hB_
      refine wl_take hF rfl rfl rfl rfl ?_
      refine wl hF rfl rfl rfl (r_pick_f (hF.ev rfl) (hF.ev rfl)) ?_; clear hF a; intro a hF
      exact wl_nil ⟨rfl, (Fr.pre (A := [_, _, _, _, _, _]) hF rfl).keep hF (t := 205) rfl, hS⟩
    ·
      intro hg199 a hF; try simp only [zb1, zb2, zb3, zb4, zb5, zb6, zb7, zb8] at hg199
      refine wl_mvs (A := [_, _, _, _, _]) hF rfl ?_; clear hF a; intro a hF
      refine wl_take hF rfl rfl rfl rfl ?_
      refine wl hF rfl rfl rfl (r_pick_t (hF.ev rfl) ec) ?_; clear hF a; intro a hF
      exact wl_nil ⟨rfl, (Fr.pre (A := [_, _, _, _, _, _]) hF rfl).keep hF (t := 205) rfl, hS⟩
    intro a w57 hF hS
    refine wl hF rfl rfl rfl (r_pick_t (hF.ev rfl) (hF.ev rfl)) ?_; clear hF a; intro a hF
    exact wl_nil ⟨rfl, (Fr.pre (A := [_, _, _, _, _, _]) hF rfl).keep hF (t := 206) rfl, hS⟩
  ·
    intro hg195 a hF; try simp only [zb1, zb2, zb3, zb4, zb5, zb6, zb7, zb8] at hg195
    refine wl_mvs (A := [_, _, _, _, _, _, _, _, _, _]) hF rfl ?_; clear hF a; intro a hF
    refine wl hF rfl rfl rfl (r_pick_f (hF.ev rfl) ec) ?_; clear hF a; intro a hF
    exact wl_nil ⟨rfl, (Fr.pre (A := [_, _, _, _, _, _, _, _, _, _, _]) hF rfl).keep hF (t := 206) rfl, hS⟩
  clear hF a hS; intro a w58 hF hS
  refine wl_mvs (A := [_]) hF rfl ?_; clear hF a; intro a hF
  refine wl_nil (hK26 _ _ ?_)
  refine wp_ret ?_
  try simp only [Exit.then, Exit.inBlock, ↓reduceIte]
  first
    | exact ret1 rfl hF rfl ⟨rfl, hS.old⟩
    | (refine ret1 rfl hF rfl ⟨congrArg Value.bool ?_, hS.old⟩; rw [hno]; simp; done)
    | (refine ret1 rfl hF rfl ⟨congrArg Value.bool ?_, hS.old⟩
       rw [hmx, Bool.true_and]
       by_cases hk3 : o23.kind = 3
       · simp [hk3]
       · rw [apply_vals hk3]; simp)

end Go.Proofs.Yteldnoimmjihoaa.Wk
