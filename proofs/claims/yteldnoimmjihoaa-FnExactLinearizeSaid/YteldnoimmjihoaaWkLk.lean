/- Walks: the laws on IsLinearizable and Linearize. -/
import Derived.Test.YteldnoimmjihoaaChecked
import Derived.Test.YteldnoimmjihoaaWkLj
import Derived.Test.YteldnoimmjihoaaWkMe
import Derived.Test.YteldnoimmjihoaaFactsC
namespace Go.Proofs.Yteldnoimmjihoaa.Wk
open Go Go.RowKit Sl
set_option linter.unusedVariables false
set_option linter.unusedSimpArgs false
set_option maxRecDepth 20000

theorem lin_len {c : Config} {es : List Sl.Event} : ((linearize c es).getD []).length ≤ 10 := by
  have key : ∀ n used m order r, order.length + n ≤ 10 → search c es n used m order = some r → r.length ≤ 10 := by
    intro n
    induction n with
    | zero =>
      intro used m order r h1 h2
      unfold search at h2
      split at h2
      · simp only [Option.some.injEq] at h2; subst h2; omega
      · cases h2
    | succ n ih =>
      intro used m order r h1 h2
      unfold search at h2
      split at h2
      · simp only [Option.some.injEq] at h2; subst h2; omega
      · obtain ⟨i, _, hi⟩ := List.exists_of_findSome?_eq_some h2
        split at hi
        · split at hi
          · exact ih _ _ _ r (by simp only [List.length_append, List.length_cons, List.length_nil]; omega) hi
          · cases hi
        · cases hi
  unfold linearize
  split
  · rename_i h
    cases hr : search c es es.length (List.replicate es.length false) (newModel c) [] with
    | none => simp
    | some r => exact key _ _ _ _ r (by simp only [List.length_nil]; omega) hr
  · simp

set_option maxHeartbeats 4000000 in
set_option maxRecDepth 20000 in
theorem law_FnExactIsLinearizable {W : World} {c : Config} {va : Value} {es : List Sl.Event} (ha : eventEK.Rd W va es) : Calls Try.prog 4 #[.agg c.enc.toArray, va] W (Ret fun v w' => v = .bool true ∧ Below W.heap.size W w') := by
  refine calls_fr Try.func4 rfl Try.ntmps4 rfl ?_
  intro a hF
  have hS := Sep.refl W
  obtain ⟨A_a, q_a, rfl, hq_a, hn_a⟩ := ha.sl; unfold maxLen at hn_a
  refine ws fun K1 hK1 => ?_
  refine wl_box (cs := [_, _, _, _, _, _]) hF hS rfl (hF.ev rfl) rfl ?_; clear hF a; intro g1 w1 a hS_ hB_ hF; replace hS := hS_; clear hS_ hB_
  refine wl_mvs (A := [_]) hF rfl ?_; clear hF a; intro a hF
  refine wl_nil (hK1 _ _ ?_)
  refine ws fun K2 hK2 => ?_
  refine wl_mvs (A := [_]) hF rfl ?_; clear hF a; intro a hF
  refine wl_nil (hK2 _ _ ?_)
  refine ws fun K3 hK3 => ?_
  refine wl_mvs (A := [_, _]) hF rfl ?_; clear hF a; intro a hF
  refine wl_call hF rfl rfl rfl (r_call2 en17 (hF.ev rfl) (hF.ev rfl)) (szEventS_c (hS.rd ha) (by omega) (by omega)) ?_; clear hF a; rintro v w2 a ⟨⟨r11, rfl, e1_11, e2_11, e3_11⟩, hB_⟩ hF; replace hS := hS.ext hB_; clear hB_
  refine wl_mvs (A := [_]) hF rfl ?_; clear hF a; intro a hF
  refine wl_nil (hK3 _ _ ?_)
  refine wp_seq_k fun K4 hK4 => ?_
  refine ws fun K5 hK5 => ?_
  refine wl_mvs (A := [_]) hF rfl ?_; clear hF a; intro a hF
  refine wl hF rfl rfl rfl (r_lss (hF.ev rfl) ec) ?_; clear hF a; intro a hF
  refine wl_nil (hK5 _ _ ?_)
  first | refine wc_dec (hF.ev rfl) (fun c13 => ?_) (fun c13 => ?_) | refine wc_ndec (hF.ev rfl) (fun c13 => ?_) (fun c13 => ?_) | refine wc_b (hF.ev rfl) (fun c13 => ?_) (fun c13 => ?_)
  ·
    refine ws fun K6 hK6 => ?_
    refine wl_mvs (A := [_]) hF rfl ?_; clear hF a; intro a hF
    refine wl_nil (hK6 _ _ ?_)
    refine wp_ret ?_
    try simp only [Exit.then, Exit.inBlock, ↓reduceIte]
    exact ret1 rfl hF rfl ⟨rfl, hS.old⟩
  refine wp_skip ?_
  refine hK4 _ _ ?_
  refine ws fun K7 hK7 => ?_
  refine wl hF rfl rfl rfl (r_loadn ag23 (hF.ev rfl) (hS.box_rd (i := 0) rfl) sz23) ?_; clear hF a; intro a hF
  refine wl_call hF rfl rfl rfl (r_call1 en10 (hF.ev rfl)) (toConfig_c _) ?_; clear hF a; rintro v w3 a ⟨rfl, hB_⟩ hF; replace hS := hS.ext hB_; clear hB_
  refine wl_mvs (A := [_]) hF rfl ?_; clear hF a; intro a hF
  refine wl_mk hF hS rfl rfl rfl (r_call1 en19 (hF.ev rfl)) (toEventS_c (hS.rd ha) (by omega)) ?_; clear hF a; rintro s17 w4 a hS_ hF; replace hS := hS_; clear hS_; dsimp only [List.cons_append, List.nil_append] at hS
  refine wl_call hF rfl rfl rfl (r_call2 en18 (hF.ev rfl) (hF.ev rfl)) (specIsLin_c (hS.own_rd (i := 0) rfl)) ?_; clear hF a; rintro v w5 a ⟨rfl, hB_⟩ hF; replace hS := hS.ext hB_; clear hB_
  refine wl_mvs (A := [_]) hF rfl ?_; clear hF a; intro a hF
  refine wl_nil (hK7 _ _ ?_)
  refine ws fun K8 hK8 => ?_
  refine wl_mvs (A := [_]) hF rfl ?_; clear hF a; intro a hF
  refine wl_mk hF hS rfl rfl rfl (r_call1 en19 (hF.ev rfl)) (toEventS_c (hS.rd ha) (by omega)) ?_; clear hF a; rintro s20 w6 a hS_ hF; replace hS := hS_; clear hS_; dsimp only [List.cons_append, List.nil_append] at hS
  refine wl_mvs (A := [_]) hF rfl ?_; clear hF a; intro a hF
  refine wl_nil (hK8 _ _ ?_)
  refine ws fun K9 hK9 => ?_
  refine wl hF rfl rfl rfl (r_loadn ag23 (hF.ev rfl) (hS.box_rd (i := 2) rfl) sz23) ?_; clear hF a; intro a hF
  refine wl_call hF rfl rfl rfl (r_call1 en10 (hF.ev rfl)) (toConfig_c _) ?_; clear hF a; rintro v w7 a ⟨rfl, hB_⟩ hF; replace hS := hS.ext hB_; clear hB_
  refine wl_mvs (A := [_]) hF rfl ?_; clear hF a; intro a hF
  refine wl_call hF rfl rfl rfl (r_call2 en20 (hF.ev rfl) (hF.ev rfl)) (implIsLin_c (hS.own_rd (i := 0) rfl)) ?_; clear hF a; rintro v w8 a ⟨rfl, hB_⟩ hF; replace hS := hS.ext hB_; clear hB_
  refine wl_mvs (A := [_]) hF rfl ?_; clear hF a; intro a hF
  refine wl_nil (hK9 _ _ ?_)
  refine wp_seq_k fun K10 hK10 => ?_
  refine ws fun K11 hK11 => ?_
  refine wl_mvs (A := [_, _]) hF rfl ?_; clear hF a; intro a hF
  refine wl hF rfl rfl rfl (r_neqb bl4 (hF.ev rfl) (hF.ev rfl)) ?_; clear hF a; intro a hF
  refine wl_nil (hK11 _ _ ?_)
  first | refine wc_dec (hF.ev rfl) (fun c27 => ?_) (fun c27 => ?_) | refine wc_ndec (hF.ev rfl) (fun c27 => ?_) (fun c27 => ?_) | refine wc_b (hF.ev rfl) (fun c27 => ?_) (fun c27 => ?_)
  · exfalso; first | omega | exact (c27 rfl).elim | (simp_all; done)
  refine wp_skip ?_
  refine hK10 _ _ ?_
  refine wp_seq_k fun K12 hK12 => ?_
  refine ws fun K13 hK13 => ?_
  refine wl_mvs (A := [_, _]) hF rfl ?_; clear hF a; intro a hF
  refine wl_mk hF hS rfl rfl rfl (r_call1 en19 (hF.ev rfl)) (toEventS_c (hS.rd ha) (by omega)) ?_; clear hF a; rintro s30 w9 a hS_ hF; replace hS := hS_; clear hS_; dsimp only [List.cons_append, List.nil_append] at hS
  refine wl_call hF rfl rfl rfl (r_call2 en21 (hF.ev rfl) (hF.ev rfl)) (eqEventS_same (hS.own_rd (i := 1) rfl) (hS.own_rd (i := 0) rfl)) ?_; clear hF a; rintro v w10 a ⟨rfl, hB_⟩ hF; replace hS := hS.ext hB_; clear hB_
  refine wl hF rfl rfl rfl (r_not (hF.ev rfl)) ?_; clear hF a; intro a hF
  refine wl_nil (hK13 _ _ ?_)
  refine wc_false (hF.ev rfl) ?_
  refine wp_skip ?_
  refine hK12 _ _ ?_
  refine ws fun K14 hK14 => ?_
  refine wl_mvs (A := [_]) hF rfl ?_; clear hF a; intro a hF
  refine wl_nil (hK14 _ _ ?_)
  refine wp_ret ?_
  try simp only [Exit.then, Exit.inBlock, ↓reduceIte]
  exact ret1 rfl hF rfl ⟨rfl, hS.old⟩

set_option maxHeartbeats 4000000 in
set_option maxRecDepth 20000 in
theorem law_FnExactLinearize {W : World} {c : Config} {va : Value} {es : List Sl.Event} (ha : eventEK.Rd W va es) : Calls Try.prog 5 #[.agg c.enc.toArray, va] W (Ret fun v w' => v = .bool true ∧ Below W.heap.size W w') := by
  refine calls_fr Try.func5 rfl Try.ntmps5 rfl ?_
  intro a hF
  have hS := Sep.refl W
  obtain ⟨A_a, q_a, rfl, hq_a, hn_a⟩ := ha.sl; unfold maxLen at hn_a
  have hll := lin_len (c := c) (es := es)
  have hce := crow_event es
  refine ws fun K1 hK1 => ?_
  refine wl_box (cs := [_, _, _, _, _, _]) hF hS rfl (hF.ev rfl) rfl ?_; clear hF a; intro g1 w1 a hS_ hB_ hF; replace hS := hS_; clear hS_ hB_
  refine wl_mvs (A := [_]) hF rfl ?_; clear hF a; intro a hF
  refine wl_nil (hK1 _ _ ?_)
  refine ws fun K2 hK2 => ?_
  refine wl_mvs (A := [_]) hF rfl ?_; clear hF a; intro a hF
  refine wl_nil (hK2 _ _ ?_)
  refine ws fun K3 hK3 => ?_
  refine wl_mvs (A := [_, _]) hF rfl ?_; clear hF a; intro a hF
  refine wl_call hF rfl rfl rfl (r_call2 en17 (hF.ev rfl) (hF.ev rfl)) (szEventS_c (hS.rd ha) (by omega) (by omega)) ?_; clear hF a; rintro v w2 a ⟨⟨r18, rfl, e1_18, e2_18, e3_18⟩, hB_⟩ hF; replace hS := hS.ext hB_; clear hB_
  refine wl_mvs (A := [_]) hF rfl ?_; clear hF a; intro a hF
  refine wl_nil (hK3 _ _ ?_)
  refine wp_seq_k fun K4 hK4 => ?_
  refine ws fun K5 hK5 => ?_
  refine wl_mvs (A := [_]) hF rfl ?_; clear hF a; intro a hF
  refine wl hF rfl rfl rfl (r_lss (hF.ev rfl) ec) ?_; clear hF a; intro a hF
  refine wl_nil (hK5 _ _ ?_)
  first | refine wc_dec (hF.ev rfl) (fun c20 => ?_) (fun c20 => ?_) | refine wc_ndec (hF.ev rfl) (fun c20 => ?_) (fun c20 => ?_) | refine wc_b (hF.ev rfl) (fun c20 => ?_) (fun c20 => ?_)
  ·
    refine ws fun K6 hK6 => ?_
    refine wl_mvs (A := [_]) hF rfl ?_; clear hF a; intro a hF
    refine wl_nil (hK6 _ _ ?_)
    refine wp_ret ?_
    try simp only [Exit.then, Exit.inBlock, ↓reduceIte]
    exact ret1 rfl hF rfl ⟨rfl, hS.old⟩
  refine wp_skip ?_
  refine hK4 _ _ ?_
  refine ws fun K7 hK7 => ?_
  refine wl hF rfl rfl rfl (r_loadn ag23 (hF.ev rfl) (hS.box_rd (i := 0) rfl) sz23) ?_; clear hF a; intro a hF
  refine wl_call hF rfl rfl rfl (r_call1 en10 (hF.ev rfl)) (toConfig_c _) ?_; clear hF a; rintro v w3 a ⟨rfl, hB_⟩ hF; replace hS := hS.ext hB_; clear hB_
  refine wl_mvs (A := [_]) hF rfl ?_; clear hF a; intro a hF
  refine wl_mk hF hS rfl rfl rfl (r_call1 en19 (hF.ev rfl)) (toEventS_c (hS.rd ha) (by omega)) ?_; clear hF a; rintro s25 w4 a hS_ hF; replace hS := hS_; clear hS_; dsimp only [List.cons_append, List.nil_append] at hS
  refine wl_mk hF hS rfl rfl rfl (r_call2 en22 (hF.ev rfl) (hF.ev rfl)) (specLinearize_c (hS.own_rd (i := 0) rfl)) ?_; clear hF a; rintro s26 w5 a hS_ hF; replace hS := hS_; clear hS_; dsimp only [List.cons_append, List.nil_append] at hS
  refine wl_mvs (A := [_]) hF rfl ?_; clear hF a; intro a hF
  refine wl hF rfl rfl rfl (r_extract (hF.ev rfl) rfl) ?_; clear hF a; intro a hF
  refine wl hF rfl rfl rfl (r_extract (hF.ev rfl) rfl) ?_; clear hF a; intro a hF
  refine wl_mvs (A := [_, _]) hF rfl ?_; clear hF a; intro a hF
  refine wl_nil (hK7 _ _ ?_)
  refine ws fun K8 hK8 => ?_
  refine wl_mvs (A := [_]) hF rfl ?_; clear hF a; intro a hF
  refine wl_mk hF hS rfl rfl rfl (r_call1 en19 (hF.ev rfl)) (toEventS_c (hS.rd ha) (by omega)) ?_; clear hF a; rintro s30 w6 a hS_ hF; replace hS := hS_; clear hS_; dsimp only [List.cons_append, List.nil_append] at hS
  refine wl_mvs (A := [_]) hF rfl ?_; clear hF a; intro a hF
  refine wl_nil (hK8 _ _ ?_)
  refine ws fun K9 hK9 => ?_
  refine wl hF rfl rfl rfl (r_loadn ag23 (hF.ev rfl) (hS.box_rd (i := 3) rfl) sz23) ?_; clear hF a; intro a hF
  refine wl_call hF rfl rfl rfl (r_call1 en10 (hF.ev rfl)) (toConfig_c _) ?_; clear hF a; rintro v w7 a ⟨rfl, hB_⟩ hF; replace hS := hS.ext hB_; clear hB_
  refine wl_mvs (A := [_]) hF rfl ?_; clear hF a; intro a hF
  refine wl_mk hF hS rfl rfl rfl (r_call2 en23 (hF.ev rfl) (hF.ev rfl)) (implLinearize_c (hS.own_rd (i := 0) rfl)) ?_; clear hF a; rintro s35 w8 a hS_ hF; replace hS := hS_; clear hS_; dsimp only [List.cons_append, List.nil_append] at hS
  refine wl_mvs (A := [_]) hF rfl ?_; clear hF a; intro a hF
  refine wl hF rfl rfl rfl (r_extract (hF.ev rfl) rfl) ?_; clear hF a; intro a hF
  refine wl hF rfl rfl rfl (r_extract (hF.ev rfl) rfl) ?_; clear hF a; intro a hF
  refine wl_mvs (A := [_, _]) hF rfl ?_; clear hF a; intro a hF
  refine wl_nil (hK9 _ _ ?_)
  refine wp_seq_k fun K10 hK10 => ?_
  refine ws fun K11 hK11 => ?_
  refine wl_mvs (A := [_, _]) hF rfl ?_; clear hF a; intro a hF
  refine wl_call hF rfl rfl rfl (r_call2 en24 (hF.ev rfl) (hF.ev rfl)) (eqIntS_same (hS.own_rd (i := 0) rfl) (hS.own_rd (i := 2) rfl)) ?_; clear hF a; rintro v w9 a ⟨rfl, hB_⟩ hF; replace hS := hS.ext hB_; clear hB_
  refine wl hF rfl rfl rfl (r_not (hF.ev rfl)) ?_; clear hF a; intro a hF
  refine wl_mvs (A := [_, _, _]) hF rfl ?_; clear hF a; intro a hF
  refine wl_take hF rfl rfl rfl rfl ?_
  refine wl hF rfl rfl rfl (r_neqb bl4 (hF.ev rfl) (hF.ev rfl)) ?_; clear hF a; intro a hF
  refine wl hF rfl rfl rfl (r_pick_f (hF.ev rfl) (hF.ev rfl)) ?_; clear hF a; intro a hF
  refine wl_nil (hK11 _ _ ?_)
  first | refine wc_dec (hF.ev rfl) (fun c46 => ?_) (fun c46 => ?_) | refine wc_ndec (hF.ev rfl) (fun c46 => ?_) (fun c46 => ?_) | refine wc_b (hF.ev rfl) (fun c46 => ?_) (fun c46 => ?_)
  · exfalso; first | omega | exact (c46 rfl).elim | (simp_all; done)
  refine wp_skip ?_
  refine hK10 _ _ ?_
  refine wp_seq_k fun K12 hK12 => ?_
  refine ws fun K13 hK13 => ?_
  refine wl_mvs (A := [_, _]) hF rfl ?_; clear hF a; intro a hF
  refine wl_mk hF hS rfl rfl rfl (r_call1 en19 (hF.ev rfl)) (toEventS_c (hS.rd ha) (by omega)) ?_; clear hF a; rintro s49 w10 a hS_ hF; replace hS := hS_; clear hS_; dsimp only [List.cons_append, List.nil_append] at hS
  refine wl_call hF rfl rfl rfl (r_call2 en21 (hF.ev rfl) (hF.ev rfl)) (eqEventS_same (hS.own_rd (i := 2) rfl) (hS.own_rd (i := 0) rfl)) ?_; clear hF a; rintro v w11 a ⟨rfl, hB_⟩ hF; replace hS := hS.ext hB_; clear hB_
  refine wl hF rfl rfl rfl (r_not (hF.ev rfl)) ?_; clear hF a; intro a hF
  refine wl_nil (hK13 _ _ ?_)
  refine wc_false (hF.ev rfl) ?_
  refine wp_skip ?_
  refine hK12 _ _ ?_
  refine ws fun K14 hK14 => ?_
  refine wl_mvs (A := [_]) hF rfl ?_; clear hF a; intro a hF
  refine wl_nil (hK14 _ _ ?_)
  refine ws fun K15 hK15 => ?_
  refine wl_mvs (A := [_, _]) hF rfl ?_; clear hF a; intro a hF
  replace hS := hS.pull (p := 2) rfl; dsimp only [List.eraseIdx] at hS
  refine wl_call hF rfl rfl rfl (r_call2 en25 (hF.ev rfl) (hF.ev rfl)) (markEventS_c hS (by omega) (by omega)) ?_; clear hF a; rintro v w12 a ⟨rfl, hS_⟩ hF; replace hS := hS_; clear hS_
  refine wl_mvs (A := [_]) hF rfl ?_; clear hF a; intro a hF
  refine wl_nil (hK15 _ _ ?_)
  refine wp_seq_k fun K16 hK16 => ?_
  refine ws fun K17 hK17 => ?_
  refine wl_mvs (A := [_]) hF rfl ?_; clear hF a; intro a hF
  refine wl hF rfl rfl rfl (r_lss (hF.ev rfl) ec) ?_; clear hF a; intro a hF
  refine wl_mvs (A := [_]) hF rfl ?_; clear hF a; intro a hF
  revert hF; intro hF0; refine bsplit (t := 57) hF0 rfl (fun b57 hF => ?_) (fun b57 hF => ?_)
  · exfalso; clear hF hF0; try simp only [decide_eq_true_eq, decide_eq_false_iff_not, Bool.not_eq_true', Bool.not_eq_false'] at b57
    first | omega | exact (b57 rfl).elim | (simp_all; done)
  clear hF0
  refine wl_mvs (A := [_, _]) hF rfl ?_; clear hF a; intro a hF
  refine wl_take hF rfl rfl rfl rfl ?_
  refine wl_call hF rfl rfl rfl (r_call2 en24 (hF.ev rfl) (hF.ev rfl)) (eqIntS_same (hS.own_rd (i := 2) rfl) (hS.own_rd (i := 3) rfl)) ?_; clear hF a; rintro v w13 a ⟨rfl, hB_⟩ hF; replace hS := hS.ext hB_; clear hB_
  refine wl_take hF rfl rfl rfl rfl ?_
  refine wl hF rfl rfl rfl (r_not (hF.ev rfl)) ?_; clear hF a; intro a hF
  refine wl hF rfl rfl rfl (r_pick_f (hF.ev rfl) (hF.ev rfl)) ?_; clear hF a; intro a hF
  refine wl_mvs (A := [_, _, _]) hF rfl ?_; clear hF a; intro a hF
  refine wl_take hF rfl rfl rfl rfl ?_
  refine wl hF rfl rfl rfl (r_neqb bl4 (hF.ev rfl) (hF.ev rfl)) ?_; clear hF a; intro a hF
  refine wl hF rfl rfl rfl (r_pick_f (hF.ev rfl) (hF.ev rfl)) ?_; clear hF a; intro a hF
  refine wl_nil (hK17 _ _ ?_)
  first | refine wc_dec (hF.ev rfl) (fun c67 => ?_) (fun c67 => ?_) | refine wc_ndec (hF.ev rfl) (fun c67 => ?_) (fun c67 => ?_) | refine wc_b (hF.ev rfl) (fun c67 => ?_) (fun c67 => ?_)
  · exfalso; first | omega | exact (c67 rfl).elim | (simp_all; done)
  refine wp_skip ?_
  refine hK16 _ _ ?_
  refine ws fun K18 hK18 => ?_
  refine wl_mvs (A := [_]) hF rfl ?_; clear hF a; intro a hF
  refine wl_nil (hK18 _ _ ?_)
  refine ws fun K19 hK19 => ?_
  refine wl_mvs (A := [_, _]) hF rfl ?_; clear hF a; intro a hF
  refine wl_call hF rfl rfl rfl (r_call2 en26 (hF.ev rfl) (hF.ev rfl)) (markIntS_c hS (q := 2) rfl (by omega) (by first | omega | (simp only [marks_length]; omega))) ?_; clear hF a; rintro v w14 a ⟨rfl, hS_⟩ hF; replace hS := hS_; clear hS_; dsimp only [List.set] at hS
  refine wl_mvs (A := [_]) hF rfl ?_; clear hF a; intro a hF
  refine wl_nil (hK19 _ _ ?_)
  refine ws fun K20 hK20 => ?_
  refine wl_mvs (A := [_]) hF rfl ?_; clear hF a; intro a hF
  refine wl_nil (hK20 _ _ ?_)
  refine ws fun K21 hK21 => ?_
  refine wl_mvs (A := [_, _]) hF rfl ?_; clear hF a; intro a hF
  refine wl_call hF rfl rfl rfl (r_call2 en27 (hF.ev rfl) (hF.ev rfl)) (heldIntS_c (hS.own_rd (i := 2) rfl) (by omega) (by first | omega | (simp only [marks_length]; omega))) ?_; clear hF a; rintro v w15 a ⟨rfl, hB_⟩ hF; replace hS := hS.ext hB_; clear hB_
  refine wl_mvs (A := [_]) hF rfl ?_; clear hF a; intro a hF
  refine wl_nil (hK21 _ _ ?_)
  refine wp_seq_k fun K22 hK22 => ?_
  refine ws fun K23 hK23 => ?_
  refine wl_mvs (A := [_]) hF rfl ?_; clear hF a; intro a hF
  refine wl hF rfl rfl rfl (r_lss (hF.ev rfl) ec) ?_; clear hF a; intro a hF
  refine wl_nil (hK23 _ _ ?_)
  first | refine wc_dec (hF.ev rfl) (fun c75 => ?_) (fun c75 => ?_) | refine wc_ndec (hF.ev rfl) (fun c75 => ?_) (fun c75 => ?_) | refine wc_b (hF.ev rfl) (fun c75 => ?_) (fun c75 => ?_)
  · exfalso; first | omega | exact (c75 rfl).elim | (simp_all; done)
  refine wp_skip ?_
  refine hK22 _ _ ?_
  refine wp_seq_k fun K24 hK24 => ?_
  refine ws fun K25 hK25 => ?_
  refine wl_mvs (A := [_, _]) hF rfl ?_; clear hF a; intro a hF
  refine wl hF rfl rfl rfl (r_neq (hF.ev rfl) (hF.ev rfl)) ?_; clear hF a; intro a hF
  refine wl_nil (hK25 _ _ ?_)
  first | refine wc_dec (hF.ev rfl) (fun c78 => ?_) (fun c78 => ?_) | refine wc_ndec (hF.ev rfl) (fun c78 => ?_) (fun c78 => ?_) | refine wc_b (hF.ev rfl) (fun c78 => ?_) (fun c78 => ?_)
  · exfalso; first | omega | exact (c78 rfl).elim | (simp_all; done)
  refine wp_skip ?_
  refine hK24 _ _ ?_
  refine ws fun K26 hK26 => ?_
  refine wl hF rfl rfl rfl (r_loadn ag23 (hF.ev rfl) (hS.box_rd (i := 5) rfl) sz23) ?_; clear hF a; intro a hF
  refine wl_call hF rfl rfl rfl (r_call1 en10 (hF.ev rfl)) (toConfig_c _) ?_; clear hF a; rintro v w16 a ⟨rfl, hB_⟩ hF; replace hS := hS.ext hB_; clear hB_
  refine wl_mvs (A := [_]) hF rfl ?_; clear hF a; intro a hF
  refine wl_mk hF hS rfl rfl rfl (r_call1 en19 (hF.ev rfl)) (toEventS_c (hS.rd ha) (by omega)) ?_; clear hF a; rintro s83 w17 a hS_ hF; replace hS := hS_; clear hS_; dsimp only [List.cons_append, List.nil_append] at hS
  refine wl_mk hF hS rfl rfl rfl (r_call2 en23 (hF.ev rfl) (hF.ev rfl)) (implLinearize_c (hS.own_rd (i := 0) rfl)) ?_; clear hF a; rintro s84 w18 a hS_ hF; replace hS := hS_; clear hS_; dsimp only [List.cons_append, List.nil_append] at hS
  refine wl_mvs (A := [_]) hF rfl ?_; clear hF a; intro a hF
  refine wl hF rfl rfl rfl (r_extract (hF.ev rfl) rfl) ?_; clear hF a; intro a hF
  refine wl hF rfl rfl rfl (r_extract (hF.ev rfl) rfl) ?_; clear hF a; intro a hF
  refine wl_mvs (A := [_, _]) hF rfl ?_; clear hF a; intro a hF
  refine wl_nil (hK26 _ _ ?_)
  refine wp_seq_k fun K27 hK27 => ?_
  refine ws fun K28 hK28 => ?_
  refine wl_mvs (A := [_, _]) hF rfl ?_; clear hF a; intro a hF
  refine wl_call hF rfl rfl rfl (r_call2 en24 (hF.ev rfl) (hF.ev rfl)) (eqIntS_same (hS.own_rd (i := 0) rfl) (hS.own_rd (i := 5) rfl)) ?_; clear hF a; rintro v w19 a ⟨rfl, hB_⟩ hF; replace hS := hS.ext hB_; clear hB_
  refine wl hF rfl rfl rfl (r_not (hF.ev rfl)) ?_; clear hF a; intro a hF
  refine wl_mvs (A := [_, _, _]) hF rfl ?_; clear hF a; intro a hF
  refine wl_take hF rfl rfl rfl rfl ?_
  refine wl hF rfl rfl rfl (r_neqb bl4 (hF.ev rfl) (hF.ev rfl)) ?_; clear hF a; intro a hF
  refine wl hF rfl rfl rfl (r_pick_f (hF.ev rfl) (hF.ev rfl)) ?_; clear hF a; intro a hF
  refine wl_nil (hK28 _ _ ?_)
  first | refine wc_dec (hF.ev rfl) (fun c95 => ?_) (fun c95 => ?_) | refine wc_ndec (hF.ev rfl) (fun c95 => ?_) (fun c95 => ?_) | refine wc_b (hF.ev rfl) (fun c95 => ?_) (fun c95 => ?_)
  · exfalso; first | omega | exact (c95 rfl).elim | (simp_all; done)
  refine wp_skip ?_
  refine hK27 _ _ ?_
  refine ws fun K29 hK29 => ?_
  refine wl_mvs (A := [_]) hF rfl ?_; clear hF a; intro a hF
  refine wl_nil (hK29 _ _ ?_)
  refine ws fun K30 hK30 => ?_
  refine wl_mvs (A := [_, _]) hF rfl ?_; clear hF a; intro a hF
  refine wl_call hF rfl rfl rfl (r_call2 en27 (hF.ev rfl) (hF.ev rfl)) (heldIntS_c (hS.own_rd (i := 4) rfl) (by omega) (by first | omega | (simp only [marks_length]; omega))) ?_; clear hF a; rintro v w20 a ⟨rfl, hB_⟩ hF; replace hS := hS.ext hB_; clear hB_
  refine wl_mvs (A := [_]) hF rfl ?_; clear hF a; intro a hF
  refine wl_nil (hK30 _ _ ?_)
  refine wp_seq_k fun K31 hK31 => ?_
  refine ws fun K32 hK32 => ?_
  refine wl_mvs (A := [_]) hF rfl ?_; clear hF a; intro a hF
  refine wl hF rfl rfl rfl (r_lss (hF.ev rfl) ec) ?_; clear hF a; intro a hF
  refine wl_nil (hK32 _ _ ?_)
  first | refine wc_dec (hF.ev rfl) (fun c100 => ?_) (fun c100 => ?_) | refine wc_ndec (hF.ev rfl) (fun c100 => ?_) (fun c100 => ?_) | refine wc_b (hF.ev rfl) (fun c100 => ?_) (fun c100 => ?_)
  · exfalso; first | omega | exact (c100 rfl).elim | (simp_all; done)
  refine wp_skip ?_
  refine hK31 _ _ ?_
  refine wp_seq_k fun K33 hK33 => ?_
  refine ws fun K34 hK34 => ?_
  refine wl_mvs (A := [_, _]) hF rfl ?_; clear hF a; intro a hF
  refine wl hF rfl rfl rfl (r_neq (hF.ev rfl) (hF.ev rfl)) ?_; clear hF a; intro a hF
  refine wl_nil (hK34 _ _ ?_)
  first | refine wc_dec (hF.ev rfl) (fun c103 => ?_) (fun c103 => ?_) | refine wc_ndec (hF.ev rfl) (fun c103 => ?_) (fun c103 => ?_) | refine wc_b (hF.ev rfl) (fun c103 => ?_) (fun c103 => ?_)
  · exfalso; first | omega | exact (c103 rfl).elim | (simp_all; done)
  refine wp_skip ?_
  refine hK33 _ _ ?_
  refine ws fun K35 hK35 => ?_
  refine wl_mvs (A := [_]) hF rfl ?_; clear hF a; intro a hF
  refine wl_nil (hK35 _ _ ?_)
  refine wp_ret ?_
  try simp only [Exit.then, Exit.inBlock, ↓reduceIte]
  exact ret1 rfl hF rfl ⟨rfl, hS.old⟩

end Go.Proofs.Yteldnoimmjihoaa.Wk
