/- Walks: copies of models, operations, ApplyModel, and the law. -/
import Derived.Test.YteldnoimmjihoaaChecked
import Derived.Test.YteldnoimmjihoaaWkC
namespace Go.Proofs.Yteldnoimmjihoaa.Wk
open Go Go.RowKit Sl
set_option linter.unusedVariables false
set_option linter.unusedSimpArgs false
set_option maxRecDepth 20000

/-- what IsOp asks -/
def _root_.Go.Proofs.Yteldnoimmjihoaa.Sl.Op.ok (o : Sl.Op) : Prop := ((o.kind = 1 ∨ o.kind = 4 ∨ o.kind = 5) ∧ o.key = 0 ∧ o.value = 0) ∨ (o.kind = 2 ∧ (0 ≤ o.key ∧ o.key ≤ 9) ∧ o.value = 0) ∨ (o.kind = 3 ∧ (0 ≤ o.key ∧ o.key ≤ 9) ∧ (0 ≤ o.value ∧ o.value ≤ 99))
instance (o : Sl.Op) : Decidable o.ok := by unfold Sl.Op.ok; infer_instance
/-- what ApplyModel answers -/
def applyModel (c : Config) (m : Model) (p : Int) (o : Sl.Op) : Model × Sl.Result :=
  if isModel c m = true ∧ o.ok ∧ (0 ≤ p ∧ p ≤ c.threads - 1) then
    if c.keys ≤ o.key then (m, ⟨4, 0⟩)
    else if o.kind = 1 ∧ (0 : Int) < (at0 m.snapshots p).length then (m, ⟨6, 0⟩)
    else if (o.kind = 2 ∨ o.kind = 4) ∧ ((at0 m.snapshots p).length : Int) = 0 then (m, ⟨3, 0⟩)
    else if o.kind = 1 then (⟨m.values, m.snapshots.set p.toNat m.values⟩, ⟨0, 0⟩)
    else if o.kind = 4 then (⟨m.values, m.snapshots.set p.toNat []⟩, ⟨0, 0⟩)
    else if o.kind = 3 then (⟨m.values.set o.key.toNat o.value, m.snapshots⟩, ⟨0, 0⟩)
    else if o.kind = 2 then if at0 (at0 m.snapshots p) o.key < 0 then (m, ⟨1, 0⟩) else (m, ⟨0, at0 (at0 m.snapshots p) o.key⟩)
    else (m, ⟨0, 0⟩)
  else (m, ⟨0, 0⟩)
section
variable {c : Config} {m : Model} {l : List Int}
theorem isModel_thr (h : isModel c m = true) : c.ok ∧ (m.snapshots.length : Int) = c.threads := by
  unfold isModel at h
  simp only [Bool.and_eq_true, decide_eq_true_eq] at h
  exact ⟨h.1, h.2.2.1⟩
theorem isModel_vals (h : isModel c m = true) : (m.values.length : Int) = c.keys := by
  unfold isModel valOk at h
  simp only [Bool.and_eq_true, decide_eq_true_eq] at h
  exact h.2.1.2
theorem isModel_snap (h : isModel c m = true) (hl : l ∈ m.snapshots) (h0 : (0 : Int) < l.length) : (l.length : Int) = c.keys := by
  unfold isModel at h
  simp only [Bool.and_eq_true, decide_eq_true_eq] at h
  have := List.all_eq_true.1 h.2.2.2 l hl
  simp only [h0, decide_true, Bool.not_true, Bool.false_or] at this
  unfold valOk at this
  simp only [Bool.and_eq_true, decide_eq_true_eq] at this
  exact this.2
end

set_option maxHeartbeats 4000000 in
set_option maxRecDepth 20000 in
theorem cloneI_c {W : World} {va : Value} {xs : List Int} (ha : intEK.Rd W va xs) (hz : xs.length ≤ 1099511627776) : Calls Try.prog 70 #[va] W (Ret (Mk W (fun s : Slv => sv s) (fun s => [Own intEK (sv s) xs]))) := by
  refine calls_fr Try.func70 rfl Try.ntmps70 rfl ?_
  intro a hF
  have hS := Sep.refl W
  obtain ⟨A_a, q_a, rfl, hq_a, hn_a⟩ := ha.sl; unfold maxLen at hn_a
  refine ws fun K1 hK1 => ?_
  refine wl_mvs (A := [_]) hF rfl ?_; clear hF a; intro a hF
  refine wl_nil (hK1 _ _ ?_)
  refine wp_seq_k fun K2 hK2 => ?_
  refine ws fun K3 hK3 => ?_
  refine wl_mvs (A := [_]) hF rfl ?_; clear hF a; intro a hF
  refine wl hF rfl rfl rfl (r_eqnil ul24 (hF.ev rfl) ec) ?_; clear hF a; intro a hF
  refine wl_nil (hK3 _ _ ?_)
  refine wc_fx (t := 4) hF rfl ?_ ?_ <;> clear hF <;> intro c4 hF <;> try simp only [zb1, zb2, zb3, zb4, zb5, zb6, zb7, zb8] at c4
  ·
    refine ws fun K4 hK4 => ?_
    refine wl_mvs (A := [_]) hF rfl ?_; clear hF a; intro a hF
    refine wl_nil (hK4 _ _ ?_)
    refine wp_ret ?_
    try simp only [Exit.then, Exit.inBlock, ↓reduceIte]
    first
      | (obtain rfl : xs = [] := Rd.none_nil ha c4; refine ret1 rfl hF rfl ?_; exact Sep.mkS ((Sep.refl W).ext hS.old |>.own_nil _) rfl)
      | (refine ret1 rfl hF rfl ?_; exact Sep.mkS (hS.pick [99] (by decide) rfl) rfl)
  refine wp_skip ?_
  refine hK2 _ _ ?_
  refine ws fun K5 hK5 => ?_
  refine wl_bslice intEK [] [] rfl hF hS rfl mk24 rfl trivial rfl rfl rfl rfl ?_; clear hF a; intro gl_5 w1 a hS_ hF; replace hS := hS_; clear hS_
  refine wl_mvs (A := [_]) hF rfl ?_; clear hF a; intro a hF
  refine wl_append0 hF hS rfl (hS.rd ha) mk24 rfl (by omega) (by unfold maxLen; omega) (hF.ev rfl) (hF.ev rfl) ?_; clear hF a; intro s7 w2 a hS_ hF; replace hS := hS_; clear hS_
  refine wl_mvs (A := [_]) hF rfl ?_; clear hF a; intro a hF
  refine wl_nil (hK5 _ _ ?_)
  refine wp_ret ?_
  try simp only [Exit.then, Exit.inBlock, ↓reduceIte]
  first
    | (obtain rfl : xs = [] := Rd.none_nil ha c4; refine ret1 rfl hF rfl ?_; exact Sep.mkS ((Sep.refl W).ext hS.old |>.own_nil _) rfl)
    | (refine ret1 rfl hF rfl ?_; exact Sep.mkS (hS.pick [0] (by decide) rfl) rfl)

set_option maxHeartbeats 4000000 in
set_option maxRecDepth 20000 in
theorem specCopyM_c {W : World} {m : Model} {cs : List Value} (hm : modelEK.K W m cs) (hz : m.size ≤ 1048576) : Calls Try.prog 43 #[.agg cs.toArray] W (Ret (Mk W (fun s : Slv × Slv => .agg #[sv s.1, sv s.2]) (fun s => [Own intEK (sv s.1) m.values, Own (sliceEK intEK) (sv s.2) m.snapshots]))) := by
  refine calls_fr Try.func43 rfl Try.ntmps43 rfl ?_
  intro a hF
  have hS := Sep.refl W
  obtain ⟨v0, v1, rfl, r0, r1⟩ := hm
  obtain ⟨A_x, q_x, rfl, hq_x, hn_x⟩ := r0.sl; unfold maxLen at hn_x
  obtain ⟨A_y, q_y, rfl, hq_y, hn_y⟩ := r1.sl; unfold maxLen at hn_y
  unfold Model.size at hz
  refine ws fun K1 hK1 => ?_
  refine wl_box (cs := [_, _]) hF hS rfl (hF.ev rfl) rfl ?_; clear hF a; intro g1 w1 a hS_ hB_ hF; replace hS := hS_; clear hS_ hB_
  refine wl_alloc hF hS rfl zr35 ?_; clear hF a; intro g2 w2 a hS_ hB_ hF; replace hS := hS_; clear hS_ hB_
  refine wl_nil (hK1 _ _ ?_)
  refine ws fun K2 hK2 => ?_
  refine wl_bslice intEK [] [] rfl hF hS rfl mk24 rfl trivial rfl rfl rfl rfl ?_; clear hF a; intro gl_5 w3 a hS_ hF; replace hS := hS_; clear hS_
  refine wl hF rfl rfl rfl (r_field fo35_0 (hF.ev rfl)) ?_; clear hF a; intro a hF
  refine wl hF rfl rfl rfl (r_load1 sc24 (hF.ev rfl) (hS.box (i := 2) rfl rfl)) ?_; clear hF a; intro a hF
  refine wl_append0 hF hS rfl (hS.rd r0) mk24 rfl (by omega) (by unfold maxLen; omega) (hF.ev rfl) (hF.ev rfl) ?_; clear hF a; intro s8 w4 a hS_ hF; replace hS := hS_; clear hS_
  refine wl hF rfl rfl rfl (r_build (bd35_0 _ _ _) ⟨rfl, (hF.ev rfl), trivial⟩) ?_; clear hF a; intro a hF
  refine wl_alloc hF hS rfl zr35 ?_; clear hF a; intro g3 w5 a hS_ hB_ hF; replace hS := hS_; clear hS_ hB_
  refine wl_storew hF hS (i := 0) rfl (hF.ev rfl) (hF.ev rfl) sz35 rfl rfl ?_; intro w6 hS_; replace hS := hS_; clear hS_; dsimp only [List.set, Nat.reduceAdd] at hS
  refine wl_nil (hK2 _ _ ?_)
  refine wp_seq_k fun K3 hK3 => ?_
  refine ws fun K4 hK4 => ?_
  refine wl_mvs (A := [_]) hF rfl ?_; clear hF a; intro a hF
  refine wl_nil (hK4 _ _ ?_)
  refine wp_block ?_
  replace hS := hS.own_nil (sliceEK intEK)
  replace hS := hS.pull (p := 1) rfl; dsimp only [List.eraseIdx] at hS
  replace hS := hS.pull (p := 1) rfl; dsimp only [List.eraseIdx] at hS
  have hL_ := (((hF.nil.keep hF (t := 3) rfl).keep hF (t := 2) rfl).keep hF (t := 1) rfl)
  refine wp_loop_m (σ := Nat × Slv) (fun s L_ => (4, vi s.1) :: L_) (fun s l_ => (Own (sliceEK intEK) (sv s.2) (m.snapshots.take s.1)) :: (Box g3 [sv s8, sv s.2]) :: l_) (fun s => (s.1 ≤ m.snapshots.length)) (fun s => m.snapshots.length - s.1) (0, (none, 0, 0)) (hS) (hL_.keepE hF (t := 4) rfl rfl) ?_ ?_
  · exact Nat.zero_le _
  clear hF hS hL_ a
  rintro ⟨k, q⟩ a w7 hk hS hF; try dsimp only at hF; try dsimp only at hS; try dsimp only at hk
  refine wp_seq_k fun K5 hK5 => ?_
  refine ws fun K6 hK6 => ?_
  refine wl_mvs (A := [_]) hF rfl ?_; clear hF a; intro a hF
  refine wl hF rfl rfl rfl (r_field fo35_1 (hF.ev rfl)) ?_; clear hF a; intro a hF
  refine wl hF rfl rfl rfl (r_load1 sc25 (hF.ev rfl) (hS.box (i := 5) rfl rfl)) ?_; clear hF a; intro a hF
  refine wl hF rfl rfl rfl (r_len ul25 (hF.ev rfl)) ?_; clear hF a; intro a hF
  refine wl hF rfl rfl rfl (r_lss (hF.ev rfl) (hF.ev rfl)) ?_; clear hF a; intro a hF
  refine wl_nil (hK6 _ _ ?_)
  refine wc_fx (t := 14) hF rfl ?_ ?_ <;> clear hF <;> intro c14 hF <;> try simp only [zb1, zb2, zb3, zb4, zb5, zb6, zb7, zb8] at c14
  ·
    have hlt : k < m.snapshots.length := by omega
    have hx := at0_nat hlt
    have hc1 := crow_le1 (c := List.length) hx
    refine wp_skip ?_
    refine hK5 _ _ ?_
    refine wp_seq_k fun K7 hK7 => ?_
    refine wp_block ?_
    refine wp_region_todo (is := [0, 1, 3, 4, 5, 6, 7, 2, 8, 9, 10, 11, 12]) [] [10, 11, 12] (by kernel_rfl) hF hS ⟨trivial, by decide, by decide, by decide⟩ (by kernel_rfl) ?_; clear hF; intro hl_ wd hSd
    refine todo_pure hl_ (by kernel_rfl) rfl (gw0 rfl) rfl rfl rfl (fun a w_ hF => r_field fo35_1 (hF.ev rfl)) ?_
    refine todo_load [10, 11, 12] hl_ (by kernel_rfl) rfl (gw0 rfl) rfl rfl rfl (fun a w_ hF hB_ => r_load1 sc25 (hF.ev rfl) ((hSd.ext hB_).box (i := 1) rfl rfl)) ?_
    refine todo_pure hl_ (by kernel_rfl) rfl (gw0 rfl) rfl rfl rfl (fun a w_ hF => r_field fo35_1 (hF.ev rfl)) ?_
    refine todo_load [6, 7, 8, 9, 10, 11, 12] hl_ (by kernel_rfl) rfl (gw0 rfl) rfl rfl rfl (fun a w_ hF hB_ => r_load1 sc25 (hF.ev rfl) ((hSd.ext hB_).box (i := 5) rfl rfl)) ?_
    refine todo_pure hl_ (by kernel_rfl) rfl (gw0 rfl) rfl rfl rfl (fun a w_ hF => r_move (hF.ev rfl)) ?_
    obtain ⟨g23, o23, m23, q23, cs23, hv23, hm23, hl23, hk23, hz23, hc23⟩ := Rd.idx (r1) hx
    obtain ⟨v23, rfl, hr23⟩ := hk23; obtain ⟨Ae23, qe23, rfl, _, hme23⟩ := hr23.sl; unfold maxLen at hme23
    refine todo_pure hl_ (by kernel_rfl) rfl (gw0 rfl) rfl rfl rfl (fun a w_ hF => r_index sl25 ((hF.ev rfl).trans hv23) (hF.ev rfl) (by omega) (by omega)) ?_
    refine todo_load [8, 9, 10, 11, 12] hl_ (by kernel_rfl) rfl (gw0 rfl) rfl rfl rfl (fun a w_ hF hB_ => r_load1 sc24 (hF.ev rfl) (cellB (hSd.ext hB_).old (hc23 0 _ rfl))) ?_
    refine todo_op hl_ rfl (by kernel_rfl) rfl rfl rfl rfl rfl (fun a w_ hF hS => r_bslice intEK [] [] rfl mk24 rfl trivial rfl rfl rfl rfl) ?_; intro gl_19
    refine todo_op hl_ rfl (by kernel_rfl) rfl rfl rfl rfl rfl (fun a w_ hF hS => r_append0 (hS.rd hr23) mk24 rfl (by omega) (by unfold maxLen; omega) (hF.ev rfl) (hF.ev rfl)) ?_; intro s25
    refine todo_op hl_ rfl (by kernel_rfl) rfl rfl rfl rfl rfl (fun a w_ hF hS => r_bslice (rawEK 1) [sv s25] [raw (sliceEK intEK) (at0 m.snapshots (k : Int)) [s25]] rfl mk25 rfl ⟨rfl, (hF.ev rfl), trivial⟩ rfl rfl rfl rfl) ?_; intro gl_26
    refine todo_fin hl_ rfl (by kernel_rfl) (tl := [_, _, _]) rfl ?_; clear hS a; intro a w11 hF hA_
    have hS := hA_.sep; clear hA_
    clear hl_; try clear hSd
    try dsimp only [List.cons_append, List.nil_append, List.set] at hS
    try clear wd
    have hu_ := hS.own_rd (i := 0) rfl
    replace hS := hS.pull (p := 1) rfl; dsimp only [List.eraseIdx] at hS
    replace hS := hS.own_part (s := (_, _, _))
    replace hS := hS.pull (p := 3) rfl; dsimp only [List.eraseIdx] at hS
    refine wl_appendn (ek := (sliceEK intEK)) hF hS rfl hu_ mk25 rfl (hF.ev rfl) (hF.ev rfl) (by simp; omega) (by unfold maxLen; simp; omega) ?_; clear hF a hu_; intro A_27 c_27 w12 a hS_ hF; replace hS := hS_; clear hS_
    refine wl hF rfl rfl rfl (r_field fo35_1 (hF.ev rfl)) ?_; clear hF a; intro a hF
    refine wl_store hF hS (i := 3) rfl sz25 (hF.ev rfl) (hF.ev rfl) rfl rfl ?_; intro w13 hS_; replace hS := hS_; clear hS_; dsimp only [List.set, Nat.reduceAdd] at hS
    refine wl_nil ⟨rfl, ?_⟩
    simp only [Exit.then, Exit.inBlock, ↓reduceIte]
    refine hK7 _ _ ?_
    refine wp_region_lit ?_
    refine wl_mvs (A := [_]) hF rfl ?_; clear hF a; intro a hF
    refine wl hF rfl rfl rfl (r_add (hF.ev rfl) ec) ?_; clear hF a; intro a hF
    refine wl_mvs (A := [_]) hF rfl ?_; clear hF a; intro a hF
    refine wl_nil ?_
    try simp only [Exit.then, Exit.inBlock, ↓reduceIte]
    rw [← take_at0 (by omega)] at hS
    refine ⟨(k + 1, (A_27, _, c_27)), (by dsimp only; omega), (hS.pick [0, 3, 4, 5, 6, 7] (by decide) rfl), ((((hF.nil.keep hF (t := 3) rfl).keep hF (t := 2) rfl).keep hF (t := 1) rfl).keepE hF (t := 4) rfl (wk (by omega))), by dsimp only; omega⟩
  refine wp_exit ?_
  simp only [Exit.then, Exit.inBlock, ↓reduceIte]
  refine hK3 _ _ ?_
  refine ws fun K8 hK8 => ?_
  refine wl hF rfl rfl rfl (r_loadn ag35 (hF.ev rfl) (hS.box_rd (i := 1) rfl) sz35) ?_; clear hF a; intro a hF
  refine wl_storew hF hS (i := 4) rfl (hF.ev rfl) (hF.ev rfl) sz35 rfl rfl ?_; intro w14 hS_; replace hS := hS_; clear hS_; dsimp only [List.set, Nat.reduceAdd] at hS
  refine wl_nil (hK8 _ _ ?_)
  refine wp_ret ?_
  try simp only [Exit.then, Exit.inBlock, ↓reduceIte]
  obtain rfl : k = m.snapshots.length := by omega
  rw [List.take_length] at hS
  exact ret1c rfl ag35 hF hS (i := 4) rfl sz35 rfl ⟨(s8, q), rfl, hS.pick [2, 0] (by decide) rfl⟩

set_option maxHeartbeats 4000000 in
set_option maxRecDepth 20000 in
theorem implCopyM_c {W : World} {m : Model} {cs : List Value} (hm : modelEK.K W m cs) (hz : m.size ≤ 1048576) : Calls Try.prog 50 #[.agg cs.toArray] W (Ret (Mk W (fun s : Slv × Slv => .agg #[sv s.1, sv s.2]) (fun s => [Own intEK (sv s.1) m.values, Own (sliceEK intEK) (sv s.2) m.snapshots]))) := by
  refine calls_fr Try.func50 rfl Try.ntmps50 rfl ?_
  intro a hF
  have hS := Sep.refl W
  obtain ⟨v0, v1, rfl, r0, r1⟩ := hm
  obtain ⟨A_x, q_x, rfl, hq_x, hn_x⟩ := r0.sl; unfold maxLen at hn_x
  obtain ⟨A_y, q_y, rfl, hq_y, hn_y⟩ := r1.sl; unfold maxLen at hn_y
  unfold Model.size at hz
  refine ws fun K1 hK1 => ?_
  refine wl_box (cs := [_, _]) hF hS rfl (hF.ev rfl) rfl ?_; clear hF a; intro g1 w1 a hS_ hB_ hF; replace hS := hS_; clear hS_ hB_
  refine wl_alloc hF hS rfl zr35 ?_; clear hF a; intro g2 w2 a hS_ hB_ hF; replace hS := hS_; clear hS_ hB_
  refine wl_nil (hK1 _ _ ?_)
  refine ws fun K2 hK2 => ?_
  refine wl hF rfl rfl rfl (r_field fo35_0 (hF.ev rfl)) ?_; clear hF a; intro a hF
  refine wl hF rfl rfl rfl (r_load1 sc24 (hF.ev rfl) (hS.box (i := 1) rfl rfl)) ?_; clear hF a; intro a hF
  refine wl_mk hF hS rfl rfl rfl (r_call1 en70 (hF.ev rfl)) (cloneI_c (hS.rd r0) (by omega)) ?_; clear hF a; rintro s8 w3 a hS_ hF; replace hS := hS_; clear hS_; dsimp only [List.cons_append, List.nil_append] at hS
  have hln8 := hS.own_len (q := 0) rfl
  refine wl hF rfl rfl rfl (r_build (bd35_0 _ _ _) ⟨rfl, (hF.ev rfl), trivial⟩) ?_; clear hF a; intro a hF
  refine wl_alloc hF hS rfl zr35 ?_; clear hF a; intro g3 w4 a hS_ hB_ hF; replace hS := hS_; clear hS_ hB_
  refine wl_storew hF hS (i := 0) rfl (hF.ev rfl) (hF.ev rfl) sz35 rfl rfl ?_; intro w5 hS_; replace hS := hS_; clear hS_; dsimp only [List.set, Nat.reduceAdd] at hS
  refine wl_nil (hK2 _ _ ?_)
  refine wp_seq_k fun K3 hK3 => ?_
  refine ws fun K4 hK4 => ?_
  refine wl hF rfl rfl rfl (r_field fo35_1 (hF.ev rfl)) ?_; clear hF a; intro a hF
  refine wl hF rfl rfl rfl (r_load1 sc25 (hF.ev rfl) (hS.box (i := 3) rfl rfl)) ?_; clear hF a; intro a hF
  refine wl hF rfl rfl rfl (r_len ul25 (hF.ev rfl)) ?_; clear hF a; intro a hF
  refine wl_mvs (A := [_]) hF rfl ?_; clear hF a; intro a hF
  refine wl_nil (hK4 _ _ ?_)
  refine wp_block ?_
  replace hS := hS.own_nil (sliceEK intEK)
  replace hS := hS.pull (p := 1) rfl; dsimp only [List.eraseIdx] at hS
  replace hS := hS.pull (p := 1) rfl; dsimp only [List.eraseIdx] at hS
  have hL_ := ((((hF.nil.keep hF (t := 12) rfl).keep hF (t := 11) rfl).keep hF (t := 3) rfl).keep hF (t := 2) rfl)
  refine wp_loop_m (σ := Nat × Slv) (fun s L_ => (13, vi s.1) :: L_) (fun s l_ => (Own (sliceEK intEK) (sv s.2) (m.snapshots.take s.1)) :: (Box g3 [sv s8, sv s.2]) :: l_) (fun s => (s.1 ≤ m.snapshots.length)) (fun s => m.snapshots.length - s.1) (0, (none, 0, 0)) (hS) (hL_.keepE hF (t := 13) rfl rfl) ?_ ?_
  · exact Nat.zero_le _
  clear hF hS hL_ a
  rintro ⟨k, q⟩ a w6 hk hS hF; try dsimp only at hF; try dsimp only at hS; try dsimp only at hk
  refine ws fun K5 hK5 => ?_
  refine wl hF rfl rfl rfl (r_lss (hF.ev rfl) (hF.ev rfl)) ?_; clear hF a; intro a hF
  refine wl_nil (hK5 _ _ ?_)
  refine wp_seq_k fun K6 hK6 => ?_
  refine wc_fx (t := 14) hF rfl ?_ ?_ <;> clear hF <;> intro c14 hF <;> try simp only [zb1, zb2, zb3, zb4, zb5, zb6, zb7, zb8] at c14
  ·
    have hlt : k < m.snapshots.length := by omega
    have hx := at0_nat hlt
    have hc1 := crow_le1 (c := List.length) hx
    refine wp_skip ?_
    refine hK6 _ _ ?_
    refine wp_seq_k fun K7 hK7 => ?_
    refine wp_block ?_
    refine ws fun K8 hK8 => ?_
    obtain ⟨g15, o15, m15, q15, cs15, hv15, hm15, hl15, hk15, hz15, hc15⟩ := Rd.at (r1) (a := a) (X := .tmp 13) (hF.ev rfl) (by omega) (by omega)
    obtain ⟨v15, rfl, hr15⟩ := hk15; obtain ⟨Ae15, qe15, rfl, _, hme15⟩ := hr15.sl; unfold maxLen at hme15
    refine wl hF rfl rfl rfl (r_index sl25 ((hF.ev rfl).trans hv15) (hF.ev rfl) (by omega) (by first | omega | (simp at hm15; omega))) ?_; clear hF a; intro a hF
    refine wl hF rfl rfl rfl (r_load1 sc24 (hF.ev rfl) (cellB hS.old (hc15 0 _ rfl))) ?_; clear hF a; intro a hF
    refine wl_mvs (A := [_]) hF rfl ?_; clear hF a; intro a hF
    refine wl_nil (hK8 _ _ ?_)
    refine wp_region_todo (is := [0, 1, 2, 3, 4, 5, 6, 7]) [] [5, 6, 7] (by kernel_rfl) hF hS ⟨trivial, by decide, by decide, by decide⟩ (by kernel_rfl) ?_; clear hF; intro hl_ wd hSd
    refine todo_pure hl_ (by kernel_rfl) rfl (gw0 rfl) rfl rfl rfl (fun a w_ hF => r_field fo35_1 (hF.ev rfl)) ?_
    refine todo_load [5, 6, 7] hl_ (by kernel_rfl) rfl (gw0 rfl) rfl rfl rfl (fun a w_ hF hB_ => r_load1 sc25 (hF.ev rfl) ((hSd.ext hB_).box (i := 1) rfl rfl)) ?_
    refine todo_pure hl_ (by kernel_rfl) rfl (gw0 rfl) rfl rfl rfl (fun a w_ hF => r_move (hF.ev rfl)) ?_
    refine todo_mk hl_ rfl (by kernel_rfl) rfl rfl rfl rfl rfl (fun a w_ hF => r_call1 en70 (hF.ev rfl)) (fun w_ hS => cloneI_c (hS.rd hr15) (by omega)) ?_; rintro s20
    refine todo_op hl_ rfl (by kernel_rfl) rfl rfl rfl rfl rfl (fun a w_ hF hS => r_bslice (rawEK 1) [sv s20] [raw (sliceEK intEK) (at0 m.snapshots (k : Int)) [s20]] rfl mk25 rfl ⟨rfl, (hF.ev rfl), trivial⟩ rfl rfl rfl rfl) ?_; intro gl_21
    refine todo_fin hl_ rfl (by kernel_rfl) (tl := [_, _, _]) rfl ?_; clear hS a; intro a w8 hF hA_
    have hS := hA_.sep; clear hA_
    clear hl_; try clear hSd
    try dsimp only [List.cons_append, List.nil_append, List.set] at hS
    try clear wd
    have hu_ := hS.own_rd (i := 0) rfl
    replace hS := hS.pull (p := 1) rfl; dsimp only [List.eraseIdx] at hS
    replace hS := hS.own_part (s := (_, _, _))
    replace hS := hS.pull (p := 2) rfl; dsimp only [List.eraseIdx] at hS
    refine wl_appendn (ek := (sliceEK intEK)) hF hS rfl hu_ mk25 rfl (hF.ev rfl) (hF.ev rfl) (by simp; omega) (by unfold maxLen; simp; omega) ?_; clear hF a hu_; intro A_22 c_22 w9 a hS_ hF; replace hS := hS_; clear hS_
    refine wl hF rfl rfl rfl (r_field fo35_1 (hF.ev rfl)) ?_; clear hF a; intro a hF
    refine wl_store hF hS (i := 2) rfl sz25 (hF.ev rfl) (hF.ev rfl) rfl rfl ?_; intro w10 hS_; replace hS := hS_; clear hS_; dsimp only [List.set, Nat.reduceAdd] at hS
    refine wl_nil ⟨rfl, ?_⟩
    simp only [Exit.then, Exit.inBlock, ↓reduceIte]
    refine hK7 _ _ ?_
    refine wp_region_lit ?_
    refine wl hF rfl rfl rfl (r_add (hF.ev rfl) ec) ?_; clear hF a; intro a hF
    refine wl_mvs (A := [_]) hF rfl ?_; clear hF a; intro a hF
    refine wl_nil ?_
    try simp only [Exit.then, Exit.inBlock, ↓reduceIte]
    rw [← take_at0 (by omega)] at hS
    refine ⟨(k + 1, (A_22, _, c_22)), (by dsimp only; omega), (hS.pick [0, 2, 3, 4, 5] (by decide) rfl), (((((hF.nil.keep hF (t := 12) rfl).keep hF (t := 11) rfl).keep hF (t := 3) rfl).keep hF (t := 2) rfl).keepE hF (t := 13) rfl (wk (by omega))), by dsimp only; omega⟩
  refine wp_exit ?_
  simp only [Exit.then, Exit.inBlock, ↓reduceIte]
  refine hK3 _ _ ?_
  refine ws fun K9 hK9 => ?_
  refine wl hF rfl rfl rfl (r_loadn ag35 (hF.ev rfl) (hS.box_rd (i := 1) rfl) sz35) ?_; clear hF a; intro a hF
  refine wl_storew hF hS (i := 3) rfl (hF.ev rfl) (hF.ev rfl) sz35 rfl rfl ?_; intro w11 hS_; replace hS := hS_; clear hS_; dsimp only [List.set, Nat.reduceAdd] at hS
  refine wl_nil (hK9 _ _ ?_)
  refine wp_ret ?_
  try simp only [Exit.then, Exit.inBlock, ↓reduceIte]
  obtain rfl : k = m.snapshots.length := by omega
  rw [List.take_length] at hS
  exact ret1c rfl ag35 hF hS (i := 3) rfl sz35 rfl ⟨(s8, q), rfl, hS.pick [2, 0] (by decide) rfl⟩

set_option maxHeartbeats 4000000 in
set_option maxRecDepth 20000 in
theorem specIsOp_c {W : World} (o : Sl.Op) : Calls Try.prog 39 #[.agg o.enc.toArray] W (Ret fun v w' => v = .bool (decide o.ok) ∧ Below W.heap.size W w') := by
  refine calls_fr Try.func39 rfl Try.ntmps39 rfl ?_
  intro a hF
  have hS := Sep.refl W
  refine ws fun K1 hK1 => ?_
  refine wl_box (cs := [_, _, _]) hF hS rfl (hF.ev rfl) rfl ?_; clear hF a; intro g1 w1 a hS_ hB_ hF; replace hS := hS_; clear hS_ hB_
  refine wl_mvs (A := [_]) hF rfl ?_; clear hF a; intro a hF
  refine wl_nil (hK1 _ _ ?_)
  refine wp_seq_k fun K2 hK2 => ?_
  refine ws fun K3 hK3 => ?_
  refine wl hF rfl rfl rfl (r_field fo41_0 (hF.ev rfl)) ?_; clear hF a; intro a hF
  refine wl hF rfl rfl rfl (r_load1 sc3 (hF.ev rfl) (hS.box (i := 0) rfl rfl)) ?_; clear hF a; intro a hF
  refine wl_nil (hK3 _ _ ?_)
  refine wp_block ?_
  refine wp_seq_k fun K4 hK4 => ?_
  refine ws fun K5 hK5 => ?_
  refine wl hF rfl rfl rfl (r_eql (hF.ev rfl) ec) ?_; clear hF a; intro a hF
  refine wl_mvs (A := [_]) hF rfl ?_; clear hF a; intro a hF
  refine wl_nil (hK5 _ _ ?_)
  refine wc_fx (t := 5) hF rfl ?_ ?_ <;> clear hF <;> intro c5 hF <;> try simp only [zb1, zb2, zb3, zb4, zb5, zb6, zb7, zb8] at c5
  ·
    refine wp_skip ?_
    refine hK4 _ _ ?_
    refine wc_true (hF.ev rfl) ?_
    refine ws fun K6 hK6 => ?_
    refine wl hF rfl rfl rfl (r_field fo41_1 (hF.ev rfl)) ?_; clear hF a; intro a hF
    refine wl hF rfl rfl rfl (r_load1 sc3 (hF.ev rfl) (hS.box (i := 0) rfl rfl)) ?_; clear hF a; intro a hF
    refine wl hF rfl rfl rfl (r_eql (hF.ev rfl) ec) ?_; clear hF a; intro a hF
    refine wl_mvs (A := [_]) hF rfl ?_; clear hF a; intro a hF
    apply wl_and (A := [_, _, _, _]) (pk := 16) hF hS (tc := 12) rfl
    ·
      intro hg12 a hF; try simp only [zb1, zb2, zb3, zb4, zb5, zb6, zb7, zb8] at hg12
      refine wl_take hF rfl rfl rfl rfl ?_
      refine wl hF rfl rfl rfl (r_field fo41_2 (hF.ev rfl)) ?_; clear hF a; intro a hF
      refine wl_take hF rfl rfl rfl rfl ?_
      refine wl hF rfl rfl rfl (r_load1 sc3 (hF.ev rfl) (hS.box (i := 0) rfl rfl)) ?_; clear hF a; intro a hF
      refine wl_take hF rfl rfl rfl rfl ?_
      refine wl hF rfl rfl rfl (r_eql (hF.ev rfl) ec) ?_; clear hF a; intro a hF
      refine wl hF rfl rfl rfl (r_pick_t (hF.ev rfl) (hF.ev rfl)) ?_; clear hF a; intro a hF
      exact wl_nil ⟨rfl, (Fr.pre (A := [_, _, _, _]) hF rfl).keep hF (t := 16) rfl, hS⟩
    ·
      intro hg12 a hF; try simp only [zb1, zb2, zb3, zb4, zb5, zb6, zb7, zb8] at hg12
      refine wl_mvs (A := [_, _, _]) hF rfl ?_; clear hF a; intro a hF
      refine wl hF rfl rfl rfl (r_pick_f (hF.ev rfl) ec) ?_; clear hF a; intro a hF
      exact wl_nil ⟨rfl, (Fr.pre (A := [_, _, _, _]) hF rfl).keep hF (t := 16) rfl, hS⟩
    clear hF a hS; intro a w2 hF hS
    refine wl_mvs (A := [_]) hF rfl ?_; clear hF a; intro a hF
    refine wl_nil (hK6 _ _ ?_)
    refine wp_ret ?_
    try simp only [Exit.then, Exit.inBlock, ↓reduceIte]
    refine ret1 rfl hF rfl ⟨congrArg Value.bool (Bool.eq_iff_iff.2 ?_), hS.old⟩
    simp only [Bool.false_eq_true, Bool.true_eq_false, Bool.and_eq_true, Bool.or_eq_true, Bool.not_eq_true', decide_eq_true_eq, decide_eq_false_iff_not, iff_true, true_iff, false_iff, iff_false]
    unfold Sl.Op.ok
    omega
  refine ws fun K7 hK7 => ?_
  refine wl hF rfl rfl rfl (r_eql (hF.ev rfl) ec) ?_; clear hF a; intro a hF
  refine wl_mvs (A := [_]) hF rfl ?_; clear hF a; intro a hF
  refine wl_nil (hK7 _ _ ?_)
  refine wc_fx (t := 5) hF rfl ?_ ?_ <;> clear hF <;> intro c5 hF <;> try simp only [zb1, zb2, zb3, zb4, zb5, zb6, zb7, zb8] at c5
  ·
    refine wp_skip ?_
    refine hK4 _ _ ?_
    refine wc_true (hF.ev rfl) ?_
    refine ws fun K8 hK8 => ?_
    refine wl hF rfl rfl rfl (r_field fo41_1 (hF.ev rfl)) ?_; clear hF a; intro a hF
    refine wl hF rfl rfl rfl (r_load1 sc3 (hF.ev rfl) (hS.box (i := 0) rfl rfl)) ?_; clear hF a; intro a hF
    refine wl hF rfl rfl rfl (r_eql (hF.ev rfl) ec) ?_; clear hF a; intro a hF
    refine wl_mvs (A := [_]) hF rfl ?_; clear hF a; intro a hF
    apply wl_and (A := [_, _, _, _]) (pk := 16) hF hS (tc := 12) rfl
    ·
      intro hg12 a hF; try simp only [zb1, zb2, zb3, zb4, zb5, zb6, zb7, zb8] at hg12
      refine wl_take hF rfl rfl rfl rfl ?_
      refine wl hF rfl rfl rfl (r_field fo41_2 (hF.ev rfl)) ?_; clear hF a; intro a hF
      refine wl_take hF rfl rfl rfl rfl ?_
      refine wl hF rfl rfl rfl (r_load1 sc3 (hF.ev rfl) (hS.box (i := 0) rfl rfl)) ?_; clear hF a; intro a hF
      refine wl_take hF rfl rfl rfl rfl ?_
      refine wl hF rfl rfl rfl (r_eql (hF.ev rfl) ec) ?_; clear hF a; intro a hF
      refine wl hF rfl rfl rfl (r_pick_t (hF.ev rfl) (hF.ev rfl)) ?_; clear hF a; intro a hF
      exact wl_nil ⟨rfl, (Fr.pre (A := [_, _, _, _]) hF rfl).keep hF (t := 16) rfl, hS⟩
    ·
      intro hg12 a hF; try simp only [zb1, zb2, zb3, zb4, zb5, zb6, zb7, zb8] at hg12
      refine wl_mvs (A := [_, _, _]) hF rfl ?_; clear hF a; intro a hF
      refine wl hF rfl rfl rfl (r_pick_f (hF.ev rfl) ec) ?_; clear hF a; intro a hF
      exact wl_nil ⟨rfl, (Fr.pre (A := [_, _, _, _]) hF rfl).keep hF (t := 16) rfl, hS⟩
    clear hF a hS; intro a w3 hF hS
    refine wl_mvs (A := [_]) hF rfl ?_; clear hF a; intro a hF
    refine wl_nil (hK8 _ _ ?_)
    refine wp_ret ?_
    try simp only [Exit.then, Exit.inBlock, ↓reduceIte]
    refine ret1 rfl hF rfl ⟨congrArg Value.bool (Bool.eq_iff_iff.2 ?_), hS.old⟩
    simp only [Bool.false_eq_true, Bool.true_eq_false, Bool.and_eq_true, Bool.or_eq_true, Bool.not_eq_true', decide_eq_true_eq, decide_eq_false_iff_not, iff_true, true_iff, false_iff, iff_false]
    unfold Sl.Op.ok
    omega
  refine wp_region_lit ?_
  refine wl hF rfl rfl rfl (r_eql (hF.ev rfl) ec) ?_; clear hF a; intro a hF
  refine wl_mvs (A := [_]) hF rfl ?_; clear hF a; intro a hF
  refine wl_nil (hK4 _ _ ?_)
  refine wc_fx (t := 5) hF rfl ?_ ?_ <;> clear hF <;> intro c5 hF <;> try simp only [zb1, zb2, zb3, zb4, zb5, zb6, zb7, zb8] at c5
  ·
    refine ws fun K9 hK9 => ?_
    refine wl hF rfl rfl rfl (r_field fo41_1 (hF.ev rfl)) ?_; clear hF a; intro a hF
    refine wl hF rfl rfl rfl (r_load1 sc3 (hF.ev rfl) (hS.box (i := 0) rfl rfl)) ?_; clear hF a; intro a hF
    refine wl hF rfl rfl rfl (r_eql (hF.ev rfl) ec) ?_; clear hF a; intro a hF
    refine wl_mvs (A := [_]) hF rfl ?_; clear hF a; intro a hF
    apply wl_and (A := [_, _, _, _]) (pk := 16) hF hS (tc := 12) rfl
    ·
      intro hg12 a hF; try simp only [zb1, zb2, zb3, zb4, zb5, zb6, zb7, zb8] at hg12
      refine wl_take hF rfl rfl rfl rfl ?_
      refine wl hF rfl rfl rfl (r_field fo41_2 (hF.ev rfl)) ?_; clear hF a; intro a hF
      refine wl_take hF rfl rfl rfl rfl ?_
      refine wl hF rfl rfl rfl (r_load1 sc3 (hF.ev rfl) (hS.box (i := 0) rfl rfl)) ?_; clear hF a; intro a hF
      refine wl_take hF rfl rfl rfl rfl ?_
      refine wl hF rfl rfl rfl (r_eql (hF.ev rfl) ec) ?_; clear hF a; intro a hF
      refine wl hF rfl rfl rfl (r_pick_t (hF.ev rfl) (hF.ev rfl)) ?_; clear hF a; intro a hF
      exact wl_nil ⟨rfl, (Fr.pre (A := [_, _, _, _]) hF rfl).keep hF (t := 16) rfl, hS⟩
    ·
      intro hg12 a hF; try simp only [zb1, zb2, zb3, zb4, zb5, zb6, zb7, zb8] at hg12
      refine wl_mvs (A := [_, _, _]) hF rfl ?_; clear hF a; intro a hF
      refine wl hF rfl rfl rfl (r_pick_f (hF.ev rfl) ec) ?_; clear hF a; intro a hF
      exact wl_nil ⟨rfl, (Fr.pre (A := [_, _, _, _]) hF rfl).keep hF (t := 16) rfl, hS⟩
    clear hF a hS; intro a w4 hF hS
    refine wl_mvs (A := [_]) hF rfl ?_; clear hF a; intro a hF
    refine wl_nil (hK9 _ _ ?_)
    refine wp_ret ?_
    try simp only [Exit.then, Exit.inBlock, ↓reduceIte]
    refine ret1 rfl hF rfl ⟨congrArg Value.bool (Bool.eq_iff_iff.2 ?_), hS.old⟩
    simp only [Bool.false_eq_true, Bool.true_eq_false, Bool.and_eq_true, Bool.or_eq_true, Bool.not_eq_true', decide_eq_true_eq, decide_eq_false_iff_not, iff_true, true_iff, false_iff, iff_false]
    unfold Sl.Op.ok
    omega
  refine ws fun K10 hK10 => ?_
  refine wl hF rfl rfl rfl (r_eql (hF.ev rfl) ec) ?_; clear hF a; intro a hF
  refine wl_mvs (A := [_]) hF rfl ?_; clear hF a; intro a hF
  refine wl_nil (hK10 _ _ ?_)
  refine wc_fx (t := 17) hF rfl ?_ ?_ <;> clear hF <;> intro c17 hF <;> try simp only [zb1, zb2, zb3, zb4, zb5, zb6, zb7, zb8] at c17
  ·
    refine ws fun K11 hK11 => ?_
    refine wl hF rfl rfl rfl (r_field fo41_1 (hF.ev rfl)) ?_; clear hF a; intro a hF
    refine wl hF rfl rfl rfl (r_load1 sc3 (hF.ev rfl) (hS.box (i := 0) rfl rfl)) ?_; clear hF a; intro a hF
    refine wl_call hF rfl rfl rfl (r_call3 en44 (hF.ev rfl) ec ec) (l1In_c _ _ _) ?_; clear hF a; rintro v w5 a ⟨rfl, hB_⟩ hF; replace hS := hS.ext hB_; clear hB_
    refine wl_mvs (A := [_]) hF rfl ?_; clear hF a; intro a hF
    apply wl_and (A := [_, _, _, _]) (pk := 26) hF hS (tc := 22) rfl
    ·
      intro hg22 a hF; try simp only [zb1, zb2, zb3, zb4, zb5, zb6, zb7, zb8] at hg22
      refine wl_take hF rfl rfl rfl rfl ?_
      refine wl hF rfl rfl rfl (r_field fo41_2 (hF.ev rfl)) ?_; clear hF a; intro a hF
      refine wl_take hF rfl rfl rfl rfl ?_
      refine wl hF rfl rfl rfl (r_load1 sc3 (hF.ev rfl) (hS.box (i := 0) rfl rfl)) ?_; clear hF a; intro a hF
      refine wl_take hF rfl rfl rfl rfl ?_
      refine wl hF rfl rfl rfl (r_eql (hF.ev rfl) ec) ?_; clear hF a; intro a hF
      refine wl hF rfl rfl rfl (r_pick_t (hF.ev rfl) (hF.ev rfl)) ?_; clear hF a; intro a hF
      exact wl_nil ⟨rfl, (Fr.pre (A := [_, _, _, _]) hF rfl).keep hF (t := 26) rfl, hS⟩
    ·
      intro hg22 a hF; try simp only [zb1, zb2, zb3, zb4, zb5, zb6, zb7, zb8] at hg22
      refine wl_mvs (A := [_, _, _]) hF rfl ?_; clear hF a; intro a hF
      refine wl hF rfl rfl rfl (r_pick_f (hF.ev rfl) ec) ?_; clear hF a; intro a hF
      exact wl_nil ⟨rfl, (Fr.pre (A := [_, _, _, _]) hF rfl).keep hF (t := 26) rfl, hS⟩
    clear hF a hS; intro a w6 hF hS
    refine wl_mvs (A := [_]) hF rfl ?_; clear hF a; intro a hF
    refine wl_nil (hK11 _ _ ?_)
    refine wp_ret ?_
    try simp only [Exit.then, Exit.inBlock, ↓reduceIte]
    refine ret1 rfl hF rfl ⟨congrArg Value.bool (Bool.eq_iff_iff.2 ?_), hS.old⟩
    simp only [Bool.false_eq_true, Bool.true_eq_false, Bool.and_eq_true, Bool.or_eq_true, Bool.not_eq_true', decide_eq_true_eq, decide_eq_false_iff_not, iff_true, true_iff, false_iff, iff_false]
    unfold Sl.Op.ok
    omega
  refine ws fun K12 hK12 => ?_
  refine wl hF rfl rfl rfl (r_eql (hF.ev rfl) ec) ?_; clear hF a; intro a hF
  refine wl_mvs (A := [_]) hF rfl ?_; clear hF a; intro a hF
  refine wl_nil (hK12 _ _ ?_)
  refine wc_fx (t := 27) hF rfl ?_ ?_ <;> clear hF <;> intro c27 hF <;> try simp only [zb1, zb2, zb3, zb4, zb5, zb6, zb7, zb8] at c27
  ·
    refine ws fun K13 hK13 => ?_
    refine wl hF rfl rfl rfl (r_field fo41_1 (hF.ev rfl)) ?_; clear hF a; intro a hF
    refine wl hF rfl rfl rfl (r_load1 sc3 (hF.ev rfl) (hS.box (i := 0) rfl rfl)) ?_; clear hF a; intro a hF
    refine wl_call hF rfl rfl rfl (r_call3 en44 (hF.ev rfl) ec ec) (l1In_c _ _ _) ?_; clear hF a; rintro v w7 a ⟨rfl, hB_⟩ hF; replace hS := hS.ext hB_; clear hB_
    refine wl_mvs (A := [_]) hF rfl ?_; clear hF a; intro a hF
    apply wl_and (A := [_, _, _, _]) (pk := 36) hF hS (tc := 32) rfl
    ·
      intro hg32 a hF; try simp only [zb1, zb2, zb3, zb4, zb5, zb6, zb7, zb8] at hg32
      refine wl_take hF rfl rfl rfl rfl ?_
      refine wl hF rfl rfl rfl (r_field fo41_2 (hF.ev rfl)) ?_; clear hF a; intro a hF
      refine wl_take hF rfl rfl rfl rfl ?_
      refine wl hF rfl rfl rfl (r_load1 sc3 (hF.ev rfl) (hS.box (i := 0) rfl rfl)) ?_; clear hF a; intro a hF
      refine wl_take hF rfl rfl rfl rfl ?_
      refine wl_call hF rfl rfl rfl (r_call3 en44 (hF.ev rfl) ec ec) (l1In_c _ _ _) ?_; clear hF a; rintro v w8 a ⟨rfl, hB_⟩ hF; replace hS := hS.ext hB_; clear hB_
      refine wl hF rfl rfl rfl (r_pick_t (hF.ev rfl) (hF.ev rfl)) ?_; clear hF a; intro a hF
      exact wl_nil ⟨rfl, (Fr.pre (A := [_, _, _, _]) hF rfl).keep hF (t := 36) rfl, hS⟩
    ·
      intro hg32 a hF; try simp only [zb1, zb2, zb3, zb4, zb5, zb6, zb7, zb8] at hg32
      refine wl_mvs (A := [_, _, _]) hF rfl ?_; clear hF a; intro a hF
      refine wl hF rfl rfl rfl (r_pick_f (hF.ev rfl) ec) ?_; clear hF a; intro a hF
      exact wl_nil ⟨rfl, (Fr.pre (A := [_, _, _, _]) hF rfl).keep hF (t := 36) rfl, hS⟩
    clear hF a hS; intro a w9 hF hS
    refine wl_mvs (A := [_]) hF rfl ?_; clear hF a; intro a hF
    refine wl_nil (hK13 _ _ ?_)
    refine wp_ret ?_
    try simp only [Exit.then, Exit.inBlock, ↓reduceIte]
    refine ret1 rfl hF rfl ⟨congrArg Value.bool (Bool.eq_iff_iff.2 ?_), hS.old⟩
    simp only [Bool.false_eq_true, Bool.true_eq_false, Bool.and_eq_true, Bool.or_eq_true, Bool.not_eq_true', decide_eq_true_eq, decide_eq_false_iff_not, iff_true, true_iff, false_iff, iff_false]
    unfold Sl.Op.ok
    omega
  refine wp_skip ?_
  simp only [Exit.then, Exit.inBlock, ↓reduceIte]
  refine hK2 _ _ ?_
  refine ws fun K14 hK14 => ?_
  refine wl_mvs (A := [_]) hF rfl ?_; clear hF a; intro a hF
  refine wl_nil (hK14 _ _ ?_)
  refine wp_ret ?_
  try simp only [Exit.then, Exit.inBlock, ↓reduceIte]
  refine ret1 rfl hF rfl ⟨congrArg Value.bool (Bool.eq_iff_iff.2 ?_), hS.old⟩
  simp only [Bool.false_eq_true, Bool.true_eq_false, Bool.and_eq_true, Bool.or_eq_true, Bool.not_eq_true', decide_eq_true_eq, decide_eq_false_iff_not, iff_true, true_iff, false_iff, iff_false]
  unfold Sl.Op.ok
  omega

set_option maxHeartbeats 4000000 in
set_option maxRecDepth 20000 in
theorem implIsOp_c {W : World} (o : Sl.Op) : Calls Try.prog 48 #[.agg o.enc.toArray] W (Ret fun v w' => v = .bool (decide o.ok) ∧ Below W.heap.size W w') := by
  refine calls_fr Try.func48 rfl Try.ntmps48 rfl ?_
  intro a hF
  have hS := Sep.refl W
  refine ws fun K1 hK1 => ?_
  refine wl_box (cs := [_, _, _]) hF hS rfl (hF.ev rfl) rfl ?_; clear hF a; intro g1 w1 a hS_ hB_ hF; replace hS := hS_; clear hS_ hB_
  refine wl_mvs (A := [_]) hF rfl ?_; clear hF a; intro a hF
  refine wl_nil (hK1 _ _ ?_)
  refine wp_seq_k fun K2 hK2 => ?_
  refine ws fun K3 hK3 => ?_
  refine wl hF rfl rfl rfl (r_field fo41_0 (hF.ev rfl)) ?_; clear hF a; intro a hF
  refine wl hF rfl rfl rfl (r_load1 sc3 (hF.ev rfl) (hS.box (i := 0) rfl rfl)) ?_; clear hF a; intro a hF
  refine wl_nil (hK3 _ _ ?_)
  refine wp_block ?_
  refine wp_seq_k fun K4 hK4 => ?_
  refine ws fun K5 hK5 => ?_
  refine wl hF rfl rfl rfl (r_eql (hF.ev rfl) ec) ?_; clear hF a; intro a hF
  refine wl_mvs (A := [_]) hF rfl ?_; clear hF a; intro a hF
  refine wl_nil (hK5 _ _ ?_)
  refine wc_fx (t := 5) hF rfl ?_ ?_ <;> clear hF <;> intro c5 hF <;> try simp only [zb1, zb2, zb3, zb4, zb5, zb6, zb7, zb8] at c5
  ·
    refine wp_skip ?_
    refine hK4 _ _ ?_
    refine wc_true (hF.ev rfl) ?_
    refine ws fun K6 hK6 => ?_
    refine wl hF rfl rfl rfl (r_field fo41_1 (hF.ev rfl)) ?_; clear hF a; intro a hF
    refine wl hF rfl rfl rfl (r_load1 sc3 (hF.ev rfl) (hS.box (i := 0) rfl rfl)) ?_; clear hF a; intro a hF
    refine wl hF rfl rfl rfl (r_eql (hF.ev rfl) ec) ?_; clear hF a; intro a hF
    refine wl_mvs (A := [_]) hF rfl ?_; clear hF a; intro a hF
    apply wl_and (A := [_, _, _, _]) (pk := 16) hF hS (tc := 12) rfl
    ·
      intro hg12 a hF; try simp only [zb1, zb2, zb3, zb4, zb5, zb6, zb7, zb8] at hg12
      refine wl_take hF rfl rfl rfl rfl ?_
      refine wl hF rfl rfl rfl (r_field fo41_2 (hF.ev rfl)) ?_; clear hF a; intro a hF
      refine wl_take hF rfl rfl rfl rfl ?_
      refine wl hF rfl rfl rfl (r_load1 sc3 (hF.ev rfl) (hS.box (i := 0) rfl rfl)) ?_; clear hF a; intro a hF
      refine wl_take hF rfl rfl rfl rfl ?_
      refine wl hF rfl rfl rfl (r_eql (hF.ev rfl) ec) ?_; clear hF a; intro a hF
      refine wl hF rfl rfl rfl (r_pick_t (hF.ev rfl) (hF.ev rfl)) ?_; clear hF a; intro a hF
      exact wl_nil ⟨rfl, (Fr.pre (A := [_, _, _, _]) hF rfl).keep hF (t := 16) rfl, hS⟩
    ·
      intro hg12 a hF; try simp only [zb1, zb2, zb3, zb4, zb5, zb6, zb7, zb8] at hg12
      refine wl_mvs (A := [_, _, _]) hF rfl ?_; clear hF a; intro a hF
      refine wl hF rfl rfl rfl (r_pick_f (hF.ev rfl) ec) ?_; clear hF a; intro a hF
      exact wl_nil ⟨rfl, (Fr.pre (A := [_, _, _, _]) hF rfl).keep hF (t := 16) rfl, hS⟩
    clear hF a hS; intro a w2 hF hS
    refine wl_mvs (A := [_]) hF rfl ?_; clear hF a; intro a hF
    refine wl_nil (hK6 _ _ ?_)
    refine wp_ret ?_
    try simp only [Exit.then, Exit.inBlock, ↓reduceIte]
    refine ret1 rfl hF rfl ⟨congrArg Value.bool (Bool.eq_iff_iff.2 ?_), hS.old⟩
    simp only [Bool.false_eq_true, Bool.true_eq_false, Bool.and_eq_true, Bool.or_eq_true, Bool.not_eq_true', decide_eq_true_eq, decide_eq_false_iff_not, iff_true, true_iff, false_iff, iff_false]
    unfold Sl.Op.ok
    omega
  refine ws fun K7 hK7 => ?_
  refine wl hF rfl rfl rfl (r_eql (hF.ev rfl) ec) ?_; clear hF a; intro a hF
  refine wl_mvs (A := [_]) hF rfl ?_; clear hF a; intro a hF
  refine wl_nil (hK7 _ _ ?_)
  refine wc_fx (t := 5) hF rfl ?_ ?_ <;> clear hF <;> intro c5 hF <;> try simp only [zb1, zb2, zb3, zb4, zb5, zb6, zb7, zb8] at c5
  ·
    refine wp_skip ?_
    refine hK4 _ _ ?_
    refine wc_true (hF.ev rfl) ?_
    refine ws fun K8 hK8 => ?_
    refine wl hF rfl rfl rfl (r_field fo41_1 (hF.ev rfl)) ?_; clear hF a; intro a hF
    refine wl hF rfl rfl rfl (r_load1 sc3 (hF.ev rfl) (hS.box (i := 0) rfl rfl)) ?_; clear hF a; intro a hF
    refine wl hF rfl rfl rfl (r_eql (hF.ev rfl) ec) ?_; clear hF a; intro a hF
    refine wl_mvs (A := [_]) hF rfl ?_; clear hF a; intro a hF
    apply wl_and (A := [_, _, _, _]) (pk := 16) hF hS (tc := 12) rfl
    ·
      intro hg12 a hF; try simp only [zb1, zb2, zb3, zb4, zb5, zb6, zb7, zb8] at hg12
      refine wl_take hF rfl rfl rfl rfl ?_
      refine wl hF rfl rfl rfl (r_field fo41_2 (hF.ev rfl)) ?_; clear hF a; intro a hF
      refine wl_take hF rfl rfl rfl rfl ?_
      refine wl hF rfl rfl rfl (r_load1 sc3 (hF.ev rfl) (hS.box (i := 0) rfl rfl)) ?_; clear hF a; intro a hF
      refine wl_take hF rfl rfl rfl rfl ?_
      refine wl hF rfl rfl rfl (r_eql (hF.ev rfl) ec) ?_; clear hF a; intro a hF
      refine wl hF rfl rfl rfl (r_pick_t (hF.ev rfl) (hF.ev rfl)) ?_; clear hF a; intro a hF
      exact wl_nil ⟨rfl, (Fr.pre (A := [_, _, _, _]) hF rfl).keep hF (t := 16) rfl, hS⟩
    ·
      intro hg12 a hF; try simp only [zb1, zb2, zb3, zb4, zb5, zb6, zb7, zb8] at hg12
      refine wl_mvs (A := [_, _, _]) hF rfl ?_; clear hF a; intro a hF
      refine wl hF rfl rfl rfl (r_pick_f (hF.ev rfl) ec) ?_; clear hF a; intro a hF
      exact wl_nil ⟨rfl, (Fr.pre (A := [_, _, _, _]) hF rfl).keep hF (t := 16) rfl, hS⟩
    clear hF a hS; intro a w3 hF hS
    refine wl_mvs (A := [_]) hF rfl ?_; clear hF a; intro a hF
    refine wl_nil (hK8 _ _ ?_)
    refine wp_ret ?_
    try simp only [Exit.then, Exit.inBlock, ↓reduceIte]
    refine ret1 rfl hF rfl ⟨congrArg Value.bool (Bool.eq_iff_iff.2 ?_), hS.old⟩
    simp only [Bool.false_eq_true, Bool.true_eq_false, Bool.and_eq_true, Bool.or_eq_true, Bool.not_eq_true', decide_eq_true_eq, decide_eq_false_iff_not, iff_true, true_iff, false_iff, iff_false]
    unfold Sl.Op.ok
    omega
  refine wp_region_lit ?_
  refine wl hF rfl rfl rfl (r_eql (hF.ev rfl) ec) ?_; clear hF a; intro a hF
  refine wl_mvs (A := [_]) hF rfl ?_; clear hF a; intro a hF
  refine wl_nil (hK4 _ _ ?_)
  refine wc_fx (t := 5) hF rfl ?_ ?_ <;> clear hF <;> intro c5 hF <;> try simp only [zb1, zb2, zb3, zb4, zb5, zb6, zb7, zb8] at c5
  ·
    refine ws fun K9 hK9 => ?_
    refine wl hF rfl rfl rfl (r_field fo41_1 (hF.ev rfl)) ?_; clear hF a; intro a hF
    refine wl hF rfl rfl rfl (r_load1 sc3 (hF.ev rfl) (hS.box (i := 0) rfl rfl)) ?_; clear hF a; intro a hF
    refine wl hF rfl rfl rfl (r_eql (hF.ev rfl) ec) ?_; clear hF a; intro a hF
    refine wl_mvs (A := [_]) hF rfl ?_; clear hF a; intro a hF
    apply wl_and (A := [_, _, _, _]) (pk := 16) hF hS (tc := 12) rfl
    ·
      intro hg12 a hF; try simp only [zb1, zb2, zb3, zb4, zb5, zb6, zb7, zb8] at hg12
      refine wl_take hF rfl rfl rfl rfl ?_
      refine wl hF rfl rfl rfl (r_field fo41_2 (hF.ev rfl)) ?_; clear hF a; intro a hF
      refine wl_take hF rfl rfl rfl rfl ?_
      refine wl hF rfl rfl rfl (r_load1 sc3 (hF.ev rfl) (hS.box (i := 0) rfl rfl)) ?_; clear hF a; intro a hF
      refine wl_take hF rfl rfl rfl rfl ?_
      refine wl hF rfl rfl rfl (r_eql (hF.ev rfl) ec) ?_; clear hF a; intro a hF
      refine wl hF rfl rfl rfl (r_pick_t (hF.ev rfl) (hF.ev rfl)) ?_; clear hF a; intro a hF
      exact wl_nil ⟨rfl, (Fr.pre (A := [_, _, _, _]) hF rfl).keep hF (t := 16) rfl, hS⟩
    ·
      intro hg12 a hF; try simp only [zb1, zb2, zb3, zb4, zb5, zb6, zb7, zb8] at hg12
      refine wl_mvs (A := [_, _, _]) hF rfl ?_; clear hF a; intro a hF
      refine wl hF rfl rfl rfl (r_pick_f (hF.ev rfl) ec) ?_; clear hF a; intro a hF
      exact wl_nil ⟨rfl, (Fr.pre (A := [_, _, _, _]) hF rfl).keep hF (t := 16) rfl, hS⟩
    clear hF a hS; intro a w4 hF hS
    refine wl_mvs (A := [_]) hF rfl ?_; clear hF a; intro a hF
    refine wl_nil (hK9 _ _ ?_)
    refine wp_ret ?_
    try simp only [Exit.then, Exit.inBlock, ↓reduceIte]
    refine ret1 rfl hF rfl ⟨congrArg Value.bool (Bool.eq_iff_iff.2 ?_), hS.old⟩
    simp only [Bool.false_eq_true, Bool.true_eq_false, Bool.and_eq_true, Bool.or_eq_true, Bool.not_eq_true', decide_eq_true_eq, decide_eq_false_iff_not, iff_true, true_iff, false_iff, iff_false]
    unfold Sl.Op.ok
    omega
  refine ws fun K10 hK10 => ?_
  refine wl hF rfl rfl rfl (r_eql (hF.ev rfl) ec) ?_; clear hF a; intro a hF
  refine wl_mvs (A := [_]) hF rfl ?_; clear hF a; intro a hF
  refine wl_nil (hK10 _ _ ?_)
  refine wc_fx (t := 17) hF rfl ?_ ?_ <;> clear hF <;> intro c17 hF <;> try simp only [zb1, zb2, zb3, zb4, zb5, zb6, zb7, zb8] at c17
  ·
    refine ws fun K11 hK11 => ?_
    refine wl hF rfl rfl rfl (r_field fo41_1 (hF.ev rfl)) ?_; clear hF a; intro a hF
    refine wl hF rfl rfl rfl (r_load1 sc3 (hF.ev rfl) (hS.box (i := 0) rfl rfl)) ?_; clear hF a; intro a hF
    refine wl_call hF rfl rfl rfl (r_call3 en49 (hF.ev rfl) ec ec) (in_c _ _ _) ?_; clear hF a; rintro v w5 a ⟨rfl, hB_⟩ hF; replace hS := hS.ext hB_; clear hB_
    refine wl_mvs (A := [_]) hF rfl ?_; clear hF a; intro a hF
    apply wl_and (A := [_, _, _, _]) (pk := 26) hF hS (tc := 22) rfl
    ·
      intro hg22 a hF; try simp only [zb1, zb2, zb3, zb4, zb5, zb6, zb7, zb8] at hg22
      refine wl_take hF rfl rfl rfl rfl ?_
      refine wl hF rfl rfl rfl (r_field fo41_2 (hF.ev rfl)) ?_; clear hF a; intro a hF
      refine wl_take hF rfl rfl rfl rfl ?_
      refine wl hF rfl rfl rfl (r_load1 sc3 (hF.ev rfl) (hS.box (i := 0) rfl rfl)) ?_; clear hF a; intro a hF
      refine wl_take hF rfl rfl rfl rfl ?_
      refine wl hF rfl rfl rfl (r_eql (hF.ev rfl) ec) ?_; clear hF a; intro a hF
      refine wl hF rfl rfl rfl (r_pick_t (hF.ev rfl) (hF.ev rfl)) ?_; clear hF a; intro a hF
      exact wl_nil ⟨rfl, (Fr.pre (A := [_, _, _, _]) hF rfl).keep hF (t := 26) rfl, hS⟩
    ·
      intro hg22 a hF; try simp only [zb1, zb2, zb3, zb4, zb5, zb6, zb7, zb8] at hg22
      refine wl_mvs (A := [_, _, _]) hF rfl ?_; clear hF a; intro a hF
      refine wl hF rfl rfl rfl (r_pick_f (hF.ev rfl) ec) ?_; clear hF a; intro a hF
      exact wl_nil ⟨rfl, (Fr.pre (A := [_, _, _, _]) hF rfl).keep hF (t := 26) rfl, hS⟩
    clear hF a hS; intro a w6 hF hS
    refine wl_mvs (A := [_]) hF rfl ?_; clear hF a; intro a hF
    refine wl_nil (hK11 _ _ ?_)
    refine wp_ret ?_
    try simp only [Exit.then, Exit.inBlock, ↓reduceIte]
    refine ret1 rfl hF rfl ⟨congrArg Value.bool (Bool.eq_iff_iff.2 ?_), hS.old⟩
    simp only [Bool.false_eq_true, Bool.true_eq_false, Bool.and_eq_true, Bool.or_eq_true, Bool.not_eq_true', decide_eq_true_eq, decide_eq_false_iff_not, iff_true, true_iff, false_iff, iff_false]
    unfold Sl.Op.ok
    omega
  refine ws fun K12 hK12 => ?_
  refine wl hF rfl rfl rfl (r_eql (hF.ev rfl) ec) ?_; clear hF a; intro a hF
  refine wl_mvs (A := [_]) hF rfl ?_; clear hF a; intro a hF
  refine wl_nil (hK12 _ _ ?_)
  refine wc_fx (t := 27) hF rfl ?_ ?_ <;> clear hF <;> intro c27 hF <;> try simp only [zb1, zb2, zb3, zb4, zb5, zb6, zb7, zb8] at c27
  ·
    refine ws fun K13 hK13 => ?_
    refine wl hF rfl rfl rfl (r_field fo41_1 (hF.ev rfl)) ?_; clear hF a; intro a hF
    refine wl hF rfl rfl rfl (r_load1 sc3 (hF.ev rfl) (hS.box (i := 0) rfl rfl)) ?_; clear hF a; intro a hF
    refine wl_call hF rfl rfl rfl (r_call3 en49 (hF.ev rfl) ec ec) (in_c _ _ _) ?_; clear hF a; rintro v w7 a ⟨rfl, hB_⟩ hF; replace hS := hS.ext hB_; clear hB_
    refine wl_mvs (A := [_]) hF rfl ?_; clear hF a; intro a hF
    apply wl_and (A := [_, _, _, _]) (pk := 36) hF hS (tc := 32) rfl
    ·
      intro hg32 a hF; try simp only [zb1, zb2, zb3, zb4, zb5, zb6, zb7, zb8] at hg32
      refine wl_take hF rfl rfl rfl rfl ?_
      refine wl hF rfl rfl rfl (r_field fo41_2 (hF.ev rfl)) ?_; clear hF a; intro a hF
      refine wl_take hF rfl rfl rfl rfl ?_
      refine wl hF rfl rfl rfl (r_load1 sc3 (hF.ev rfl) (hS.box (i := 0) rfl rfl)) ?_; clear hF a; intro a hF
      refine wl_take hF rfl rfl rfl rfl ?_
      refine wl_call hF rfl rfl rfl (r_call3 en49 (hF.ev rfl) ec ec) (in_c _ _ _) ?_; clear hF a; rintro v w8 a ⟨rfl, hB_⟩ hF; replace hS := hS.ext hB_; clear hB_
      refine wl hF rfl rfl rfl (r_pick_t (hF.ev rfl) (hF.ev rfl)) ?_; clear hF a; intro a hF
      exact wl_nil ⟨rfl, (Fr.pre (A := [_, _, _, _]) hF rfl).keep hF (t := 36) rfl, hS⟩
    ·
      intro hg32 a hF; try simp only [zb1, zb2, zb3, zb4, zb5, zb6, zb7, zb8] at hg32
      refine wl_mvs (A := [_, _, _]) hF rfl ?_; clear hF a; intro a hF
      refine wl hF rfl rfl rfl (r_pick_f (hF.ev rfl) ec) ?_; clear hF a; intro a hF
      exact wl_nil ⟨rfl, (Fr.pre (A := [_, _, _, _]) hF rfl).keep hF (t := 36) rfl, hS⟩
    clear hF a hS; intro a w9 hF hS
    refine wl_mvs (A := [_]) hF rfl ?_; clear hF a; intro a hF
    refine wl_nil (hK13 _ _ ?_)
    refine wp_ret ?_
    try simp only [Exit.then, Exit.inBlock, ↓reduceIte]
    refine ret1 rfl hF rfl ⟨congrArg Value.bool (Bool.eq_iff_iff.2 ?_), hS.old⟩
    simp only [Bool.false_eq_true, Bool.true_eq_false, Bool.and_eq_true, Bool.or_eq_true, Bool.not_eq_true', decide_eq_true_eq, decide_eq_false_iff_not, iff_true, true_iff, false_iff, iff_false]
    unfold Sl.Op.ok
    omega
  refine wp_skip ?_
  simp only [Exit.then, Exit.inBlock, ↓reduceIte]
  refine hK2 _ _ ?_
  refine ws fun K14 hK14 => ?_
  refine wl_mvs (A := [_]) hF rfl ?_; clear hF a; intro a hF
  refine wl_nil (hK14 _ _ ?_)
  refine wp_ret ?_
  try simp only [Exit.then, Exit.inBlock, ↓reduceIte]
  refine ret1 rfl hF rfl ⟨congrArg Value.bool (Bool.eq_iff_iff.2 ?_), hS.old⟩
  simp only [Bool.false_eq_true, Bool.true_eq_false, Bool.and_eq_true, Bool.or_eq_true, Bool.not_eq_true', decide_eq_true_eq, decide_eq_false_iff_not, iff_true, true_iff, false_iff, iff_false]
  unfold Sl.Op.ok
  omega

set_option maxHeartbeats 4000000 in
set_option maxRecDepth 20000 in
theorem specApplyModel_c {W : World} {c : Config} {m : Model} {cs : List Value} {p : Int} {o : Sl.Op} (hm : modelEK.K W m cs) (hz : m.size ≤ 1048576) : Calls Try.prog 34 #[.agg c.enc.toArray, .agg cs.toArray, vi p, .agg o.enc.toArray] W (Ret (Mk W (fun vs => .tuple #[.agg (modelEK.cells (applyModel c m p o).1 vs).toArray, .agg (Sl.Result.enc (applyModel c m p o).2).toArray]) (fun vs => [Part modelEK (applyModel c m p o).1 vs]))) := by
  refine calls_fr Try.func34 rfl Try.ntmps34 rfl ?_
  intro a hF
  have hS := Sep.refl W
  obtain ⟨v0, v1, rfl, r0, r1⟩ := hm
  have hm : modelEK.K W m (m.encv v0 v1) := ⟨_, _, rfl, r0, r1⟩
  have hz2 := hz
  unfold Model.size at hz2
  refine ws fun K1 hK1 => ?_
  refine wl_box (cs := [_, _, _, _, _, _]) hF hS rfl (hF.ev rfl) rfl ?_; clear hF a; intro g1 w1 a hS_ hB_ hF; replace hS := hS_; clear hS_ hB_
  refine wl_box (cs := [_, _]) hF hS rfl (hF.ev rfl) rfl ?_; clear hF a; intro g2 w2 a hS_ hB_ hF; replace hS := hS_; clear hS_ hB_
  refine wl_box (cs := [_, _, _]) hF hS rfl (hF.ev rfl) rfl ?_; clear hF a; intro g3 w3 a hS_ hB_ hF; replace hS := hS_; clear hS_ hB_
  refine wl_alloc hF hS rfl zr35 ?_; clear hF a; intro g4 w4 a hS_ hB_ hF; replace hS := hS_; clear hS_ hB_
  refine wl_alloc hF hS rfl zr42 ?_; clear hF a; intro g5 w5 a hS_ hB_ hF; replace hS := hS_; clear hS_ hB_
  refine wl_nil (hK1 _ _ ?_)
  refine ws fun K2 hK2 => ?_
  refine wl hF rfl rfl rfl (r_loadn ag35 (hF.ev rfl) (hS.box_rd (i := 3) rfl) sz35) ?_; clear hF a; intro a hF
  refine wl_mk hF hS rfl rfl rfl (r_call1 en43 (hF.ev rfl)) (specCopyM_c (hS.k hm) (by omega)) ?_; clear hF a; rintro ⟨p14, q14⟩ w6 a hS_ hF; replace hS := hS_; clear hS_; dsimp only [List.cons_append, List.nil_append] at hS
  refine wl_alloc hF hS rfl zr35 ?_; clear hF a; intro g6 w7 a hS_ hB_ hF; replace hS := hS_; clear hS_ hB_
  refine wl_storew hF hS (i := 0) rfl (hF.ev rfl) (hF.ev rfl) sz35 rfl rfl ?_; intro w8 hS_; replace hS := hS_; clear hS_; dsimp only [List.set, Nat.reduceAdd] at hS
  refine wl_nil (hK2 _ _ ?_)
  refine wp_seq_k fun K3 hK3 => ?_
  refine ws fun K4 hK4 => ?_
  refine wl hF rfl rfl rfl (r_loadn ag38 (hF.ev rfl) (hS.box_rd (i := 7) rfl) sz38) ?_; clear hF a; intro a hF
  refine wl hF rfl rfl rfl (r_loadn ag35 (hF.ev rfl) (hS.box_rd (i := 6) rfl) sz35) ?_; clear hF a; intro a hF
  refine wl_call hF rfl rfl rfl (r_call2 en37 (hF.ev rfl) (hF.ev rfl)) (specIsModel_c (hS.k hm)) ?_; clear hF a; rintro v w9 a ⟨rfl, hB_⟩ hF; replace hS := hS.ext hB_; clear hB_
  refine wl hF rfl rfl rfl (r_not (hF.ev rfl)) ?_; clear hF a; intro a hF
  refine wl_mvs (A := [_]) hF rfl ?_; clear hF a; intro a hF
  apply wl_or (A := [_, _, _, _, _, _, _]) (pk := 26) hF hS (tc := 19) rfl
  ·
    intro hg19 a hF; try simp only [zb1, zb2, zb3, zb4, zb5, zb6, zb7, zb8] at hg19
    refine wl_mvs (A := [_]) hF rfl ?_; clear hF a; intro a hF
    refine wl_take hF rfl rfl rfl rfl ?_
    refine wl hF rfl rfl rfl (r_field fo38_0 (hF.ev rfl)) ?_; clear hF a; intro a hF
    refine wl_take hF rfl rfl rfl rfl ?_
    refine wl hF rfl rfl rfl (r_load1 sc3 (hF.ev rfl) (hS.box (i := 7) rfl rfl)) ?_; clear hF a; intro a hF
    refine wl_take hF rfl rfl rfl rfl ?_
    refine wl hF rfl rfl rfl (r_sub (hF.ev rfl) ec) ?_; clear hF a; intro a hF
    refine wl_take hF rfl rfl rfl rfl ?_
    refine wl_call hF rfl rfl rfl (r_call3 en44 (hF.ev rfl) ec (hF.ev rfl)) (l1In_c _ _ _) ?_; clear hF a; rintro v w10 a ⟨rfl, hB_⟩ hF; replace hS := hS.ext hB_; clear hB_
    refine wl_take hF rfl rfl rfl rfl ?_
    refine wl hF rfl rfl rfl (r_not (hF.ev rfl)) ?_; clear hF a; intro a hF
    refine wl hF rfl rfl rfl (r_pick_f (hF.ev rfl) (hF.ev rfl)) ?_; clear hF a; intro a hF
    exact wl_nil ⟨rfl, (Fr.pre (A := [_, _, _, _, _, _, _]) hF rfl).keep hF (t := 26) rfl, hS⟩
  ·
    intro hg19 a hF; try simp only [zb1, zb2, zb3, zb4, zb5, zb6, zb7, zb8] at hg19
    refine wl_mvs (A := [_, _, _, _, _, _]) hF rfl ?_; clear hF a; intro a hF
    refine wl hF rfl rfl rfl (r_pick_t (hF.ev rfl) ec) ?_; clear hF a; intro a hF
    exact wl_nil ⟨rfl, (Fr.pre (A := [_, _, _, _, _, _, _]) hF rfl).keep hF (t := 26) rfl, hS⟩
  clear hF a hS; intro a w11 hF hS
  refine wl_mvs (A := [_]) hF rfl ?_; clear hF a; intro a hF
  apply wl_or (A := [_, _, _, _]) (pk := 31) hF hS (tc := 27) rfl
  ·
    intro hg27 a hF; try simp only [zb1, zb2, zb3, zb4, zb5, zb6, zb7, zb8] at hg27
    refine wl_take hF rfl rfl rfl rfl ?_
    refine wl hF rfl rfl rfl (r_loadn ag41 (hF.ev rfl) (hS.box_rd (i := 5) rfl) sz41) ?_; clear hF a; intro a hF
    refine wl_take hF rfl rfl rfl rfl ?_
    refine wl_call hF rfl rfl rfl (r_call1 en39 (hF.ev rfl)) (specIsOp_c _) ?_; clear hF a; rintro v w12 a ⟨rfl, hB_⟩ hF; replace hS := hS.ext hB_; clear hB_
    refine wl_take hF rfl rfl rfl rfl ?_
    refine wl hF rfl rfl rfl (r_not (hF.ev rfl)) ?_; clear hF a; intro a hF
    refine wl hF rfl rfl rfl (r_pick_f (hF.ev rfl) (hF.ev rfl)) ?_; clear hF a; intro a hF
    exact wl_nil ⟨rfl, (Fr.pre (A := [_, _, _, _]) hF rfl).keep hF (t := 31) rfl, hS⟩
  ·
    intro hg27 a hF; try simp only [zb1, zb2, zb3, zb4, zb5, zb6, zb7, zb8] at hg27
    refine wl_mvs (A := [_, _, _]) hF rfl ?_; clear hF a; intro a hF
    refine wl hF rfl rfl rfl (r_pick_t (hF.ev rfl) ec) ?_; clear hF a; intro a hF
    exact wl_nil ⟨rfl, (Fr.pre (A := [_, _, _, _]) hF rfl).keep hF (t := 31) rfl, hS⟩
  clear hF a hS; intro a w13 hF hS
  refine wl_nil (hK4 _ _ ?_)
  refine wc_fx (t := 31) hF rfl ?_ ?_ <;> clear hF <;> intro c31 hF <;> try simp only [zb1, zb2, zb3, zb4, zb5, zb6, zb7, zb8] at c31
  ·
    have hw : isModel c m = true → IntKind.i64.wrap (c.threads - 1) = c.threads - 1 := fun h => by obtain ⟨hok, _⟩ := isModel_thr h; unfold Config.ok at hok; exact w64_id (by omega) (by omega)
    refine ws fun K5 hK5 => ?_
    refine wl hF rfl rfl rfl (r_loadn ag35 (hF.ev rfl) (hS.box_rd (i := 0) rfl) sz35) ?_; clear hF a; intro a hF
    refine wl hF rfl rfl rfl (r_build (bd42) trivial) ?_; clear hF a; intro a hF
    refine wl_storew hF hS (i := 4) rfl (hF.ev rfl) (hF.ev rfl) sz35 rfl rfl ?_; intro w14 hS_; replace hS := hS_; clear hS_; dsimp only [List.set, Nat.reduceAdd] at hS
    refine wl_storew hF hS (i := 3) rfl (hF.ev rfl) (hF.ev rfl) sz42 rfl rfl ?_; intro w15 hS_; replace hS := hS_; clear hS_; dsimp only [List.set, Nat.reduceAdd] at hS
    refine wl_nil (hK5 _ _ ?_)
    refine wp_ret ?_
    try simp only [Exit.then, Exit.inBlock, ↓reduceIte]
    have e : applyModel c m p o = (m, ⟨0, 0⟩) := by clear hF hS a hK5 hK4 hK3 hK2 hK1 K5 K4 K3 K2 K1; unfold applyModel; grind
    refine ret2cc rfl ag35 ag42 hF hS (i := 4) (i' := 3) rfl rfl sz35 sz42 rfl rfl ?_
    rw [e]
    exact ⟨[p14, q14], rfl, hS.part_of [1, 2] (by decide) rfl⟩
  obtain ⟨hok, hth⟩ := isModel_thr (c31.1.1)
  have hb := hok; unfold Config.ok at hb
  have hw : IntKind.i64.wrap (c.threads - 1) = c.threads - 1 := w64_id (by omega) (by omega)
  rw [hw] at c31
  have hvl := isModel_vals (c31.1.1)
  have hop := c31.2; unfold Sl.Op.ok at hop
  refine wp_skip ?_
  refine hK3 _ _ ?_
  refine ws fun K6 hK6 => ?_
  refine wl hF rfl rfl rfl (r_field fo35_1 (hF.ev rfl)) ?_; clear hF a; intro a hF
  refine wl hF rfl rfl rfl (r_load1 sc25 (hF.ev rfl) (hS.box (i := 6) rfl rfl)) ?_; clear hF a; intro a hF
  refine wl_mvs (A := [_]) hF rfl ?_; clear hF a; intro a hF
  obtain ⟨g37, o37, m37, q37, cs37, hv37, hm37, hl37, hk37, hz37, hc37⟩ := Rd.at (r1) (a := a) (X := .tmp 36) (hF.ev rfl) (by omega) (by omega)
  obtain ⟨v37, rfl, hr37⟩ := hk37; obtain ⟨Ae37, qe37, rfl, _, hme37⟩ := hr37.sl; unfold maxLen at hme37
  refine wl hF rfl rfl rfl (r_index sl25 ((hF.ev rfl).trans hv37) (hF.ev rfl) (by omega) (by first | omega | (simp at hm37; omega))) ?_; clear hF a; intro a hF
  refine wl hF rfl rfl rfl (r_load1 sc24 (hF.ev rfl) (cellB hS.old (hc37 0 _ rfl))) ?_; clear hF a; intro a hF
  refine wl hF rfl rfl rfl (r_len ul24 (hF.ev rfl)) ?_; clear hF a; intro a hF
  refine wl hF rfl rfl rfl (r_gtr (hF.ev rfl) ec) ?_; clear hF a; intro a hF
  refine wl_mvs (A := [_]) hF rfl ?_; clear hF a; intro a hF
  refine wl_nil (hK6 _ _ ?_)
  refine wp_seq_k fun K7 hK7 => ?_
  refine wp_block ?_
  refine ws fun K8 hK8 => ?_
  refine wl hF rfl rfl rfl (r_field fo41_1 (hF.ev rfl)) ?_; clear hF a; intro a hF
  refine wl hF rfl rfl rfl (r_load1 sc3 (hF.ev rfl) (hS.box (i := 5) rfl rfl)) ?_; clear hF a; intro a hF
  refine wl hF rfl rfl rfl (r_field fo38_1 (hF.ev rfl)) ?_; clear hF a; intro a hF
  refine wl hF rfl rfl rfl (r_load1 sc3 (hF.ev rfl) (hS.box (i := 7) rfl rfl)) ?_; clear hF a; intro a hF
  refine wl hF rfl rfl rfl (r_geq (hF.ev rfl) (hF.ev rfl)) ?_; clear hF a; intro a hF
  refine wl_mvs (A := [_]) hF rfl ?_; clear hF a; intro a hF
  refine wl_nil (hK8 _ _ ?_)
  refine wc_fx (t := 41) hF rfl ?_ ?_ <;> clear hF <;> intro c41 hF <;> try simp only [zb1, zb2, zb3, zb4, zb5, zb6, zb7, zb8] at c41
  ·
    refine ws fun K9 hK9 => ?_
    refine wl hF rfl rfl rfl (r_loadn ag35 (hF.ev rfl) (hS.box_rd (i := 0) rfl) sz35) ?_; clear hF a; intro a hF
    refine wl hF rfl rfl rfl (r_build (bd42_0 _) ⟨rfl, ec, trivial⟩) ?_; clear hF a; intro a hF
    refine wl_storew hF hS (i := 4) rfl (hF.ev rfl) (hF.ev rfl) sz35 rfl rfl ?_; intro w16 hS_; replace hS := hS_; clear hS_; dsimp only [List.set, Nat.reduceAdd] at hS
    refine wl_storew hF hS (i := 3) rfl (hF.ev rfl) (hF.ev rfl) sz42 rfl rfl ?_; intro w17 hS_; replace hS := hS_; clear hS_; dsimp only [List.set, Nat.reduceAdd] at hS
    refine wl_nil (hK9 _ _ ?_)
    refine wp_ret ?_
    try simp only [Exit.then, Exit.inBlock, ↓reduceIte]
    have e : applyModel c m p o = (m, ⟨4, 0⟩) := by clear hF hS a hK9 hK8 hK7 hK6 hK4 hK3 hK2 hK1 K9 K8 K7 K6 K4 K3 K2 K1; unfold applyModel; grind
    refine ret2cc rfl ag35 ag42 hF hS (i := 4) (i' := 3) rfl rfl sz35 sz42 rfl rfl ?_
    rw [e]
    exact ⟨[p14, q14], rfl, hS.part_of [1, 2] (by decide) rfl⟩
  refine ws fun K10 hK10 => ?_
  refine wl hF rfl rfl rfl (r_field fo41_0 (hF.ev rfl)) ?_; clear hF a; intro a hF
  refine wl hF rfl rfl rfl (r_load1 sc3 (hF.ev rfl) (hS.box (i := 5) rfl rfl)) ?_; clear hF a; intro a hF
  refine wl hF rfl rfl rfl (r_eql (hF.ev rfl) ec) ?_; clear hF a; intro a hF
  refine wl_mvs (A := [_]) hF rfl ?_; clear hF a; intro a hF
  apply wl_and (A := [_, _]) (pk := 55) hF hS (tc := 53) rfl
  ·
    intro hg53 a hF; try simp only [zb1, zb2, zb3, zb4, zb5, zb6, zb7, zb8] at hg53
    refine wl_mvs (A := [_]) hF rfl ?_; clear hF a; intro a hF
    refine wl hF rfl rfl rfl (r_pick_t (hF.ev rfl) (hF.ev rfl)) ?_; clear hF a; intro a hF
    exact wl_nil ⟨rfl, (Fr.pre (A := [_, _]) hF rfl).keep hF (t := 55) rfl, hS⟩
  ·
    intro hg53 a hF; try simp only [zb1, zb2, zb3, zb4, zb5, zb6, zb7, zb8] at hg53
    refine wl_mvs (A := [_]) hF rfl ?_; clear hF a; intro a hF
    refine wl hF rfl rfl rfl (r_pick_f (hF.ev rfl) ec) ?_; clear hF a; intro a hF
    exact wl_nil ⟨rfl, (Fr.pre (A := [_, _]) hF rfl).keep hF (t := 55) rfl, hS⟩
  clear hF a hS; intro a w18 hF hS
  refine wl_mvs (A := [_]) hF rfl ?_; clear hF a; intro a hF
  refine wl_nil (hK10 _ _ ?_)
  refine wc_fx (t := 49) hF rfl ?_ ?_ <;> clear hF <;> intro c49 hF <;> try simp only [zb1, zb2, zb3, zb4, zb5, zb6, zb7, zb8] at c49
  ·
    refine ws fun K11 hK11 => ?_
    refine wl hF rfl rfl rfl (r_loadn ag35 (hF.ev rfl) (hS.box_rd (i := 0) rfl) sz35) ?_; clear hF a; intro a hF
    refine wl hF rfl rfl rfl (r_build (bd42_0 _) ⟨rfl, ec, trivial⟩) ?_; clear hF a; intro a hF
    refine wl_storew hF hS (i := 4) rfl (hF.ev rfl) (hF.ev rfl) sz35 rfl rfl ?_; intro w19 hS_; replace hS := hS_; clear hS_; dsimp only [List.set, Nat.reduceAdd] at hS
    refine wl_storew hF hS (i := 3) rfl (hF.ev rfl) (hF.ev rfl) sz42 rfl rfl ?_; intro w20 hS_; replace hS := hS_; clear hS_; dsimp only [List.set, Nat.reduceAdd] at hS
    refine wl_nil (hK11 _ _ ?_)
    refine wp_ret ?_
    try simp only [Exit.then, Exit.inBlock, ↓reduceIte]
    have e : applyModel c m p o = (m, ⟨6, 0⟩) := by clear hF hS a hK11 hK10 hK8 hK7 hK6 hK4 hK3 hK2 hK1 K11 K10 K8 K7 K6 K4 K3 K2 K1; unfold applyModel; grind
    refine ret2cc rfl ag35 ag42 hF hS (i := 4) (i' := 3) rfl rfl sz35 sz42 rfl rfl ?_
    rw [e]
    exact ⟨[p14, q14], rfl, hS.part_of [1, 2] (by decide) rfl⟩
  refine ws fun K12 hK12 => ?_
  refine wl hF rfl rfl rfl (r_field fo41_0 (hF.ev rfl)) ?_; clear hF a; intro a hF
  refine wl hF rfl rfl rfl (r_load1 sc3 (hF.ev rfl) (hS.box (i := 5) rfl rfl)) ?_; clear hF a; intro a hF
  refine wl hF rfl rfl rfl (r_eql (hF.ev rfl) ec) ?_; clear hF a; intro a hF
  refine wl_mvs (A := [_]) hF rfl ?_; clear hF a; intro a hF
  apply wl_or (A := [_, _, _, _]) (pk := 66) hF hS (tc := 62) rfl
  ·
    intro hg62 a hF; try simp only [zb1, zb2, zb3, zb4, zb5, zb6, zb7, zb8] at hg62
    refine wl_take hF rfl rfl rfl rfl ?_
    refine wl hF rfl rfl rfl (r_field fo41_0 (hF.ev rfl)) ?_; clear hF a; intro a hF
    refine wl_take hF rfl rfl rfl rfl ?_
    refine wl hF rfl rfl rfl (r_load1 sc3 (hF.ev rfl) (hS.box (i := 5) rfl rfl)) ?_; clear hF a; intro a hF
    refine wl_take hF rfl rfl rfl rfl ?_
    refine wl hF rfl rfl rfl (r_eql (hF.ev rfl) ec) ?_; clear hF a; intro a hF
    refine wl hF rfl rfl rfl (r_pick_f (hF.ev rfl) (hF.ev rfl)) ?_; clear hF a; intro a hF
    exact wl_nil ⟨rfl, (Fr.pre (A := [_, _, _, _]) hF rfl).keep hF (t := 66) rfl, hS⟩
  ·
    intro hg62 a hF; try simp only [zb1, zb2, zb3, zb4, zb5, zb6, zb7, zb8] at hg62
    refine wl_mvs (A := [_, _, _]) hF rfl ?_; clear hF a; intro a hF
    refine wl hF rfl rfl rfl (r_pick_t (hF.ev rfl) ec) ?_; clear hF a; intro a hF
    exact wl_nil ⟨rfl, (Fr.pre (A := [_, _, _, _]) hF rfl).keep hF (t := 66) rfl, hS⟩
  clear hF a hS; intro a w21 hF hS
  refine wl_mvs (A := [_]) hF rfl ?_; clear hF a; intro a hF
  apply wl_and (A := [_, _, _]) (pk := 70) hF hS (tc := 67) rfl
  ·
    intro hg67 a hF; try simp only [zb1, zb2, zb3, zb4, zb5, zb6, zb7, zb8] at hg67
    refine wl_mvs (A := [_]) hF rfl ?_; clear hF a; intro a hF
    refine wl_take hF rfl rfl rfl rfl ?_
    refine wl hF rfl rfl rfl (r_not (hF.ev rfl)) ?_; clear hF a; intro a hF
    refine wl hF rfl rfl rfl (r_pick_t (hF.ev rfl) (hF.ev rfl)) ?_; clear hF a; intro a hF
    exact wl_nil ⟨rfl, (Fr.pre (A := [_, _, _]) hF rfl).keep hF (t := 70) rfl, hS⟩
  ·
    intro hg67 a hF; try simp only [zb1, zb2, zb3, zb4, zb5, zb6, zb7, zb8] at hg67
    refine wl_mvs (A := [_, _]) hF rfl ?_; clear hF a; intro a hF
    refine wl hF rfl rfl rfl (r_pick_f (hF.ev rfl) ec) ?_; clear hF a; intro a hF
    exact wl_nil ⟨rfl, (Fr.pre (A := [_, _, _]) hF rfl).keep hF (t := 70) rfl, hS⟩
  clear hF a hS; intro a w22 hF hS
  refine wl_mvs (A := [_]) hF rfl ?_; clear hF a; intro a hF
  refine wl_nil (hK12 _ _ ?_)
  refine wc_fx (t := 58) hF rfl ?_ ?_ <;> clear hF <;> intro c58 hF <;> try simp only [zb1, zb2, zb3, zb4, zb5, zb6, zb7, zb8] at c58
  ·
    refine ws fun K13 hK13 => ?_
    refine wl hF rfl rfl rfl (r_loadn ag35 (hF.ev rfl) (hS.box_rd (i := 0) rfl) sz35) ?_; clear hF a; intro a hF
    refine wl hF rfl rfl rfl (r_build (bd42_0 _) ⟨rfl, ec, trivial⟩) ?_; clear hF a; intro a hF
    refine wl_storew hF hS (i := 4) rfl (hF.ev rfl) (hF.ev rfl) sz35 rfl rfl ?_; intro w23 hS_; replace hS := hS_; clear hS_; dsimp only [List.set, Nat.reduceAdd] at hS
    refine wl_storew hF hS (i := 3) rfl (hF.ev rfl) (hF.ev rfl) sz42 rfl rfl ?_; intro w24 hS_; replace hS := hS_; clear hS_; dsimp only [List.set, Nat.reduceAdd] at hS
    refine wl_nil (hK13 _ _ ?_)
    refine wp_ret ?_
    try simp only [Exit.then, Exit.inBlock, ↓reduceIte]
    have e : applyModel c m p o = (m, ⟨3, 0⟩) := by clear hF hS a hK13 hK12 hK10 hK8 hK7 hK6 hK4 hK3 hK2 hK1 K13 K12 K10 K8 K7 K6 K4 K3 K2 K1; unfold applyModel; grind
    refine ret2cc rfl ag35 ag42 hF hS (i := 4) (i' := 3) rfl rfl sz35 sz42 rfl rfl ?_
    rw [e]
    exact ⟨[p14, q14], rfl, hS.part_of [1, 2] (by decide) rfl⟩
  refine wp_skip ?_
  simp only [Exit.then, Exit.inBlock, ↓reduceIte]
  refine hK7 _ _ ?_
  refine wp_seq_k fun K14 hK14 => ?_
  refine ws fun K15 hK15 => ?_
  refine wl hF rfl rfl rfl (r_field fo41_0 (hF.ev rfl)) ?_; clear hF a; intro a hF
  refine wl hF rfl rfl rfl (r_load1 sc3 (hF.ev rfl) (hS.box (i := 5) rfl rfl)) ?_; clear hF a; intro a hF
  refine wl_nil (hK15 _ _ ?_)
  refine wp_block ?_
  refine ws fun K16 hK16 => ?_
  refine wl hF rfl rfl rfl (r_eql (hF.ev rfl) ec) ?_; clear hF a; intro a hF
  refine wl_mvs (A := [_]) hF rfl ?_; clear hF a; intro a hF
  refine wl_nil (hK16 _ _ ?_)
  refine wc_fx (t := 75) hF rfl ?_ ?_ <;> clear hF <;> intro c75 hF <;> try simp only [zb1, zb2, zb3, zb4, zb5, zb6, zb7, zb8] at c75
  ·
    refine wp_region_todo (is := [0, 1, 2, 4, 5, 3, 6, 7, 8]) [] [8] (by kernel_rfl) hF hS ⟨trivial, by decide, by decide, by decide⟩ (by kernel_rfl) ?_; clear hF; intro hl_ wd hSd
    refine todo_pure hl_ (by kernel_rfl) rfl (gw0 rfl) rfl rfl rfl (fun a w_ hF => r_field fo35_1 (hF.ev rfl)) ?_
    refine todo_load [7, 8] hl_ (by kernel_rfl) rfl (gw0 rfl) rfl rfl rfl (fun a w_ hF hB_ => r_load1 sc25 (hF.ev rfl) ((hSd.ext hB_).box (i := 0) rfl rfl)) ?_
    refine todo_pure hl_ (by kernel_rfl) rfl (gw0 rfl) rfl rfl rfl (fun a w_ hF => r_move (hF.ev rfl)) ?_
    refine todo_pure hl_ (by kernel_rfl) rfl (gw0 rfl) rfl rfl rfl (fun a w_ hF => r_field fo35_0 (hF.ev rfl)) ?_
    refine todo_load [6, 7, 8] hl_ (by kernel_rfl) rfl (gw0 rfl) rfl rfl rfl (fun a w_ hF hB_ => r_load1 sc24 (hF.ev rfl) ((hSd.ext hB_).box (i := 6) rfl rfl)) ?_
    refine todo_op hl_ rfl (by kernel_rfl) rfl rfl rfl rfl rfl (fun a w_ hF hS => r_bslice intEK [] [] rfl mk24 rfl trivial rfl rfl rfl rfl) ?_; intro gl_80
    refine todo_op hl_ rfl (by kernel_rfl) rfl rfl rfl rfl rfl (fun a w_ hF hS => r_append0 (hS.rd r0) mk24 rfl (by omega) (by unfold maxLen; omega) (hF.ev rfl) (hF.ev rfl)) ?_; intro s83
    obtain ⟨g84, o84, m84, q84, cs84, hv84, hm84, hl84, hk84, hz84, hc84⟩ := Rd.idx ((hSd.own_rd (i := 2) rfl)) (at0_get (i := p) (by omega) (by omega))
    obtain ⟨v84, rfl, hr84⟩ := hk84; obtain ⟨Ae84, qe84, rfl, _, hme84⟩ := hr84.sl; unfold maxLen at hme84
    refine todo_pure hl_ (by kernel_rfl) rfl (gw0 rfl) rfl rfl rfl (fun a w_ hF => r_index sl25 ((hF.ev rfl).trans hv84) (hF.ev rfl) (by omega) (by first | omega | (simp at hm84; omega))) ?_
    refine todo_fin hl_ rfl (by kernel_rfl) (tl := [_]) rfl ?_; clear hS a; intro a w27 hF hA_
    have hS := hA_.sep; clear hA_
    clear hl_; try clear hSd
    try dsimp only [List.cons_append, List.nil_append, List.set] at hS
    try clear wd
    replace hS := hS.pull (p := 0) rfl; dsimp only [List.eraseIdx] at hS
    refine wl_sput (s := (_, _, _)) (q := 3) hF hS rfl hv84 (by omega) (by omega) sz24 (hF.ev rfl) rfl (hF.ev rfl) rfl ?_; intro w28 hS_; replace hS := hS_; clear hS_; dsimp only [List.set] at hS
    refine wl_nil ⟨rfl, ?_⟩
    simp only [Exit.then, Exit.inBlock, ↓reduceIte]
    refine hK14 _ _ ?_
    refine ws fun K17 hK17 => ?_
    refine wl hF rfl rfl rfl (r_loadn ag35 (hF.ev rfl) (hS.box_rd (i := 1) rfl) sz35) ?_; clear hF a; intro a hF
    refine wl hF rfl rfl rfl (r_build (bd42) trivial) ?_; clear hF a; intro a hF
    refine wl_storew hF hS (i := 5) rfl (hF.ev rfl) (hF.ev rfl) sz35 rfl rfl ?_; intro w29 hS_; replace hS := hS_; clear hS_; dsimp only [List.set, Nat.reduceAdd] at hS
    refine wl_storew hF hS (i := 4) rfl (hF.ev rfl) (hF.ev rfl) sz42 rfl rfl ?_; intro w30 hS_; replace hS := hS_; clear hS_; dsimp only [List.set, Nat.reduceAdd] at hS
    refine wl_nil (hK17 _ _ ?_)
    refine wp_ret ?_
    try simp only [Exit.then, Exit.inBlock, ↓reduceIte]
    have e : applyModel c m p o = (⟨m.values, m.snapshots.set p.toNat m.values⟩, ⟨0, 0⟩) := by clear hF hS a hK17 hK16 hK15 hK14 hK12 hK10 hK8 hK7 hK6 hK4 hK3 hK2 hK1 K17 K16 K15 K14 K12 K10 K8 K7 K6 K4 K3 K2 K1; unfold applyModel; grind
    refine ret2cc rfl ag35 ag42 hF hS (i := 5) (i' := 4) rfl rfl sz35 sz42 rfl rfl ?_
    rw [e]
    exact ⟨[p14, q14], rfl, hS.part_of [2, 3] (by decide) rfl⟩
  refine ws fun K18 hK18 => ?_
  refine wl hF rfl rfl rfl (r_eql (hF.ev rfl) ec) ?_; clear hF a; intro a hF
  refine wl_mvs (A := [_]) hF rfl ?_; clear hF a; intro a hF
  refine wl_nil (hK18 _ _ ?_)
  refine wc_fx (t := 85) hF rfl ?_ ?_ <;> clear hF <;> intro c85 hF <;> try simp only [zb1, zb2, zb3, zb4, zb5, zb6, zb7, zb8] at c85
  ·
    refine wp_region_lit ?_
    refine wl hF rfl rfl rfl (r_field fo35_1 (hF.ev rfl)) ?_; clear hF a; intro a hF
    refine wl hF rfl rfl rfl (r_load1 sc25 (hF.ev rfl) (hS.box (i := 0) rfl rfl)) ?_; clear hF a; intro a hF
    refine wl_mvs (A := [_]) hF rfl ?_; clear hF a; intro a hF
    refine wl_bslice intEK [] [] rfl hF hS rfl mk24 rfl trivial rfl rfl rfl rfl ?_; clear hF a; intro gl_90 w31 a hS_ hF; replace hS := hS_; clear hS_
    obtain ⟨g91, o91, m91, q91, cs91, hv91, hm91, hl91, hk91, hz91, hc91⟩ := Rd.at ((hS.own_rd (i := 3) rfl)) (a := a) (X := .tmp 89) (hF.ev rfl) (by omega) (by omega)
    obtain ⟨v91, rfl, hr91⟩ := hk91; obtain ⟨Ae91, qe91, rfl, _, hme91⟩ := hr91.sl; unfold maxLen at hme91
    refine wl hF rfl rfl rfl (r_index sl25 ((hF.ev rfl).trans hv91) (hF.ev rfl) (by omega) (by first | omega | (simp at hm91; omega))) ?_; clear hF a; intro a hF
    replace hS := hS.pull (p := 0) rfl; dsimp only [List.eraseIdx] at hS
    refine wl_sput (s := (_, _, _)) (q := 2) hF hS rfl hv91 (by omega) (by omega) sz24 (hF.ev rfl) rfl (hF.ev rfl) rfl ?_; intro w32 hS_; replace hS := hS_; clear hS_; dsimp only [List.set] at hS
    refine wl_nil ?_
    simp only [Exit.then, Exit.inBlock, ↓reduceIte]
    refine hK14 _ _ ?_
    refine ws fun K19 hK19 => ?_
    refine wl hF rfl rfl rfl (r_loadn ag35 (hF.ev rfl) (hS.box_rd (i := 0) rfl) sz35) ?_; clear hF a; intro a hF
    refine wl hF rfl rfl rfl (r_build (bd42) trivial) ?_; clear hF a; intro a hF
    refine wl_storew hF hS (i := 4) rfl (hF.ev rfl) (hF.ev rfl) sz35 rfl rfl ?_; intro w33 hS_; replace hS := hS_; clear hS_; dsimp only [List.set, Nat.reduceAdd] at hS
    refine wl_storew hF hS (i := 3) rfl (hF.ev rfl) (hF.ev rfl) sz42 rfl rfl ?_; intro w34 hS_; replace hS := hS_; clear hS_; dsimp only [List.set, Nat.reduceAdd] at hS
    refine wl_nil (hK19 _ _ ?_)
    refine wp_ret ?_
    try simp only [Exit.then, Exit.inBlock, ↓reduceIte]
    have e : applyModel c m p o = (⟨m.values, m.snapshots.set p.toNat []⟩, ⟨0, 0⟩) := by clear hF hS a hK19 hK18 hK16 hK15 hK14 hK12 hK10 hK8 hK7 hK6 hK4 hK3 hK2 hK1 K19 K18 K16 K15 K14 K12 K10 K8 K7 K6 K4 K3 K2 K1; unfold applyModel; grind
    refine ret2cc rfl ag35 ag42 hF hS (i := 4) (i' := 3) rfl rfl sz35 sz42 rfl rfl ?_
    rw [e]
    exact ⟨[p14, q14], rfl, hS.part_of [1, 2] (by decide) rfl⟩
  refine ws fun K20 hK20 => ?_
  refine wl hF rfl rfl rfl (r_eql (hF.ev rfl) ec) ?_; clear hF a; intro a hF
  refine wl_mvs (A := [_]) hF rfl ?_; clear hF a; intro a hF
  refine wl_nil (hK20 _ _ ?_)
  refine wc_fx (t := 92) hF rfl ?_ ?_ <;> clear hF <;> intro c92 hF <;> try simp only [zb1, zb2, zb3, zb4, zb5, zb6, zb7, zb8] at c92
  ·
    refine wp_region_lit ?_
    refine wl hF rfl rfl rfl (r_field fo35_0 (hF.ev rfl)) ?_; clear hF a; intro a hF
    refine wl hF rfl rfl rfl (r_load1 sc24 (hF.ev rfl) (hS.box (i := 0) rfl rfl)) ?_; clear hF a; intro a hF
    refine wl hF rfl rfl rfl (r_field fo41_1 (hF.ev rfl)) ?_; clear hF a; intro a hF
    refine wl hF rfl rfl rfl (r_load1 sc3 (hF.ev rfl) (hS.box (i := 5) rfl rfl)) ?_; clear hF a; intro a hF
    refine wl hF rfl rfl rfl (r_field fo41_2 (hF.ev rfl)) ?_; clear hF a; intro a hF
    refine wl hF rfl rfl rfl (r_load1 sc3 (hF.ev rfl) (hS.box (i := 5) rfl rfl)) ?_; clear hF a; intro a hF
    obtain ⟨g100, o100, m100, q100, hv100, hm100, hl100, hc100⟩ := Rd.atF ((hS.own_rd (i := 1) rfl)) (a := a) (X := .tmp 97) (hF.ev rfl) (by omega) (by omega)
    refine wl hF rfl rfl rfl (r_index sl24 ((hF.ev rfl).trans hv100) (hF.ev rfl) (by omega) (by first | omega | (simp at hm100; omega))) ?_; clear hF a; intro a hF
    refine wl_istore (q := 1) hF hS rfl hv100 (by omega) (by omega) sz3 (hF.ev rfl) rfl (hF.ev rfl) ?_; intro w35 hS_; replace hS := hS_; clear hS_; dsimp only [List.set] at hS
    refine wl_nil ?_
    simp only [Exit.then, Exit.inBlock, ↓reduceIte]
    refine hK14 _ _ ?_
    refine ws fun K21 hK21 => ?_
    refine wl hF rfl rfl rfl (r_loadn ag35 (hF.ev rfl) (hS.box_rd (i := 0) rfl) sz35) ?_; clear hF a; intro a hF
    refine wl hF rfl rfl rfl (r_build (bd42) trivial) ?_; clear hF a; intro a hF
    refine wl_storew hF hS (i := 4) rfl (hF.ev rfl) (hF.ev rfl) sz35 rfl rfl ?_; intro w36 hS_; replace hS := hS_; clear hS_; dsimp only [List.set, Nat.reduceAdd] at hS
    refine wl_storew hF hS (i := 3) rfl (hF.ev rfl) (hF.ev rfl) sz42 rfl rfl ?_; intro w37 hS_; replace hS := hS_; clear hS_; dsimp only [List.set, Nat.reduceAdd] at hS
    refine wl_nil (hK21 _ _ ?_)
    refine wp_ret ?_
    try simp only [Exit.then, Exit.inBlock, ↓reduceIte]
    have e : applyModel c m p o = (⟨m.values.set o.key.toNat o.value, m.snapshots⟩, ⟨0, 0⟩) := by clear hF hS a hK21 hK20 hK18 hK16 hK15 hK14 hK12 hK10 hK8 hK7 hK6 hK4 hK3 hK2 hK1 K21 K20 K18 K16 K15 K14 K12 K10 K8 K7 K6 K4 K3 K2 K1; unfold applyModel; grind
    refine ret2cc rfl ag35 ag42 hF hS (i := 4) (i' := 3) rfl rfl sz35 sz42 rfl rfl ?_
    rw [e]
    exact ⟨[p14, q14], rfl, hS.part_of [1, 2] (by decide) rfl⟩
  refine ws fun K22 hK22 => ?_
  refine wl hF rfl rfl rfl (r_eql (hF.ev rfl) ec) ?_; clear hF a; intro a hF
  refine wl_mvs (A := [_]) hF rfl ?_; clear hF a; intro a hF
  refine wl_nil (hK22 _ _ ?_)
  refine wc_fx (t := 101) hF rfl ?_ ?_ <;> clear hF <;> intro c101 hF <;> try simp only [zb1, zb2, zb3, zb4, zb5, zb6, zb7, zb8] at c101
  ·
    have hl0 : (0 : Int) < (at0 m.snapshots p).length := by omega
    have hsn := isModel_snap (c31.1.1) (at0_mem (by omega) (by omega)) hl0
    refine wp_seq_k fun K23 hK23 => ?_
    refine wp_region_calm (by kernel_rfl) (by kernel_rfl) ?_
    refine wq hF rfl rfl rfl (fun w_ hB_ => r_field fo35_1 (hF.ev rfl)) ?_; clear hF a; intro a hF
    refine wq hF rfl rfl rfl (fun w_ hB_ => r_load1 sc25 (hF.ev rfl) ((hS.ext hB_).box (i := 6) rfl rfl)) ?_; clear hF a; intro a hF
    refine wq_mvs (A := [_]) hF rfl ?_; clear hF a; intro a hF
    obtain ⟨g106, o106, m106, q106, cs106, hv106, hm106, hl106, hk106, hz106, hc106⟩ := Rd.at (r1) (a := a) (X := .tmp 105) (hF.ev rfl) (by omega) (by omega)
    obtain ⟨v106, rfl, hr106⟩ := hk106; obtain ⟨Ae106, qe106, rfl, _, hme106⟩ := hr106.sl; unfold maxLen at hme106
    refine wq hF rfl rfl rfl (fun w_ hB_ => r_index sl25 ((hF.ev rfl).trans hv106) (hF.ev rfl) (by omega) (by first | omega | (simp at hm106; omega))) ?_; clear hF a; intro a hF
    refine wq hF rfl rfl rfl (fun w_ hB_ => r_load1 sc24 (hF.ev rfl) (cellB (hS.ext hB_).old (hc106 0 _ rfl))) ?_; clear hF a; intro a hF
    refine wq hF rfl rfl rfl (fun w_ hB_ => r_field fo41_1 (hF.ev rfl)) ?_; clear hF a; intro a hF
    refine wq hF rfl rfl rfl (fun w_ hB_ => r_load1 sc3 (hF.ev rfl) ((hS.ext hB_).box (i := 5) rfl rfl)) ?_; clear hF a; intro a hF
    obtain ⟨g110, o110, m110, q110, hv110, hm110, hl110, hc110⟩ := Rd.atF (hr106) (a := a) (X := .tmp 109) (hF.ev rfl) (by omega) (by omega)
    refine wq hF rfl rfl rfl (fun w_ hB_ => r_index sl24 ((hF.ev rfl).trans hv110) (hF.ev rfl) (by omega) (by first | omega | (simp at hm110; omega))) ?_; clear hF a; intro a hF
    refine wq hF rfl rfl rfl (fun w_ hB_ => r_load1 sc3 (hF.ev rfl) (cellB (hS.ext hB_).old (hc110 0 _ rfl))) ?_; clear hF a; intro a hF
    refine wq_mvs (A := [_]) hF rfl ?_; clear hF a; intro a hF
    refine wpQuiet_nil ?_; intro w38 hB_; replace hS := hS.ext hB_; clear hB_
    refine hK23 _ _ ?_
    refine wp_seq_k fun K24 hK24 => ?_
    refine ws fun K25 hK25 => ?_
    refine wl_mvs (A := [_]) hF rfl ?_; clear hF a; intro a hF
    refine wl hF rfl rfl rfl (r_lss (hF.ev rfl) ec) ?_; clear hF a; intro a hF
    refine wl_nil (hK25 _ _ ?_)
    refine wc_fx (t := 113) hF rfl ?_ ?_ <;> clear hF <;> intro c113 hF <;> try simp only [zb1, zb2, zb3, zb4, zb5, zb6, zb7, zb8] at c113
    ·
      refine ws fun K26 hK26 => ?_
      refine wl hF rfl rfl rfl (r_loadn ag35 (hF.ev rfl) (hS.box_rd (i := 0) rfl) sz35) ?_; clear hF a; intro a hF
      refine wl hF rfl rfl rfl (r_build (bd42_0 _) ⟨rfl, ec, trivial⟩) ?_; clear hF a; intro a hF
      refine wl_storew hF hS (i := 4) rfl (hF.ev rfl) (hF.ev rfl) sz35 rfl rfl ?_; intro w39 hS_; replace hS := hS_; clear hS_; dsimp only [List.set, Nat.reduceAdd] at hS
      refine wl_storew hF hS (i := 3) rfl (hF.ev rfl) (hF.ev rfl) sz42 rfl rfl ?_; intro w40 hS_; replace hS := hS_; clear hS_; dsimp only [List.set, Nat.reduceAdd] at hS
      refine wl_nil (hK26 _ _ ?_)
      refine wp_ret ?_
      try simp only [Exit.then, Exit.inBlock, ↓reduceIte]
      have e : applyModel c m p o = (m, ⟨1, 0⟩) := by clear hF hS a hK26 hK25 hK24 hK23 hK22 hK20 hK18 hK16 hK15 hK14 hK12 hK10 hK8 hK7 hK6 hK4 hK3 hK2 hK1 K26 K25 K24 K23 K22 K20 K18 K16 K15 K14 K12 K10 K8 K7 K6 K4 K3 K2 K1; unfold applyModel; grind
      refine ret2cc rfl ag35 ag42 hF hS (i := 4) (i' := 3) rfl rfl sz35 sz42 rfl rfl ?_
      rw [e]
      exact ⟨[p14, q14], rfl, hS.part_of [1, 2] (by decide) rfl⟩
    refine wp_skip ?_
    refine hK24 _ _ ?_
    refine ws fun K27 hK27 => ?_
    refine wl hF rfl rfl rfl (r_loadn ag35 (hF.ev rfl) (hS.box_rd (i := 0) rfl) sz35) ?_; clear hF a; intro a hF
    refine wl_mvs (A := [_]) hF rfl ?_; clear hF a; intro a hF
    refine wl hF rfl rfl rfl (r_build (bd42_1 _) ⟨rfl, (hF.ev rfl), trivial⟩) ?_; clear hF a; intro a hF
    refine wl_storew hF hS (i := 4) rfl (hF.ev rfl) (hF.ev rfl) sz35 rfl rfl ?_; intro w41 hS_; replace hS := hS_; clear hS_; dsimp only [List.set, Nat.reduceAdd] at hS
    refine wl_storew hF hS (i := 3) rfl (hF.ev rfl) (hF.ev rfl) sz42 rfl rfl ?_; intro w42 hS_; replace hS := hS_; clear hS_; dsimp only [List.set, Nat.reduceAdd] at hS
    refine wl_nil (hK27 _ _ ?_)
    refine wp_ret ?_
    try simp only [Exit.then, Exit.inBlock, ↓reduceIte]
    have e : applyModel c m p o = (m, ⟨0, at0 (at0 m.snapshots p) o.key⟩) := by clear hF hS a hK27 hK25 hK24 hK23 hK22 hK20 hK18 hK16 hK15 hK14 hK12 hK10 hK8 hK7 hK6 hK4 hK3 hK2 hK1 K27 K25 K24 K23 K22 K20 K18 K16 K15 K14 K12 K10 K8 K7 K6 K4 K3 K2 K1; unfold applyModel; grind
    refine ret2cc rfl ag35 ag42 hF hS (i := 4) (i' := 3) rfl rfl sz35 sz42 rfl rfl ?_
    rw [e]
    exact ⟨[p14, q14], rfl, hS.part_of [1, 2] (by decide) rfl⟩
  refine wp_skip ?_
  simp only [Exit.then, Exit.inBlock, ↓reduceIte]
  refine hK14 _ _ ?_
  refine ws fun K28 hK28 => ?_
  refine wl hF rfl rfl rfl (r_loadn ag35 (hF.ev rfl) (hS.box_rd (i := 0) rfl) sz35) ?_; clear hF a; intro a hF
  refine wl hF rfl rfl rfl (r_build (bd42) trivial) ?_; clear hF a; intro a hF
  refine wl_storew hF hS (i := 4) rfl (hF.ev rfl) (hF.ev rfl) sz35 rfl rfl ?_; intro w43 hS_; replace hS := hS_; clear hS_; dsimp only [List.set, Nat.reduceAdd] at hS
  refine wl_storew hF hS (i := 3) rfl (hF.ev rfl) (hF.ev rfl) sz42 rfl rfl ?_; intro w44 hS_; replace hS := hS_; clear hS_; dsimp only [List.set, Nat.reduceAdd] at hS
  refine wl_nil (hK28 _ _ ?_)
  refine wp_ret ?_
  try simp only [Exit.then, Exit.inBlock, ↓reduceIte]
  have e : applyModel c m p o = (m, ⟨0, 0⟩) := by clear hF hS a hK28 hK22 hK20 hK18 hK16 hK15 hK14 hK12 hK10 hK8 hK7 hK6 hK4 hK3 hK2 hK1 K28 K22 K20 K18 K16 K15 K14 K12 K10 K8 K7 K6 K4 K3 K2 K1; unfold applyModel; grind
  refine ret2cc rfl ag35 ag42 hF hS (i := 4) (i' := 3) rfl rfl sz35 sz42 rfl rfl ?_
  rw [e]
  exact ⟨[p14, q14], rfl, hS.part_of [1, 2] (by decide) rfl⟩

set_option maxHeartbeats 4000000 in
set_option maxRecDepth 20000 in
theorem implApplyModel_c {W : World} {c : Config} {m : Model} {cs : List Value} {p : Int} {o : Sl.Op} (hm : modelEK.K W m cs) (hz : m.size ≤ 1048576) : Calls Try.prog 33 #[.agg c.enc.toArray, .agg cs.toArray, vi p, .agg o.enc.toArray] W (Ret (Mk W (fun vs => .tuple #[.agg (modelEK.cells (applyModel c m p o).1 vs).toArray, .agg (Sl.Result.enc (applyModel c m p o).2).toArray]) (fun vs => [Part modelEK (applyModel c m p o).1 vs]))) := by
  refine calls_fr Try.func33 rfl Try.ntmps33 rfl ?_
  intro a hF
  have hS := Sep.refl W
  obtain ⟨v0, v1, rfl, r0, r1⟩ := hm
  have hm : modelEK.K W m (m.encv v0 v1) := ⟨_, _, rfl, r0, r1⟩
  have hz2 := hz
  unfold Model.size at hz2
  refine ws fun K1 hK1 => ?_
  refine wl_box (cs := [_, _, _, _, _, _]) hF hS rfl (hF.ev rfl) rfl ?_; clear hF a; intro g1 w1 a hS_ hB_ hF; replace hS := hS_; clear hS_ hB_
  refine wl_box (cs := [_, _]) hF hS rfl (hF.ev rfl) rfl ?_; clear hF a; intro g2 w2 a hS_ hB_ hF; replace hS := hS_; clear hS_ hB_
  refine wl_box (cs := [_, _, _]) hF hS rfl (hF.ev rfl) rfl ?_; clear hF a; intro g3 w3 a hS_ hB_ hF; replace hS := hS_; clear hS_ hB_
  refine wl_alloc hF hS rfl zr35 ?_; clear hF a; intro g4 w4 a hS_ hB_ hF; replace hS := hS_; clear hS_ hB_
  refine wl_alloc hF hS rfl zr42 ?_; clear hF a; intro g5 w5 a hS_ hB_ hF; replace hS := hS_; clear hS_ hB_
  refine wl_nil (hK1 _ _ ?_)
  refine ws fun K2 hK2 => ?_
  refine wl hF rfl rfl rfl (r_loadn ag35 (hF.ev rfl) (hS.box_rd (i := 3) rfl) sz35) ?_; clear hF a; intro a hF
  refine wl_mk hF hS rfl rfl rfl (r_call1 en50 (hF.ev rfl)) (implCopyM_c (hS.k hm) (by omega)) ?_; clear hF a; rintro ⟨p13, q13⟩ w6 a hS_ hF; replace hS := hS_; clear hS_; dsimp only [List.cons_append, List.nil_append] at hS
  refine wl_alloc hF hS rfl zr35 ?_; clear hF a; intro g6 w7 a hS_ hB_ hF; replace hS := hS_; clear hS_ hB_
  refine wl_storew hF hS (i := 0) rfl (hF.ev rfl) (hF.ev rfl) sz35 rfl rfl ?_; intro w8 hS_; replace hS := hS_; clear hS_; dsimp only [List.set, Nat.reduceAdd] at hS
  refine wl_nil (hK2 _ _ ?_)
  refine wp_seq_k fun K3 hK3 => ?_
  refine ws fun K4 hK4 => ?_
  refine wl hF rfl rfl rfl (r_loadn ag38 (hF.ev rfl) (hS.box_rd (i := 7) rfl) sz38) ?_; clear hF a; intro a hF
  refine wl hF rfl rfl rfl (r_loadn ag35 (hF.ev rfl) (hS.box_rd (i := 6) rfl) sz35) ?_; clear hF a; intro a hF
  refine wl_call hF rfl rfl rfl (r_call2 en36 (hF.ev rfl) (hF.ev rfl)) (implIsModel_c (hS.k hm)) ?_; clear hF a; rintro v w9 a ⟨rfl, hB_⟩ hF; replace hS := hS.ext hB_; clear hB_
  refine wl hF rfl rfl rfl (r_not (hF.ev rfl)) ?_; clear hF a; intro a hF
  refine wl_mvs (A := [_]) hF rfl ?_; clear hF a; intro a hF
  apply wl_or (A := [_, _, _, _]) (pk := 22) hF hS (tc := 18) rfl
  ·
    intro hg18 a hF; try simp only [zb1, zb2, zb3, zb4, zb5, zb6, zb7, zb8] at hg18
    refine wl_take hF rfl rfl rfl rfl ?_
    refine wl hF rfl rfl rfl (r_loadn ag41 (hF.ev rfl) (hS.box_rd (i := 5) rfl) sz41) ?_; clear hF a; intro a hF
    refine wl_take hF rfl rfl rfl rfl ?_
    refine wl_call hF rfl rfl rfl (r_call1 en48 (hF.ev rfl)) (implIsOp_c _) ?_; clear hF a; rintro v w10 a ⟨rfl, hB_⟩ hF; replace hS := hS.ext hB_; clear hB_
    refine wl_take hF rfl rfl rfl rfl ?_
    refine wl hF rfl rfl rfl (r_not (hF.ev rfl)) ?_; clear hF a; intro a hF
    refine wl hF rfl rfl rfl (r_pick_f (hF.ev rfl) (hF.ev rfl)) ?_; clear hF a; intro a hF
    exact wl_nil ⟨rfl, (Fr.pre (A := [_, _, _, _]) hF rfl).keep hF (t := 22) rfl, hS⟩
  ·
    intro hg18 a hF; try simp only [zb1, zb2, zb3, zb4, zb5, zb6, zb7, zb8] at hg18
    refine wl_mvs (A := [_, _, _]) hF rfl ?_; clear hF a; intro a hF
    refine wl hF rfl rfl rfl (r_pick_t (hF.ev rfl) ec) ?_; clear hF a; intro a hF
    exact wl_nil ⟨rfl, (Fr.pre (A := [_, _, _, _]) hF rfl).keep hF (t := 22) rfl, hS⟩
  clear hF a hS; intro a w11 hF hS
  refine wl_mvs (A := [_]) hF rfl ?_; clear hF a; intro a hF
  apply wl_or (A := [_, _, _, _, _, _, _]) (pk := 30) hF hS (tc := 23) rfl
  ·
    intro hg23 a hF; try simp only [zb1, zb2, zb3, zb4, zb5, zb6, zb7, zb8] at hg23
    refine wl_mvs (A := [_]) hF rfl ?_; clear hF a; intro a hF
    refine wl_take hF rfl rfl rfl rfl ?_
    refine wl hF rfl rfl rfl (r_field fo38_0 (hF.ev rfl)) ?_; clear hF a; intro a hF
    refine wl_take hF rfl rfl rfl rfl ?_
    refine wl hF rfl rfl rfl (r_load1 sc3 (hF.ev rfl) (hS.box (i := 7) rfl rfl)) ?_; clear hF a; intro a hF
    refine wl_take hF rfl rfl rfl rfl ?_
    refine wl hF rfl rfl rfl (r_sub (hF.ev rfl) ec) ?_; clear hF a; intro a hF
    refine wl_take hF rfl rfl rfl rfl ?_
    refine wl_call hF rfl rfl rfl (r_call3 en49 (hF.ev rfl) ec (hF.ev rfl)) (in_c _ _ _) ?_; clear hF a; rintro v w12 a ⟨rfl, hB_⟩ hF; replace hS := hS.ext hB_; clear hB_
    refine wl_take hF rfl rfl rfl rfl ?_
    refine wl hF rfl rfl rfl (r_not (hF.ev rfl)) ?_; clear hF a; intro a hF
    refine wl hF rfl rfl rfl (r_pick_f (hF.ev rfl) (hF.ev rfl)) ?_; clear hF a; intro a hF
    exact wl_nil ⟨rfl, (Fr.pre (A := [_, _, _, _, _, _, _]) hF rfl).keep hF (t := 30) rfl, hS⟩
  ·
    intro hg23 a hF; try simp only [zb1, zb2, zb3, zb4, zb5, zb6, zb7, zb8] at hg23
    refine wl_mvs (A := [_, _, _, _, _, _]) hF rfl ?_; clear hF a; intro a hF
    refine wl hF rfl rfl rfl (r_pick_t (hF.ev rfl) ec) ?_; clear hF a; intro a hF
    exact wl_nil ⟨rfl, (Fr.pre (A := [_, _, _, _, _, _, _]) hF rfl).keep hF (t := 30) rfl, hS⟩
  clear hF a hS; intro a w13 hF hS
  refine wl_nil (hK4 _ _ ?_)
  refine wc_fx (t := 30) hF rfl ?_ ?_ <;> clear hF <;> intro c30 hF <;> try simp only [zb1, zb2, zb3, zb4, zb5, zb6, zb7, zb8] at c30
  ·
    have hw : isModel c m = true → IntKind.i64.wrap (c.threads - 1) = c.threads - 1 := fun h => by obtain ⟨hok, _⟩ := isModel_thr h; unfold Config.ok at hok; exact w64_id (by omega) (by omega)
    refine ws fun K5 hK5 => ?_
    refine wl hF rfl rfl rfl (r_loadn ag35 (hF.ev rfl) (hS.box_rd (i := 0) rfl) sz35) ?_; clear hF a; intro a hF
    refine wl hF rfl rfl rfl (r_build (bd42) trivial) ?_; clear hF a; intro a hF
    refine wl_storew hF hS (i := 4) rfl (hF.ev rfl) (hF.ev rfl) sz35 rfl rfl ?_; intro w14 hS_; replace hS := hS_; clear hS_; dsimp only [List.set, Nat.reduceAdd] at hS
    refine wl_storew hF hS (i := 3) rfl (hF.ev rfl) (hF.ev rfl) sz42 rfl rfl ?_; intro w15 hS_; replace hS := hS_; clear hS_; dsimp only [List.set, Nat.reduceAdd] at hS
    refine wl_nil (hK5 _ _ ?_)
    refine wp_ret ?_
    try simp only [Exit.then, Exit.inBlock, ↓reduceIte]
    have e : applyModel c m p o = (m, ⟨0, 0⟩) := by clear hF hS a hK5 hK4 hK3 hK2 hK1 K5 K4 K3 K2 K1; unfold applyModel; grind
    refine ret2cc rfl ag35 ag42 hF hS (i := 4) (i' := 3) rfl rfl sz35 sz42 rfl rfl ?_
    rw [e]
    exact ⟨[p13, q13], rfl, hS.part_of [1, 2] (by decide) rfl⟩
  obtain ⟨hok, hth⟩ := isModel_thr (c30.1.1)
  have hb := hok; unfold Config.ok at hb
  have hw : IntKind.i64.wrap (c.threads - 1) = c.threads - 1 := w64_id (by omega) (by omega)
  rw [hw] at c30
  have hvl := isModel_vals (c30.1.1)
  have hop := c30.1.2; unfold Sl.Op.ok at hop
  refine wp_skip ?_
  refine hK3 _ _ ?_
  refine ws fun K6 hK6 => ?_
  refine wl hF rfl rfl rfl (r_field fo35_1 (hF.ev rfl)) ?_; clear hF a; intro a hF
  refine wl hF rfl rfl rfl (r_load1 sc25 (hF.ev rfl) (hS.box (i := 6) rfl rfl)) ?_; clear hF a; intro a hF
  refine wl_mvs (A := [_]) hF rfl ?_; clear hF a; intro a hF
  obtain ⟨g36, o36, m36, q36, cs36, hv36, hm36, hl36, hk36, hz36, hc36⟩ := Rd.at (r1) (a := a) (X := .tmp 35) (hF.ev rfl) (by omega) (by omega)
  obtain ⟨v36, rfl, hr36⟩ := hk36; obtain ⟨Ae36, qe36, rfl, _, hme36⟩ := hr36.sl; unfold maxLen at hme36
  refine wl hF rfl rfl rfl (r_index sl25 ((hF.ev rfl).trans hv36) (hF.ev rfl) (by omega) (by first | omega | (simp at hm36; omega))) ?_; clear hF a; intro a hF
  refine wl hF rfl rfl rfl (r_load1 sc24 (hF.ev rfl) (cellB hS.old (hc36 0 _ rfl))) ?_; clear hF a; intro a hF
  refine wl_mvs (A := [_]) hF rfl ?_; clear hF a; intro a hF
  refine wl_nil (hK6 _ _ ?_)
  refine wp_seq_k fun K7 hK7 => ?_
  refine wp_block ?_
  refine ws fun K8 hK8 => ?_
  refine wl hF rfl rfl rfl (r_field fo41_1 (hF.ev rfl)) ?_; clear hF a; intro a hF
  refine wl hF rfl rfl rfl (r_load1 sc3 (hF.ev rfl) (hS.box (i := 5) rfl rfl)) ?_; clear hF a; intro a hF
  refine wl hF rfl rfl rfl (r_field fo38_1 (hF.ev rfl)) ?_; clear hF a; intro a hF
  refine wl hF rfl rfl rfl (r_load1 sc3 (hF.ev rfl) (hS.box (i := 7) rfl rfl)) ?_; clear hF a; intro a hF
  refine wl hF rfl rfl rfl (r_geq (hF.ev rfl) (hF.ev rfl)) ?_; clear hF a; intro a hF
  refine wl_mvs (A := [_]) hF rfl ?_; clear hF a; intro a hF
  refine wl_nil (hK8 _ _ ?_)
  refine wc_fx (t := 38) hF rfl ?_ ?_ <;> clear hF <;> intro c38 hF <;> try simp only [zb1, zb2, zb3, zb4, zb5, zb6, zb7, zb8] at c38
  ·
    refine ws fun K9 hK9 => ?_
    refine wl hF rfl rfl rfl (r_loadn ag35 (hF.ev rfl) (hS.box_rd (i := 0) rfl) sz35) ?_; clear hF a; intro a hF
    refine wl hF rfl rfl rfl (r_build (bd42_0 _) ⟨rfl, ec, trivial⟩) ?_; clear hF a; intro a hF
    refine wl_storew hF hS (i := 4) rfl (hF.ev rfl) (hF.ev rfl) sz35 rfl rfl ?_; intro w16 hS_; replace hS := hS_; clear hS_; dsimp only [List.set, Nat.reduceAdd] at hS
    refine wl_storew hF hS (i := 3) rfl (hF.ev rfl) (hF.ev rfl) sz42 rfl rfl ?_; intro w17 hS_; replace hS := hS_; clear hS_; dsimp only [List.set, Nat.reduceAdd] at hS
    refine wl_nil (hK9 _ _ ?_)
    refine wp_ret ?_
    try simp only [Exit.then, Exit.inBlock, ↓reduceIte]
    have e : applyModel c m p o = (m, ⟨4, 0⟩) := by clear hF hS a hK9 hK8 hK7 hK6 hK4 hK3 hK2 hK1 K9 K8 K7 K6 K4 K3 K2 K1; unfold applyModel; grind
    refine ret2cc rfl ag35 ag42 hF hS (i := 4) (i' := 3) rfl rfl sz35 sz42 rfl rfl ?_
    rw [e]
    exact ⟨[p13, q13], rfl, hS.part_of [1, 2] (by decide) rfl⟩
  refine ws fun K10 hK10 => ?_
  refine wl hF rfl rfl rfl (r_field fo41_0 (hF.ev rfl)) ?_; clear hF a; intro a hF
  refine wl hF rfl rfl rfl (r_load1 sc3 (hF.ev rfl) (hS.box (i := 5) rfl rfl)) ?_; clear hF a; intro a hF
  refine wl hF rfl rfl rfl (r_eql (hF.ev rfl) ec) ?_; clear hF a; intro a hF
  refine wl_mvs (A := [_]) hF rfl ?_; clear hF a; intro a hF
  apply wl_and (A := [_, _, _, _]) (pk := 54) hF hS (tc := 50) rfl
  ·
    intro hg50 a hF; try simp only [zb1, zb2, zb3, zb4, zb5, zb6, zb7, zb8] at hg50
    refine wl_mvs (A := [_]) hF rfl ?_; clear hF a; intro a hF
    refine wl_take hF rfl rfl rfl rfl ?_
    refine wl hF rfl rfl rfl (r_len ul24 (hF.ev rfl)) ?_; clear hF a; intro a hF
    refine wl_take hF rfl rfl rfl rfl ?_
    refine wl hF rfl rfl rfl (r_gtr (hF.ev rfl) ec) ?_; clear hF a; intro a hF
    refine wl hF rfl rfl rfl (r_pick_t (hF.ev rfl) (hF.ev rfl)) ?_; clear hF a; intro a hF
    exact wl_nil ⟨rfl, (Fr.pre (A := [_, _, _, _]) hF rfl).keep hF (t := 54) rfl, hS⟩
  ·
    intro hg50 a hF; try simp only [zb1, zb2, zb3, zb4, zb5, zb6, zb7, zb8] at hg50
    refine wl_mvs (A := [_, _, _]) hF rfl ?_; clear hF a; intro a hF
    refine wl hF rfl rfl rfl (r_pick_f (hF.ev rfl) ec) ?_; clear hF a; intro a hF
    exact wl_nil ⟨rfl, (Fr.pre (A := [_, _, _, _]) hF rfl).keep hF (t := 54) rfl, hS⟩
  clear hF a hS; intro a w18 hF hS
  refine wl_mvs (A := [_]) hF rfl ?_; clear hF a; intro a hF
  refine wl_nil (hK10 _ _ ?_)
  refine wc_fx (t := 46) hF rfl ?_ ?_ <;> clear hF <;> intro c46 hF <;> try simp only [zb1, zb2, zb3, zb4, zb5, zb6, zb7, zb8] at c46
  ·
    refine ws fun K11 hK11 => ?_
    refine wl hF rfl rfl rfl (r_loadn ag35 (hF.ev rfl) (hS.box_rd (i := 0) rfl) sz35) ?_; clear hF a; intro a hF
    refine wl hF rfl rfl rfl (r_build (bd42_0 _) ⟨rfl, ec, trivial⟩) ?_; clear hF a; intro a hF
    refine wl_storew hF hS (i := 4) rfl (hF.ev rfl) (hF.ev rfl) sz35 rfl rfl ?_; intro w19 hS_; replace hS := hS_; clear hS_; dsimp only [List.set, Nat.reduceAdd] at hS
    refine wl_storew hF hS (i := 3) rfl (hF.ev rfl) (hF.ev rfl) sz42 rfl rfl ?_; intro w20 hS_; replace hS := hS_; clear hS_; dsimp only [List.set, Nat.reduceAdd] at hS
    refine wl_nil (hK11 _ _ ?_)
    refine wp_ret ?_
    try simp only [Exit.then, Exit.inBlock, ↓reduceIte]
    have e : applyModel c m p o = (m, ⟨6, 0⟩) := by clear hF hS a hK11 hK10 hK8 hK7 hK6 hK4 hK3 hK2 hK1 K11 K10 K8 K7 K6 K4 K3 K2 K1; unfold applyModel; grind
    refine ret2cc rfl ag35 ag42 hF hS (i := 4) (i' := 3) rfl rfl sz35 sz42 rfl rfl ?_
    rw [e]
    exact ⟨[p13, q13], rfl, hS.part_of [1, 2] (by decide) rfl⟩
  refine ws fun K12 hK12 => ?_
  refine wl hF rfl rfl rfl (r_field fo41_0 (hF.ev rfl)) ?_; clear hF a; intro a hF
  refine wl hF rfl rfl rfl (r_load1 sc3 (hF.ev rfl) (hS.box (i := 5) rfl rfl)) ?_; clear hF a; intro a hF
  refine wl hF rfl rfl rfl (r_eql (hF.ev rfl) ec) ?_; clear hF a; intro a hF
  refine wl_mvs (A := [_]) hF rfl ?_; clear hF a; intro a hF
  apply wl_or (A := [_, _, _, _]) (pk := 65) hF hS (tc := 61) rfl
  ·
    intro hg61 a hF; try simp only [zb1, zb2, zb3, zb4, zb5, zb6, zb7, zb8] at hg61
    refine wl_take hF rfl rfl rfl rfl ?_
    refine wl hF rfl rfl rfl (r_field fo41_0 (hF.ev rfl)) ?_; clear hF a; intro a hF
    refine wl_take hF rfl rfl rfl rfl ?_
    refine wl hF rfl rfl rfl (r_load1 sc3 (hF.ev rfl) (hS.box (i := 5) rfl rfl)) ?_; clear hF a; intro a hF
    refine wl_take hF rfl rfl rfl rfl ?_
    refine wl hF rfl rfl rfl (r_eql (hF.ev rfl) ec) ?_; clear hF a; intro a hF
    refine wl hF rfl rfl rfl (r_pick_f (hF.ev rfl) (hF.ev rfl)) ?_; clear hF a; intro a hF
    exact wl_nil ⟨rfl, (Fr.pre (A := [_, _, _, _]) hF rfl).keep hF (t := 65) rfl, hS⟩
  ·
    intro hg61 a hF; try simp only [zb1, zb2, zb3, zb4, zb5, zb6, zb7, zb8] at hg61
    refine wl_mvs (A := [_, _, _]) hF rfl ?_; clear hF a; intro a hF
    refine wl hF rfl rfl rfl (r_pick_t (hF.ev rfl) ec) ?_; clear hF a; intro a hF
    exact wl_nil ⟨rfl, (Fr.pre (A := [_, _, _, _]) hF rfl).keep hF (t := 65) rfl, hS⟩
  clear hF a hS; intro a w21 hF hS
  refine wl_mvs (A := [_]) hF rfl ?_; clear hF a; intro a hF
  apply wl_and (A := [_, _, _, _]) (pk := 70) hF hS (tc := 66) rfl
  ·
    intro hg66 a hF; try simp only [zb1, zb2, zb3, zb4, zb5, zb6, zb7, zb8] at hg66
    refine wl_mvs (A := [_]) hF rfl ?_; clear hF a; intro a hF
    refine wl_take hF rfl rfl rfl rfl ?_
    refine wl hF rfl rfl rfl (r_len ul24 (hF.ev rfl)) ?_; clear hF a; intro a hF
    refine wl_take hF rfl rfl rfl rfl ?_
    refine wl hF rfl rfl rfl (r_eql (hF.ev rfl) ec) ?_; clear hF a; intro a hF
    refine wl hF rfl rfl rfl (r_pick_t (hF.ev rfl) (hF.ev rfl)) ?_; clear hF a; intro a hF
    exact wl_nil ⟨rfl, (Fr.pre (A := [_, _, _, _]) hF rfl).keep hF (t := 70) rfl, hS⟩
  ·
    intro hg66 a hF; try simp only [zb1, zb2, zb3, zb4, zb5, zb6, zb7, zb8] at hg66
    refine wl_mvs (A := [_, _, _]) hF rfl ?_; clear hF a; intro a hF
    refine wl hF rfl rfl rfl (r_pick_f (hF.ev rfl) ec) ?_; clear hF a; intro a hF
    exact wl_nil ⟨rfl, (Fr.pre (A := [_, _, _, _]) hF rfl).keep hF (t := 70) rfl, hS⟩
  clear hF a hS; intro a w22 hF hS
  refine wl_mvs (A := [_]) hF rfl ?_; clear hF a; intro a hF
  refine wl_nil (hK12 _ _ ?_)
  refine wc_fx (t := 57) hF rfl ?_ ?_ <;> clear hF <;> intro c57 hF <;> try simp only [zb1, zb2, zb3, zb4, zb5, zb6, zb7, zb8] at c57
  ·
    refine ws fun K13 hK13 => ?_
    refine wl hF rfl rfl rfl (r_loadn ag35 (hF.ev rfl) (hS.box_rd (i := 0) rfl) sz35) ?_; clear hF a; intro a hF
    refine wl hF rfl rfl rfl (r_build (bd42_0 _) ⟨rfl, ec, trivial⟩) ?_; clear hF a; intro a hF
    refine wl_storew hF hS (i := 4) rfl (hF.ev rfl) (hF.ev rfl) sz35 rfl rfl ?_; intro w23 hS_; replace hS := hS_; clear hS_; dsimp only [List.set, Nat.reduceAdd] at hS
    refine wl_storew hF hS (i := 3) rfl (hF.ev rfl) (hF.ev rfl) sz42 rfl rfl ?_; intro w24 hS_; replace hS := hS_; clear hS_; dsimp only [List.set, Nat.reduceAdd] at hS
    refine wl_nil (hK13 _ _ ?_)
    refine wp_ret ?_
    try simp only [Exit.then, Exit.inBlock, ↓reduceIte]
    have e : applyModel c m p o = (m, ⟨3, 0⟩) := by clear hF hS a hK13 hK12 hK10 hK8 hK7 hK6 hK4 hK3 hK2 hK1 K13 K12 K10 K8 K7 K6 K4 K3 K2 K1; unfold applyModel; grind
    refine ret2cc rfl ag35 ag42 hF hS (i := 4) (i' := 3) rfl rfl sz35 sz42 rfl rfl ?_
    rw [e]
    exact ⟨[p13, q13], rfl, hS.part_of [1, 2] (by decide) rfl⟩
  refine wp_skip ?_
  simp only [Exit.then, Exit.inBlock, ↓reduceIte]
  refine hK7 _ _ ?_
  refine wp_seq_k fun K14 hK14 => ?_
  refine ws fun K15 hK15 => ?_
  refine wl hF rfl rfl rfl (r_field fo41_0 (hF.ev rfl)) ?_; clear hF a; intro a hF
  refine wl hF rfl rfl rfl (r_load1 sc3 (hF.ev rfl) (hS.box (i := 5) rfl rfl)) ?_; clear hF a; intro a hF
  refine wl_nil (hK15 _ _ ?_)
  refine wp_block ?_
  refine ws fun K16 hK16 => ?_
  refine wl hF rfl rfl rfl (r_eql (hF.ev rfl) ec) ?_; clear hF a; intro a hF
  refine wl_mvs (A := [_]) hF rfl ?_; clear hF a; intro a hF
  refine wl_nil (hK16 _ _ ?_)
  refine wc_fx (t := 75) hF rfl ?_ ?_ <;> clear hF <;> intro c75 hF <;> try simp only [zb1, zb2, zb3, zb4, zb5, zb6, zb7, zb8] at c75
  ·
    refine wp_region_todo (is := [0, 1, 2, 3, 4, 5, 6, 7]) [] [7] (by kernel_rfl) hF hS ⟨trivial, by decide, by decide, by decide⟩ (by kernel_rfl) ?_; clear hF; intro hl_ wd hSd
    refine todo_pure hl_ (by kernel_rfl) rfl (gw0 rfl) rfl rfl rfl (fun a w_ hF => r_field fo35_1 (hF.ev rfl)) ?_
    refine todo_load [6, 7] hl_ (by kernel_rfl) rfl (gw0 rfl) rfl rfl rfl (fun a w_ hF hB_ => r_load1 sc25 (hF.ev rfl) ((hSd.ext hB_).box (i := 0) rfl rfl)) ?_
    refine todo_pure hl_ (by kernel_rfl) rfl (gw0 rfl) rfl rfl rfl (fun a w_ hF => r_move (hF.ev rfl)) ?_
    refine todo_pure hl_ (by kernel_rfl) rfl (gw0 rfl) rfl rfl rfl (fun a w_ hF => r_field fo35_0 (hF.ev rfl)) ?_
    refine todo_load [5, 6, 7] hl_ (by kernel_rfl) rfl (gw0 rfl) rfl rfl rfl (fun a w_ hF hB_ => r_load1 sc24 (hF.ev rfl) ((hSd.ext hB_).box (i := 6) rfl rfl)) ?_
    refine todo_mk hl_ rfl (by kernel_rfl) rfl rfl rfl rfl rfl (fun a w_ hF => r_call1 en70 (hF.ev rfl)) (fun w_ hS => cloneI_c (hS.rd r0) (by omega)) ?_; rintro s82
    obtain ⟨g83, o83, m83, q83, cs83, hv83, hm83, hl83, hk83, hz83, hc83⟩ := Rd.idx ((hSd.own_rd (i := 2) rfl)) (at0_get (i := p) (by omega) (by omega))
    obtain ⟨v83, rfl, hr83⟩ := hk83; obtain ⟨Ae83, qe83, rfl, _, hme83⟩ := hr83.sl; unfold maxLen at hme83
    refine todo_pure hl_ (by kernel_rfl) rfl (gw0 rfl) rfl rfl rfl (fun a w_ hF => r_index sl25 ((hF.ev rfl).trans hv83) (hF.ev rfl) (by omega) (by first | omega | (simp at hm83; omega))) ?_
    refine todo_fin hl_ rfl (by kernel_rfl) (tl := [_]) rfl ?_; clear hS a; intro a w25 hF hA_
    have hS := hA_.sep; clear hA_
    clear hl_; try clear hSd
    try dsimp only [List.cons_append, List.nil_append, List.set] at hS
    try clear wd
    replace hS := hS.pull (p := 0) rfl; dsimp only [List.eraseIdx] at hS
    refine wl_sput (s := (_, _, _)) (q := 2) hF hS rfl hv83 (by omega) (by omega) sz24 (hF.ev rfl) rfl (hF.ev rfl) rfl ?_; intro w26 hS_; replace hS := hS_; clear hS_; dsimp only [List.set] at hS
    refine wl_nil ⟨rfl, ?_⟩
    simp only [Exit.then, Exit.inBlock, ↓reduceIte]
    refine hK14 _ _ ?_
    refine ws fun K17 hK17 => ?_
    refine wl hF rfl rfl rfl (r_loadn ag35 (hF.ev rfl) (hS.box_rd (i := 0) rfl) sz35) ?_; clear hF a; intro a hF
    refine wl hF rfl rfl rfl (r_build (bd42) trivial) ?_; clear hF a; intro a hF
    refine wl_storew hF hS (i := 4) rfl (hF.ev rfl) (hF.ev rfl) sz35 rfl rfl ?_; intro w27 hS_; replace hS := hS_; clear hS_; dsimp only [List.set, Nat.reduceAdd] at hS
    refine wl_storew hF hS (i := 3) rfl (hF.ev rfl) (hF.ev rfl) sz42 rfl rfl ?_; intro w28 hS_; replace hS := hS_; clear hS_; dsimp only [List.set, Nat.reduceAdd] at hS
    refine wl_nil (hK17 _ _ ?_)
    refine wp_ret ?_
    try simp only [Exit.then, Exit.inBlock, ↓reduceIte]
    have e : applyModel c m p o = (⟨m.values, m.snapshots.set p.toNat m.values⟩, ⟨0, 0⟩) := by clear hF hS a hK17 hK16 hK15 hK14 hK12 hK10 hK8 hK7 hK6 hK4 hK3 hK2 hK1 K17 K16 K15 K14 K12 K10 K8 K7 K6 K4 K3 K2 K1; unfold applyModel; grind
    refine ret2cc rfl ag35 ag42 hF hS (i := 4) (i' := 3) rfl rfl sz35 sz42 rfl rfl ?_
    rw [e]
    exact ⟨[p13, q13], rfl, hS.part_of [1, 2] (by decide) rfl⟩
  refine ws fun K18 hK18 => ?_
  refine wl hF rfl rfl rfl (r_eql (hF.ev rfl) ec) ?_; clear hF a; intro a hF
  refine wl_mvs (A := [_]) hF rfl ?_; clear hF a; intro a hF
  refine wl_nil (hK18 _ _ ?_)
  refine wc_fx (t := 84) hF rfl ?_ ?_ <;> clear hF <;> intro c84 hF <;> try simp only [zb1, zb2, zb3, zb4, zb5, zb6, zb7, zb8] at c84
  ·
    refine wp_region_lit ?_
    refine wl hF rfl rfl rfl (r_field fo35_1 (hF.ev rfl)) ?_; clear hF a; intro a hF
    refine wl hF rfl rfl rfl (r_load1 sc25 (hF.ev rfl) (hS.box (i := 0) rfl rfl)) ?_; clear hF a; intro a hF
    refine wl_mvs (A := [_]) hF rfl ?_; clear hF a; intro a hF
    obtain ⟨g89, o89, m89, q89, cs89, hv89, hm89, hl89, hk89, hz89, hc89⟩ := Rd.at ((hS.own_rd (i := 2) rfl)) (a := a) (X := .tmp 88) (hF.ev rfl) (by omega) (by omega)
    obtain ⟨v89, rfl, hr89⟩ := hk89; obtain ⟨Ae89, qe89, rfl, _, hme89⟩ := hr89.sl; unfold maxLen at hme89
    refine wl hF rfl rfl rfl (r_index sl25 ((hF.ev rfl).trans hv89) (hF.ev rfl) (by omega) (by first | omega | (simp at hm89; omega))) ?_; clear hF a; intro a hF
    replace hS := hS.own_nil intEK
    refine wl_sput (s := (_, _, _)) (q := 2) hF hS rfl hv89 (by omega) (by omega) sz24 (hF.ev rfl) rfl ec rfl ?_; intro w29 hS_; replace hS := hS_; clear hS_; dsimp only [List.set] at hS
    refine wl_nil ?_
    simp only [Exit.then, Exit.inBlock, ↓reduceIte]
    refine hK14 _ _ ?_
    refine ws fun K19 hK19 => ?_
    refine wl hF rfl rfl rfl (r_loadn ag35 (hF.ev rfl) (hS.box_rd (i := 0) rfl) sz35) ?_; clear hF a; intro a hF
    refine wl hF rfl rfl rfl (r_build (bd42) trivial) ?_; clear hF a; intro a hF
    refine wl_storew hF hS (i := 4) rfl (hF.ev rfl) (hF.ev rfl) sz35 rfl rfl ?_; intro w30 hS_; replace hS := hS_; clear hS_; dsimp only [List.set, Nat.reduceAdd] at hS
    refine wl_storew hF hS (i := 3) rfl (hF.ev rfl) (hF.ev rfl) sz42 rfl rfl ?_; intro w31 hS_; replace hS := hS_; clear hS_; dsimp only [List.set, Nat.reduceAdd] at hS
    refine wl_nil (hK19 _ _ ?_)
    refine wp_ret ?_
    try simp only [Exit.then, Exit.inBlock, ↓reduceIte]
    have e : applyModel c m p o = (⟨m.values, m.snapshots.set p.toNat []⟩, ⟨0, 0⟩) := by clear hF hS a hK19 hK18 hK16 hK15 hK14 hK12 hK10 hK8 hK7 hK6 hK4 hK3 hK2 hK1 K19 K18 K16 K15 K14 K12 K10 K8 K7 K6 K4 K3 K2 K1; unfold applyModel; grind
    refine ret2cc rfl ag35 ag42 hF hS (i := 4) (i' := 3) rfl rfl sz35 sz42 rfl rfl ?_
    rw [e]
    exact ⟨[p13, q13], rfl, hS.part_of [1, 2] (by decide) rfl⟩
  refine ws fun K20 hK20 => ?_
  refine wl hF rfl rfl rfl (r_eql (hF.ev rfl) ec) ?_; clear hF a; intro a hF
  refine wl_mvs (A := [_]) hF rfl ?_; clear hF a; intro a hF
  refine wl_nil (hK20 _ _ ?_)
  refine wc_fx (t := 90) hF rfl ?_ ?_ <;> clear hF <;> intro c90 hF <;> try simp only [zb1, zb2, zb3, zb4, zb5, zb6, zb7, zb8] at c90
  ·
    refine wp_region_lit ?_
    refine wl hF rfl rfl rfl (r_field fo35_0 (hF.ev rfl)) ?_; clear hF a; intro a hF
    refine wl hF rfl rfl rfl (r_load1 sc24 (hF.ev rfl) (hS.box (i := 0) rfl rfl)) ?_; clear hF a; intro a hF
    refine wl hF rfl rfl rfl (r_field fo41_1 (hF.ev rfl)) ?_; clear hF a; intro a hF
    refine wl hF rfl rfl rfl (r_load1 sc3 (hF.ev rfl) (hS.box (i := 5) rfl rfl)) ?_; clear hF a; intro a hF
    refine wl hF rfl rfl rfl (r_field fo41_2 (hF.ev rfl)) ?_; clear hF a; intro a hF
    refine wl hF rfl rfl rfl (r_load1 sc3 (hF.ev rfl) (hS.box (i := 5) rfl rfl)) ?_; clear hF a; intro a hF
    obtain ⟨g98, o98, m98, q98, hv98, hm98, hl98, hc98⟩ := Rd.atF ((hS.own_rd (i := 1) rfl)) (a := a) (X := .tmp 95) (hF.ev rfl) (by omega) (by omega)
    refine wl hF rfl rfl rfl (r_index sl24 ((hF.ev rfl).trans hv98) (hF.ev rfl) (by omega) (by first | omega | (simp at hm98; omega))) ?_; clear hF a; intro a hF
    refine wl_istore (q := 1) hF hS rfl hv98 (by omega) (by omega) sz3 (hF.ev rfl) rfl (hF.ev rfl) ?_; intro w32 hS_; replace hS := hS_; clear hS_; dsimp only [List.set] at hS
    refine wl_nil ?_
    simp only [Exit.then, Exit.inBlock, ↓reduceIte]
    refine hK14 _ _ ?_
    refine ws fun K21 hK21 => ?_
    refine wl hF rfl rfl rfl (r_loadn ag35 (hF.ev rfl) (hS.box_rd (i := 0) rfl) sz35) ?_; clear hF a; intro a hF
    refine wl hF rfl rfl rfl (r_build (bd42) trivial) ?_; clear hF a; intro a hF
    refine wl_storew hF hS (i := 4) rfl (hF.ev rfl) (hF.ev rfl) sz35 rfl rfl ?_; intro w33 hS_; replace hS := hS_; clear hS_; dsimp only [List.set, Nat.reduceAdd] at hS
    refine wl_storew hF hS (i := 3) rfl (hF.ev rfl) (hF.ev rfl) sz42 rfl rfl ?_; intro w34 hS_; replace hS := hS_; clear hS_; dsimp only [List.set, Nat.reduceAdd] at hS
    refine wl_nil (hK21 _ _ ?_)
    refine wp_ret ?_
    try simp only [Exit.then, Exit.inBlock, ↓reduceIte]
    have e : applyModel c m p o = (⟨m.values.set o.key.toNat o.value, m.snapshots⟩, ⟨0, 0⟩) := by clear hF hS a hK21 hK20 hK18 hK16 hK15 hK14 hK12 hK10 hK8 hK7 hK6 hK4 hK3 hK2 hK1 K21 K20 K18 K16 K15 K14 K12 K10 K8 K7 K6 K4 K3 K2 K1; unfold applyModel; grind
    refine ret2cc rfl ag35 ag42 hF hS (i := 4) (i' := 3) rfl rfl sz35 sz42 rfl rfl ?_
    rw [e]
    exact ⟨[p13, q13], rfl, hS.part_of [1, 2] (by decide) rfl⟩
  refine ws fun K22 hK22 => ?_
  refine wl hF rfl rfl rfl (r_eql (hF.ev rfl) ec) ?_; clear hF a; intro a hF
  refine wl_mvs (A := [_]) hF rfl ?_; clear hF a; intro a hF
  refine wl_nil (hK22 _ _ ?_)
  refine wc_fx (t := 99) hF rfl ?_ ?_ <;> clear hF <;> intro c99 hF <;> try simp only [zb1, zb2, zb3, zb4, zb5, zb6, zb7, zb8] at c99
  ·
    have hl0 : (0 : Int) < (at0 m.snapshots p).length := by omega
    have hsn := isModel_snap (c30.1.1) (at0_mem (by omega) (by omega)) hl0
    refine wp_seq_k fun K23 hK23 => ?_
    refine ws fun K24 hK24 => ?_
    refine wl_mvs (A := [_]) hF rfl ?_; clear hF a; intro a hF
    refine wl hF rfl rfl rfl (r_field fo41_1 (hF.ev rfl)) ?_; clear hF a; intro a hF
    refine wl hF rfl rfl rfl (r_load1 sc3 (hF.ev rfl) (hS.box (i := 5) rfl rfl)) ?_; clear hF a; intro a hF
    obtain ⟨g104, o104, m104, q104, hv104, hm104, hl104, hc104⟩ := Rd.atF (hr36) (a := a) (X := .tmp 103) (hF.ev rfl) (by omega) (by omega)
    refine wl hF rfl rfl rfl (r_index sl24 ((hF.ev rfl).trans hv104) (hF.ev rfl) (by omega) (by first | omega | (simp at hm104; omega))) ?_; clear hF a; intro a hF
    refine wl hF rfl rfl rfl (r_load1 sc3 (hF.ev rfl) (cellB hS.old (hc104 0 _ rfl))) ?_; clear hF a; intro a hF
    refine wl hF rfl rfl rfl (r_lss (hF.ev rfl) ec) ?_; clear hF a; intro a hF
    refine wl_nil (hK24 _ _ ?_)
    refine wc_fx (t := 106) hF rfl ?_ ?_ <;> clear hF <;> intro c106 hF <;> try simp only [zb1, zb2, zb3, zb4, zb5, zb6, zb7, zb8] at c106
    ·
      refine ws fun K25 hK25 => ?_
      refine wl hF rfl rfl rfl (r_loadn ag35 (hF.ev rfl) (hS.box_rd (i := 0) rfl) sz35) ?_; clear hF a; intro a hF
      refine wl hF rfl rfl rfl (r_build (bd42_0 _) ⟨rfl, ec, trivial⟩) ?_; clear hF a; intro a hF
      refine wl_storew hF hS (i := 4) rfl (hF.ev rfl) (hF.ev rfl) sz35 rfl rfl ?_; intro w35 hS_; replace hS := hS_; clear hS_; dsimp only [List.set, Nat.reduceAdd] at hS
      refine wl_storew hF hS (i := 3) rfl (hF.ev rfl) (hF.ev rfl) sz42 rfl rfl ?_; intro w36 hS_; replace hS := hS_; clear hS_; dsimp only [List.set, Nat.reduceAdd] at hS
      refine wl_nil (hK25 _ _ ?_)
      refine wp_ret ?_
      try simp only [Exit.then, Exit.inBlock, ↓reduceIte]
      have e : applyModel c m p o = (m, ⟨1, 0⟩) := by clear hF hS a hK25 hK24 hK23 hK22 hK20 hK18 hK16 hK15 hK14 hK12 hK10 hK8 hK7 hK6 hK4 hK3 hK2 hK1 K25 K24 K23 K22 K20 K18 K16 K15 K14 K12 K10 K8 K7 K6 K4 K3 K2 K1; unfold applyModel; grind
      refine ret2cc rfl ag35 ag42 hF hS (i := 4) (i' := 3) rfl rfl sz35 sz42 rfl rfl ?_
      rw [e]
      exact ⟨[p13, q13], rfl, hS.part_of [1, 2] (by decide) rfl⟩
    refine wp_skip ?_
    refine hK23 _ _ ?_
    refine wp_seq_k fun K26 hK26 => ?_
    refine wp_region_todo (is := [0, 1, 2, 3, 4, 5, 6, 7, 8]) [] [7, 8] (by kernel_rfl) hF hS ⟨trivial, by decide, by decide, by decide⟩ (by kernel_rfl) ?_; clear hF; intro hl_ wd hSd
    refine todo_load [7, 8] hl_ (by kernel_rfl) rfl (gw0 rfl) rfl rfl rfl (fun a w_ hF hB_ => r_loadn ag35 (hF.ev rfl) ((hSd.ext hB_).box_rd (i := 0) rfl) sz35) ?_
    refine todo_pure hl_ (by kernel_rfl) rfl (gw0 rfl) rfl rfl rfl (fun a w_ hF => r_move (hF.ev rfl)) ?_
    refine todo_pure hl_ (by kernel_rfl) rfl (gw0 rfl) rfl rfl rfl (fun a w_ hF => r_field fo41_1 (hF.ev rfl)) ?_
    refine todo_fork [(3, [4, 5, 6, 7, 8]), (7, [3, 4, 5, 6, 8])] hl_ rfl (by kernel_rfl) (List.forall_mem_cons.2 ⟨?_, List.forall_mem_cons.2 ⟨?_, fun _ h_ => nomatch h_⟩⟩)
    ·
      refine op_ld rfl rfl (gw0 rfl) rfl rfl rfl (fun a w_ hF hS => r_load1 sc3 (hF.ev rfl) (hS.box (i := 5) rfl rfl)) ?_
      obtain ⟨g113, o113, m113, q113, hv113, hm113, hl113, hc113⟩ := Rd.idxF (hr36) (at0_get (i := o.key) (by omega) (by omega))
      refine todo_pure hl_ (by kernel_rfl) rfl (gw0 rfl) rfl rfl rfl (fun a w_ hF => r_index sl24 ((hF.ev rfl).trans hv113) (hF.ev rfl) (by omega) (by first | omega | (simp at hm113; omega))) ?_
      refine todo_fork [(5, [6, 7, 8]), (7, [5, 6, 8])] hl_ rfl (by kernel_rfl) (List.forall_mem_cons.2 ⟨?_, List.forall_mem_cons.2 ⟨?_, fun _ h_ => nomatch h_⟩⟩)
      ·
        refine op_ld rfl rfl (gw0 rfl) rfl rfl rfl (fun a w_ hF hS => r_load1 sc3 (hF.ev rfl) (cellB hS.old (hc113 0 _ rfl))) ?_
        refine todo_pure hl_ (by kernel_rfl) rfl (gw0 rfl) rfl rfl rfl (fun a w_ hF => r_build (bd42_1 _) ⟨rfl, (hF.ev rfl), trivial⟩) ?_
        refine todo_fin hl_ rfl (by kernel_rfl) (tl := [_, _]) rfl ?_; clear hS a; intro a w37 hF hA_
        have hS := hA_.sep; clear hA_
        clear hl_; try clear hSd
        try dsimp only [List.cons_append, List.nil_append, List.set] at hS
        try clear wd
        refine wl_storew hF hS (i := 4) rfl (hF.ev rfl) (hF.ev rfl) sz35 rfl rfl ?_; intro w38 hS_; replace hS := hS_; clear hS_; dsimp only [List.set, Nat.reduceAdd] at hS
        refine wl_storew hF hS (i := 3) rfl (hF.ev rfl) (hF.ev rfl) sz42 rfl rfl ?_; intro w39 hS_; replace hS := hS_; clear hS_; dsimp only [List.set, Nat.reduceAdd] at hS
        refine wl_nil ⟨rfl, ?_⟩
        refine hK26 _ _ ?_
        refine wp_ret ?_
        try simp only [Exit.then, Exit.inBlock, ↓reduceIte]
        have e : applyModel c m p o = (m, ⟨0, at0 (at0 m.snapshots p) o.key⟩) := by clear hF hS a hK26 hK24 hK23 hK22 hK20 hK18 hK16 hK15 hK14 hK12 hK10 hK8 hK7 hK6 hK4 hK3 hK2 hK1 K26 K24 K23 K22 K20 K18 K16 K15 K14 K12 K10 K8 K7 K6 K4 K3 K2 K1; unfold applyModel; grind
        refine ret2cc rfl ag35 ag42 hF hS (i := 4) (i' := 3) rfl rfl sz35 sz42 rfl rfl ?_
        rw [e]
        exact ⟨[p13, q13], rfl, hS.part_of [1, 2] (by decide) rfl⟩
      ·
        refine op_st (j := 4) (m' := [8]) rfl rfl (by kernel_rfl) rfl (fun a hF => (hF.ev rfl)) (fun a hF => (hF.ev rfl)) sz35 rfl rfl ?_; try clear hSd; try clear wd; intro wd hSd; try dsimp only [List.set] at hSd
        refine todo_load [6, 8] hl_ (by kernel_rfl) rfl (gw0 rfl) rfl rfl rfl (fun a w_ hF hB_ => r_load1 sc3 (hF.ev rfl) (cellB (hSd.ext hB_).old (hc113 0 _ rfl))) ?_
        refine todo_pure hl_ (by kernel_rfl) rfl (gw0 rfl) rfl rfl rfl (fun a w_ hF => r_build (bd42_1 _) ⟨rfl, (hF.ev rfl), trivial⟩) ?_
        refine todo_fin hl_ rfl (by kernel_rfl) (tl := [_]) rfl ?_; clear hS a; intro a w40 hF hA_
        have hS := hA_.sep; clear hA_
        clear hl_; try clear hSd
        try dsimp only [List.cons_append, List.nil_append, List.set] at hS
        try clear wd
        refine wl_storew hF hS (i := 3) rfl (hF.ev rfl) (hF.ev rfl) sz42 rfl rfl ?_; intro w41 hS_; replace hS := hS_; clear hS_; dsimp only [List.set, Nat.reduceAdd] at hS
        refine wl_nil ⟨rfl, ?_⟩
        refine hK26 _ _ ?_
        refine wp_ret ?_
        try simp only [Exit.then, Exit.inBlock, ↓reduceIte]
        have e : applyModel c m p o = (m, ⟨0, at0 (at0 m.snapshots p) o.key⟩) := by clear hF hS a hK26 hK24 hK23 hK22 hK20 hK18 hK16 hK15 hK14 hK12 hK10 hK8 hK7 hK6 hK4 hK3 hK2 hK1 K26 K24 K23 K22 K20 K18 K16 K15 K14 K12 K10 K8 K7 K6 K4 K3 K2 K1; unfold applyModel; grind
        refine ret2cc rfl ag35 ag42 hF hS (i := 4) (i' := 3) rfl rfl sz35 sz42 rfl rfl ?_
        rw [e]
        exact ⟨[p13, q13], rfl, hS.part_of [1, 2] (by decide) rfl⟩
    ·
      refine op_st (j := 4) (m' := [8]) rfl rfl (by kernel_rfl) rfl (fun a hF => (hF.ev rfl)) (fun a hF => (hF.ev rfl)) sz35 rfl rfl ?_; try clear hSd; try clear wd; intro wd hSd; try dsimp only [List.set] at hSd
      refine todo_load [4, 5, 6, 8] hl_ (by kernel_rfl) rfl (gw0 rfl) rfl rfl rfl (fun a w_ hF hB_ => r_load1 sc3 (hF.ev rfl) ((hSd.ext hB_).box (i := 5) rfl rfl)) ?_
      obtain ⟨g113, o113, m113, q113, hv113, hm113, hl113, hc113⟩ := Rd.idxF (hr36) (at0_get (i := o.key) (by omega) (by omega))
      refine todo_pure hl_ (by kernel_rfl) rfl (gw0 rfl) rfl rfl rfl (fun a w_ hF => r_index sl24 ((hF.ev rfl).trans hv113) (hF.ev rfl) (by omega) (by first | omega | (simp at hm113; omega))) ?_
      refine todo_load [6, 8] hl_ (by kernel_rfl) rfl (gw0 rfl) rfl rfl rfl (fun a w_ hF hB_ => r_load1 sc3 (hF.ev rfl) (cellB (hSd.ext hB_).old (hc113 0 _ rfl))) ?_
      refine todo_pure hl_ (by kernel_rfl) rfl (gw0 rfl) rfl rfl rfl (fun a w_ hF => r_build (bd42_1 _) ⟨rfl, (hF.ev rfl), trivial⟩) ?_
      refine todo_fin hl_ rfl (by kernel_rfl) (tl := [_]) rfl ?_; clear hS a; intro a w42 hF hA_
      have hS := hA_.sep; clear hA_
      clear hl_; try clear hSd
      try dsimp only [List.cons_append, List.nil_append, List.set] at hS
      try clear wd
      refine wl_storew hF hS (i := 3) rfl (hF.ev rfl) (hF.ev rfl) sz42 rfl rfl ?_; intro w43 hS_; replace hS := hS_; clear hS_; dsimp only [List.set, Nat.reduceAdd] at hS
      refine wl_nil ⟨rfl, ?_⟩
      refine hK26 _ _ ?_
      refine wp_ret ?_
      try simp only [Exit.then, Exit.inBlock, ↓reduceIte]
      have e : applyModel c m p o = (m, ⟨0, at0 (at0 m.snapshots p) o.key⟩) := by clear hF hS a hK26 hK24 hK23 hK22 hK20 hK18 hK16 hK15 hK14 hK12 hK10 hK8 hK7 hK6 hK4 hK3 hK2 hK1 K26 K24 K23 K22 K20 K18 K16 K15 K14 K12 K10 K8 K7 K6 K4 K3 K2 K1; unfold applyModel; grind
      refine ret2cc rfl ag35 ag42 hF hS (i := 4) (i' := 3) rfl rfl sz35 sz42 rfl rfl ?_
      rw [e]
      exact ⟨[p13, q13], rfl, hS.part_of [1, 2] (by decide) rfl⟩
  refine wp_skip ?_
  simp only [Exit.then, Exit.inBlock, ↓reduceIte]
  refine hK14 _ _ ?_
  refine ws fun K27 hK27 => ?_
  refine wl hF rfl rfl rfl (r_loadn ag35 (hF.ev rfl) (hS.box_rd (i := 0) rfl) sz35) ?_; clear hF a; intro a hF
  refine wl hF rfl rfl rfl (r_build (bd42) trivial) ?_; clear hF a; intro a hF
  refine wl_storew hF hS (i := 4) rfl (hF.ev rfl) (hF.ev rfl) sz35 rfl rfl ?_; intro w44 hS_; replace hS := hS_; clear hS_; dsimp only [List.set, Nat.reduceAdd] at hS
  refine wl_storew hF hS (i := 3) rfl (hF.ev rfl) (hF.ev rfl) sz42 rfl rfl ?_; intro w45 hS_; replace hS := hS_; clear hS_; dsimp only [List.set, Nat.reduceAdd] at hS
  refine wl_nil (hK27 _ _ ?_)
  refine wp_ret ?_
  try simp only [Exit.then, Exit.inBlock, ↓reduceIte]
  have e : applyModel c m p o = (m, ⟨0, 0⟩) := by clear hF hS a hK27 hK22 hK20 hK18 hK16 hK15 hK14 hK12 hK10 hK8 hK7 hK6 hK4 hK3 hK2 hK1 K27 K22 K20 K18 K16 K15 K14 K12 K10 K8 K7 K6 K4 K3 K2 K1; unfold applyModel; grind
  refine ret2cc rfl ag35 ag42 hF hS (i := 4) (i' := 3) rfl rfl sz35 sz42 rfl rfl ?_
  rw [e]
  exact ⟨[p13, q13], rfl, hS.part_of [1, 2] (by decide) rfl⟩

theorem eqResult_same {W : World} {x : Sl.Result} : Calls Try.prog 80 #[.agg x.enc.toArray, .agg x.enc.toArray] W (Ret fun v w' => v = .bool true ∧ Below W.heap.size W w') := by
  refine (eqResult_c (x := x) (y := x)).mono ?_
  rintro e w' ⟨v, rfl, rfl, hb⟩
  exact ⟨_, rfl, by simp, hb⟩
/-- how much a model holds then -/
theorem crow_set {xs : List (List Int)} {i : Nat} {y : List Int} (B : Nat) (h : y.length ≤ B) : crow List.length (xs.set i y) ≤ crow List.length xs + B := by
  induction xs generalizing i with
  | nil => simp [crow]
  | cons x xs ih =>
    cases i with
    | zero => simp only [List.set_cons_zero, crow]; omega
    | succ i => simp only [List.set_cons_succ, crow]; have := ih (i := i); omega
theorem applyModel_cnt {c : Config} {m : Model} {p : Int} {o : Sl.Op} : (applyModel c m p o).1.cnt ≤ m.cnt + m.values.length ∧ (applyModel c m p o).1.size ≤ m.size + m.values.length := by
  have h1 := crow_set (xs := m.snapshots) (i := p.toNat) (y := m.values) m.values.length (Nat.le_refl _)
  have h2 := crow_set (xs := m.snapshots) (i := p.toNat) (y := []) 0 (Nat.le_refl _)
  unfold applyModel
  repeat' split
  all_goals (simp only [Model.cnt, Model.size, List.length_set]; omega)
theorem Model.cnt_size (m : Model) : m.cnt ≤ m.size := by unfold Model.cnt Model.size; omega

end Go.Proofs.Yteldnoimmjihoaa.Wk
