/- Lemmas for the row of RwLz. -/
import Derived.Test.YtbgacfdnmbhloaaGreatClzD
set_option maxHeartbeats 4000000
set_option maxRecDepth 20000
namespace Go.Proofs.YtbgacfdnmbhloaaGreat.Wk
open Go Go.RowKit Sl
set_option linter.unusedVariables false
set_option linter.unusedSimpArgs false
set_option maxRecDepth 20000
/-- what ApplyModel answers -/
def applyModel (c : Config) (m : Model) (p : Int) (o : Sl.Op) : Model × Sl.Result :=
  if isModel c m = true ∧ o.ok ∧ (0 ≤ p ∧ p ≤ c.threads - 1) then
    if c.keys ≤ o.key then (m, ⟨4, 0⟩)
    else if o.kind = 1 ∧ (0 : Int) < (at0 m.snapshots p).length then (m, ⟨6, 0⟩)
    else if (o.kind = 2 ∨ o.kind = 4) ∧ ((at0 m.snapshots p).length : Int) = 0 then (m, ⟨3, 0⟩)
    else if o.kind = 1 then (⟨m.values, m.snapshots.set p.toNat m.values⟩, ⟨0, 0⟩)
    else if o.kind = 4 then (⟨m.values, m.snapshots.set p.toNat []⟩, ⟨0, 0⟩)
    else if o.kind = 3 then (⟨m.values.set o.key.toNat o.value, m.snapshots⟩, ⟨0, 0⟩)
    else if o.kind = 2 then if at0 (at0 m.snapshots p) o.key < 0 then (m, ⟨1, 0⟩) else (m, ⟨0, at0 (at0 m.snapshots p) o.key⟩)
    else (m, ⟨0, 0⟩)
  else (m, ⟨0, 0⟩)
section
variable {c : Config} {m : Model} {l : List Int}
theorem isModel_thr (h : isModel c m = true) : c.ok ∧ (m.snapshots.length : Int) = c.threads := by
 unfold isModel at h
 simp only [Bool.and_eq_true, decide_eq_true_eq] at h
 exact ⟨h.1, h.2.2.1⟩
theorem isModel_vals (h : isModel c m = true) : (m.values.length : Int) = c.keys := by
 unfold isModel valOk at h
 simp only [Bool.and_eq_true, decide_eq_true_eq] at h
 exact h.2.1.2
theorem isModel_snap (h : isModel c m = true) (hl : l ∈ m.snapshots) (h0 : (0 : Int) < l.length) : (l.length : Int) = c.keys := by
 unfold isModel at h
 simp only [Bool.and_eq_true, decide_eq_true_eq] at h
 have := List.all_eq_true.1 h.2.2.2 l hl
 simp only [h0, decide_true, Bool.not_true, Bool.false_or] at this
 unfold valOk at this
 simp only [Bool.and_eq_true, decide_eq_true_eq] at this
 exact this.2
end
theorem specCopyM_c {W : World} {m : Model} {cs : List Value} (hm : modelEK.K W m cs) (hz : m.size ≤ 1048576) : Calls Tryz.prog 52 #[.agg cs.toArray] W (Ret (Mk W (fun s : Slv × Slv => .agg #[sv s.1, sv s.2]) (fun s => [Own intEK (sv s.1) m.values, Own (sliceEK intEK) (sv s.2) m.snapshots]))) := by
 refine cfr Tryz.func52 Tryz.ntmps52 fun a hF => ?_
 have hS := Sep.refl W
 obtain ⟨v0, v1, rfl, r0, r1⟩ := hm
 obtain ⟨A_x, q_x, rfl, hq_x, hn_x⟩ := r0.sl; unfold maxLen at hn_x
 obtain ⟨A_y, q_y, rfl, hq_y, hn_y⟩ := r1.sl; unfold maxLen at hn_y
 unfold Model.size at hz
 refine ws fun K1 hK1 => wl_box (cs := [_, _]) hF hS rfl (hF.ev rfl) rfl fun g1 w1 a hS _ hF => wl_alloc hF hS rfl zr36 fun g2 w2 a hS _ hF => wl_nil <| hK1 _ _ <| ws fun K2 hK2 => wl_bslice intEK [] [] rfl hF hS rfl mk29 rfl trivial rfl rfl rfl rfl fun gl_5 w3 a hS hF => gB 2 2 hF hS rfl rfl rfl fun a hF => ?_
 refine wl_append0 hF hS rfl (hS.rd r0) mk29 rfl (by omega) (by unfold maxLen; omega) (hF.ev rfl) (hF.ev rfl) fun s8 w4 a hS hF => ?_
 refine wl hF rfl rfl rfl (r_build (bd36_0 _ _ _) ⟨rfl, (hF.ev rfl), trivial⟩) fun a hF => wl_alloc hF hS rfl zr36 fun g3 w5 a hS _ hF => ww 0 hF hS rfl rfl rfl rfl rfl rfl fun w6 hS => wl_nil <| hK2 _ _ <| wp_seq_k fun K3 hK3 => rg hF rfl fun a hF => wp_block ?_
 replace hS := hS.own_nil (sliceEK intEK)
 replace hS := hS.pull (p := 1) rfl; dsimp only [List.eraseIdx] at hS
 replace hS := hS.pull (p := 1) rfl; dsimp only [List.eraseIdx] at hS
 have hL_ := (((hF.nil.keep hF (t := 3) rfl).keep hF (t := 2) rfl).keep hF (t := 1) rfl)
 refine wp_loop_m (σ := Nat × Slv) (fun s L_ => (4, vi s.1) :: L_) (fun s l_ => (Own (sliceEK intEK) (sv s.2) (m.snapshots.take s.1)) :: (Box g3 [sv s8, sv s.2]) :: l_) (fun s => (s.1 ≤ m.snapshots.length)) (fun s => m.snapshots.length - s.1) (0, (none, 0, 0)) (hS) (hL_.keepE hF (t := 4) rfl rfl) ?_ ?_
 · exact Nat.zero_le _
 rintro ⟨k, q⟩ a w7 hk hS hF; try dsimp only at hF; try dsimp only at hS; try dsimp only at hk
 refine wp_seq_k fun K5 hK5 => rh 5 hF hS rfl rfl rfl fun a hF => cx 14 hF rfl (fun c14 hF => ?_) fun c14 hF => ?_
 ·
  have hlt : k < m.snapshots.length := by omega
  have hx := at0_nat hlt
  have hc1 := crow_le1 (c := List.length) hx
  refine wp_skip <| hK5 _ _ <| wp_seq_k fun K7 hK7 => wp_block ?_
  refine wp_region_todo (is := [0, 1, 3, 4, 5, 6, 7, 2, 8, 9, 10, 11, 12]) [] [10, 11, 12] (by kernel_rfl) hF hS ⟨trivial, by decide, by decide, by decide⟩ (by kernel_rfl) ?_; intro hl_ wd hSd
  refine tp 1 hl_ rfl <| todo_load [10, 11, 12] hl_ (by kernel_rfl) rfl (gw0 rfl) rfl rfl rfl (fun a w_ hF hB_ => r_load1 sc34 (hF.ev rfl) ((hSd.ext hB_).box (i := 1) rfl rfl)) <| tp 1 hl_ rfl <| todo_load [6, 7, 8, 9, 10, 11, 12] hl_ (by kernel_rfl) rfl (gw0 rfl) rfl rfl rfl (fun a w_ hF hB_ => r_load1 sc34 (hF.ev rfl) ((hSd.ext hB_).box (i := 5) rfl rfl)) <| tp 1 hl_ rfl ?_
  obtain ⟨g23, o23, m23, q23, cs23, hv23, hm23, hl23, hk23, hz23, hc23⟩ := Rd.idx (r1) hx
  obtain ⟨v23, rfl, hr23⟩ := hk23; obtain ⟨Ae23, qe23, rfl, _, hme23⟩ := hr23.sl; unfold maxLen at hme23
  refine todo_pure hl_ (by kernel_rfl) rfl (gw0 rfl) rfl rfl rfl (fun a w_ hF => r_index sl34 ((hF.ev rfl).trans hv23) (hF.ev rfl) (by omega) (by omega)) <| todo_load [8, 9, 10, 11, 12] hl_ (by kernel_rfl) rfl (gw0 rfl) rfl rfl rfl (fun a w_ hF hB_ => r_load1 sc29 (hF.ev rfl) (cellB (hSd.ext hB_).old (hc23 0 _ rfl))) ?_
  refine todo_op hl_ rfl (by kernel_rfl) rfl rfl rfl rfl rfl (fun a w_ hF hS => r_bslice intEK [] [] rfl mk29 rfl trivial rfl rfl rfl rfl) ?_; intro gl_19
  refine todo_op hl_ rfl (by kernel_rfl) rfl rfl rfl rfl rfl (fun a w_ hF hS => r_append0 (hS.rd hr23) mk29 rfl (by omega) (by unfold maxLen; omega) (hF.ev rfl) (hF.ev rfl)) ?_; intro s25
  refine todo_op hl_ rfl (by kernel_rfl) rfl rfl rfl rfl rfl (fun a w_ hF hS => r_bslice (rawEK 1) [sv s25] [raw (sliceEK intEK) (at0 m.snapshots (k : Int)) [s25]] rfl mk34 rfl ⟨rfl, (hF.ev rfl), trivial⟩ rfl rfl rfl rfl) ?_; intro gl_26
  refine todo_fin hl_ rfl (by kernel_rfl) (tl := [_, _, _]) rfl ?_; intro a w11 hF hA_
  have hS := hA_.sep; clear hA_
  clear hl_; try clear hSd
  try dsimp only [List.cons_append, List.nil_append, List.set] at hS
  try clear wd
  have hu_ := hS.own_rd (i := 0) rfl
  replace hS := hS.pull (p := 1) rfl; dsimp only [List.eraseIdx] at hS
  replace hS := hS.own_part (s := (_, _, _))
  replace hS := hS.pull (p := 3) rfl; dsimp only [List.eraseIdx] at hS
  refine wl_appendn (ek := (sliceEK intEK)) hF hS rfl hu_ mk34 rfl (hF.ev rfl) (hF.ev rfl) (by simp; omega) (by unfold maxLen; simp; omega) ?_; clear hF a hu_; intro A_27 c_27 w12 a hS_ hF; replace hS := hS_; clear hS_
  refine ga 1 hF rfl fun a hF => wv 3 hF hS rfl rfl rfl rfl rfl rfl fun w13 hS => wl_nil ⟨rfl, ?_⟩
  refine xt ?_
  refine hK7 _ _ <| rl hF rfl fun a hF => ?_
  refine xt ?_
  rw [← take_at0 (by omega)] at hS
  refine ⟨(k + 1, (A_27, _, c_27)), (by dsimp only; omega), (hS.pick [0, 3, 4, 5, 6, 7] (by decide) rfl), ((((hF.nil.keep hF (t := 3) rfl).keep hF (t := 2) rfl).keep hF (t := 1) rfl).keepE hF (t := 4) rfl (wk (by omega))), by dsimp only; omega⟩
 refine wp_exit ?_
 refine xt ?_
 refine hK3 _ _ <| ws fun K8 hK8 => gB 1 1 hF hS rfl rfl rfl fun a hF => ww 4 hF hS rfl rfl rfl rfl rfl rfl fun w14 hS => wl_nil (hK8 _ _ ?_)
 refine xr ?_
 obtain rfl : k = m.snapshots.length := by omega
 rw [List.take_length] at hS
 exact ret1c rfl ag36 hF hS (i := 4) rfl sz36 rfl ⟨(s8, q), rfl, hS.pick [2, 0] (by decide) rfl⟩
theorem implCopyM_c {W : World} {m : Model} {cs : List Value} (hm : modelEK.K W m cs) (hz : m.size ≤ 1048576) : Calls Tryz.prog 50 #[.agg cs.toArray] W (Ret (Mk W (fun s : Slv × Slv => .agg #[sv s.1, sv s.2]) (fun s => [Own intEK (sv s.1) m.values, Own (sliceEK intEK) (sv s.2) m.snapshots]))) := by
 refine cfr Tryz.func50 Tryz.ntmps50 fun a hF => ?_
 have hS := Sep.refl W
 obtain ⟨v0, v1, rfl, r0, r1⟩ := hm
 obtain ⟨A_x, q_x, rfl, hq_x, hn_x⟩ := r0.sl; unfold maxLen at hn_x
 obtain ⟨A_y, q_y, rfl, hq_y, hn_y⟩ := r1.sl; unfold maxLen at hn_y
 unfold Model.size at hz
 refine ws fun K1 hK1 => wl_box (cs := [_, _]) hF hS rfl (hF.ev rfl) rfl fun g1 w1 a hS _ hF => wl_alloc hF hS rfl zr36 fun g2 w2 a hS _ hF => wl_nil <| hK1 _ _ <| ws fun K2 hK2 => gB 2 1 hF hS rfl rfl rfl fun a hF => ?_
 refine wl_mk hF hS rfl rfl rfl (r_call1 en47 (hF.ev rfl)) (cloneI_c (hS.rd r0) (by omega)) ?_; rintro s8 w3 a hS_ hF; replace hS := hS_; clear hS_; dsimp only [List.cons_append, List.nil_append] at hS
 have hln8 := hS.own_len (q := 0) rfl
 refine wl hF rfl rfl rfl (r_build (bd36_0 _ _ _) ⟨rfl, (hF.ev rfl), trivial⟩) fun a hF => wl_alloc hF hS rfl zr36 fun g3 w4 a hS _ hF => ww 0 hF hS rfl rfl rfl rfl rfl rfl fun w5 hS => wl_nil <| hK2 _ _ <| wp_seq_k fun K3 hK3 => rh 3 hF hS rfl rfl rfl fun a hF => wp_block ?_
 replace hS := hS.own_nil (sliceEK intEK)
 replace hS := hS.pull (p := 1) rfl; dsimp only [List.eraseIdx] at hS
 replace hS := hS.pull (p := 1) rfl; dsimp only [List.eraseIdx] at hS
 have hL_ := ((((hF.nil.keep hF (t := 12) rfl).keep hF (t := 11) rfl).keep hF (t := 3) rfl).keep hF (t := 2) rfl)
 refine wp_loop_m (σ := Nat × Slv) (fun s L_ => (13, vi s.1) :: L_) (fun s l_ => (Own (sliceEK intEK) (sv s.2) (m.snapshots.take s.1)) :: (Box g3 [sv s8, sv s.2]) :: l_) (fun s => (s.1 ≤ m.snapshots.length)) (fun s => m.snapshots.length - s.1) (0, (none, 0, 0)) (hS) (hL_.keepE hF (t := 13) rfl rfl) ?_ ?_
 · exact Nat.zero_le _
 rintro ⟨k, q⟩ a w6 hk hS hF; try dsimp only at hF; try dsimp only at hS; try dsimp only at hk
 refine rg hF rfl fun a hF => wp_seq_k fun K6 hK6 => cx 14 hF rfl (fun c14 hF => ?_) fun c14 hF => ?_
 ·
  have hlt : k < m.snapshots.length := by omega
  have hx := at0_nat hlt
  have hc1 := crow_le1 (c := List.length) hx
  refine wp_skip <| hK6 _ _ <| wp_seq_k fun K7 hK7 => wp_block <| ws fun K8 hK8 => ?_
  obtain ⟨g15, o15, m15, q15, cs15, hv15, hm15, hl15, hk15, hz15, hc15⟩ := Rd.at (r1) (a := a) (X := .tmp 13) (hF.ev rfl) (by omega) (by omega)
  obtain ⟨v15, rfl, hr15⟩ := hk15; obtain ⟨Ae15, qe15, rfl, _, hme15⟩ := hr15.sl; unfold maxLen at hme15
  refine wl hF rfl rfl rfl (r_index sl34 ((hF.ev rfl).trans hv15) (hF.ev rfl) (by omega) (by first | omega | (simp at hm15; omega))) fun a hF => ?_
  refine wl hF rfl rfl rfl (r_load1 sc29 (hF.ev rfl) (cellB hS.old (hc15 0 _ rfl))) fun a hF => ge hK8 hF rfl fun a hF => ?_
  refine wp_region_todo (is := [0, 1, 2, 3, 4, 5, 6, 7]) [] [5, 6, 7] (by kernel_rfl) hF hS ⟨trivial, by decide, by decide, by decide⟩ (by kernel_rfl) ?_; intro hl_ wd hSd
  refine tp 1 hl_ rfl <| todo_load [5, 6, 7] hl_ (by kernel_rfl) rfl (gw0 rfl) rfl rfl rfl (fun a w_ hF hB_ => r_load1 sc34 (hF.ev rfl) ((hSd.ext hB_).box (i := 1) rfl rfl)) <| tp 1 hl_ rfl ?_
  refine todo_mk hl_ rfl (by kernel_rfl) rfl rfl rfl rfl rfl (fun a w_ hF => r_call1 en47 (hF.ev rfl)) (fun w_ hS => cloneI_c (hS.rd hr15) (by omega)) ?_; rintro s20
  refine todo_op hl_ rfl (by kernel_rfl) rfl rfl rfl rfl rfl (fun a w_ hF hS => r_bslice (rawEK 1) [sv s20] [raw (sliceEK intEK) (at0 m.snapshots (k : Int)) [s20]] rfl mk34 rfl ⟨rfl, (hF.ev rfl), trivial⟩ rfl rfl rfl rfl) ?_; intro gl_21
  refine todo_fin hl_ rfl (by kernel_rfl) (tl := [_, _, _]) rfl ?_; intro a w8 hF hA_
  have hS := hA_.sep; clear hA_
  clear hl_; try clear hSd
  try dsimp only [List.cons_append, List.nil_append, List.set] at hS
  try clear wd
  have hu_ := hS.own_rd (i := 0) rfl
  replace hS := hS.pull (p := 1) rfl; dsimp only [List.eraseIdx] at hS
  replace hS := hS.own_part (s := (_, _, _))
  replace hS := hS.pull (p := 2) rfl; dsimp only [List.eraseIdx] at hS
  refine wl_appendn (ek := (sliceEK intEK)) hF hS rfl hu_ mk34 rfl (hF.ev rfl) (hF.ev rfl) (by simp; omega) (by unfold maxLen; simp; omega) ?_; clear hF a hu_; intro A_22 c_22 w9 a hS_ hF; replace hS := hS_; clear hS_
  refine ga 1 hF rfl fun a hF => wv 2 hF hS rfl rfl rfl rfl rfl rfl fun w10 hS => wl_nil ⟨rfl, ?_⟩
  refine xt ?_
  refine hK7 _ _ <| rl hF rfl fun a hF => ?_
  refine xt ?_
  rw [← take_at0 (by omega)] at hS
  refine ⟨(k + 1, (A_22, _, c_22)), (by dsimp only; omega), (hS.pick [0, 2, 3, 4, 5] (by decide) rfl), (((((hF.nil.keep hF (t := 12) rfl).keep hF (t := 11) rfl).keep hF (t := 3) rfl).keep hF (t := 2) rfl).keepE hF (t := 13) rfl (wk (by omega))), by dsimp only; omega⟩
 refine wp_exit ?_
 refine xt ?_
 refine hK3 _ _ <| ws fun K9 hK9 => gB 1 1 hF hS rfl rfl rfl fun a hF => ww 3 hF hS rfl rfl rfl rfl rfl rfl fun w11 hS => wl_nil (hK9 _ _ ?_)
 refine xr ?_
 obtain rfl : k = m.snapshots.length := by omega
 rw [List.take_length] at hS
 exact ret1c rfl ag36 hF hS (i := 3) rfl sz36 rfl ⟨(s8, q), rfl, hS.pick [2, 0] (by decide) rfl⟩
theorem specApplyModel_c {W : World} {c : Config} {m : Model} {cs : List Value} {p : Int} {o : Sl.Op} (hm : modelEK.K W m cs) (hz : m.size ≤ 1048576) : Calls Tryz.prog 55 #[.agg c.enc.toArray, .agg cs.toArray, vi p, .agg o.enc.toArray] W (Ret (Mk W (fun vs => .tuple #[.agg (modelEK.cells (applyModel c m p o).1 vs).toArray, .agg (Sl.Result.enc (applyModel c m p o).2).toArray]) (fun vs => [Part modelEK (applyModel c m p o).1 vs]))) := by
 refine cfr Tryz.func55 Tryz.ntmps55 fun a hF => ?_
 have hS := Sep.refl W
 obtain ⟨v0, v1, rfl, r0, r1⟩ := hm
 have hm : modelEK.K W m (m.encv v0 v1) := ⟨_, _, rfl, r0, r1⟩
 have hz2 := hz
 unfold Model.size at hz2
 refine ws fun K1 hK1 => wl_box (cs := [_, _, _, _, _, _]) hF hS rfl (hF.ev rfl) rfl fun g1 w1 a hS _ hF => wl_box (cs := [_, _]) hF hS rfl (hF.ev rfl) rfl fun g2 w2 a hS _ hF => wl_box (cs := [_, _, _]) hF hS rfl (hF.ev rfl) rfl fun g3 w3 a hS _ hF => wl_alloc hF hS rfl zr36 fun g4 w4 a hS _ hF => wl_alloc hF hS rfl zr44 fun g5 w5 a hS _ hF => wl_nil (hK1 _ _ ?_)
 refine ws fun K2 hK2 => gB 1 3 hF hS rfl rfl rfl fun a hF => ?_
 refine wl_mk hF hS rfl rfl rfl (r_call1 en52 (hF.ev rfl)) (specCopyM_c (hS.k hm) (by omega)) ?_; rintro ⟨p14, q14⟩ w6 a hS_ hF; replace hS := hS_; clear hS_; dsimp only [List.cons_append, List.nil_append] at hS
 refine wl_alloc hF hS rfl zr36 fun g6 w7 a hS _ hF => ww 0 hF hS rfl rfl rfl rfl rfl rfl fun w8 hS => wl_nil <| hK2 _ _ <| wp_seq_k fun K3 hK3 => ws fun K4 hK4 => gB 1 7 hF hS rfl rfl rfl fun a hF => gB 1 6 hF hS rfl rfl rfl fun a hF => ?_
 refine ckr hF hS rfl (specIsModel_c (hS.k hm)) fun w9 a hS hF => ga 2 hF rfl fun a hF => ?_
 apply wo 7 19 26 hF hS
 ·
  intro hg19 a hF
  refine gB 4 7 hF hS rfl rfl rfl fun a hF => ckr hF hS rfl (l1In_c _ _ _) fun w10 a hS hF => ?_
  exact je 7 hF hS rfl rfl rfl rfl
 intro a w11 hF hS
 refine ga 1 hF rfl fun a hF => ?_
 apply wo 4 27 31 hF hS
 ·
  intro hg27 a hF
  refine gB 1 5 hF hS rfl rfl rfl fun a hF => ckr hF hS rfl (specIsOp_c _) fun w12 a hS hF => ?_
  exact je 4 hF hS rfl rfl rfl rfl
 intro a w13 hF hS
 refine wl_nil <| hK4 _ _ <| cx 31 hF rfl (fun c31 hF => ?_) fun c31 hF => ?_
 ·
  have hw : isModel c m = true → IntKind.i64.wrap (c.threads - 1) = c.threads - 1 := fun h => by obtain ⟨hok, _⟩ := isModel_thr h; unfold Config.ok at hok; exact w64_id (by omega) (by omega)
  refine ws fun K5 hK5 => gB 1 0 hF hS rfl rfl rfl fun a hF => wl hF rfl rfl rfl (r_build (bd44) trivial) fun a hF => ww 4 hF hS rfl rfl rfl rfl rfl rfl fun w14 hS => ww 3 hF hS rfl rfl rfl rfl rfl rfl fun w15 hS => wl_nil (hK5 _ _ ?_)
  refine xr ?_
  have e : applyModel c m p o = (m, ⟨0, 0⟩) := by clear hF hS a hK5 hK4 hK3 hK2 hK1 K5 K4 K3 K2 K1; unfold applyModel; grind
  refine ret2cc rfl ag36 ag44 hF hS (i := 4) (i' := 3) rfl rfl sz36 sz44 rfl rfl ?_
  rw [e]
  exact ⟨[p14, q14], rfl, hS.part_of [1, 2] (by decide) rfl⟩
 obtain ⟨hok, hth⟩ := isModel_thr (c31.1.1)
 have hb := hok; unfold Config.ok at hb
 have hw : IntKind.i64.wrap (c.threads - 1) = c.threads - 1 := w64_id (by omega) (by omega)
 rw [hw] at c31
 have hvl := isModel_vals (c31.1.1)
 have hop := c31.2; unfold Sl.Op.ok at hop
 refine wp_skip <| hK3 _ _ <| ws fun K6 hK6 => gB 3 6 hF hS rfl rfl rfl fun a hF => ?_
 obtain ⟨g37, o37, m37, q37, cs37, hv37, hm37, hl37, hk37, hz37, hc37⟩ := Rd.at (r1) (a := a) (X := .tmp 36) (hF.ev rfl) (by omega) (by omega)
 obtain ⟨v37, rfl, hr37⟩ := hk37; obtain ⟨Ae37, qe37, rfl, _, hme37⟩ := hr37.sl; unfold maxLen at hme37
 refine wl hF rfl rfl rfl (r_index sl34 ((hF.ev rfl).trans hv37) (hF.ev rfl) (by omega) (by first | omega | (simp at hm37; omega))) fun a hF => ?_
 refine wl hF rfl rfl rfl (r_load1 sc29 (hF.ev rfl) (cellB hS.old (hc37 0 _ rfl))) fun a hF => ge hK6 hF rfl fun a hF => wp_seq_k fun K7 hK7 => wp_block <| ws fun K8 hK8 => gB 3 5 hF hS rfl rfl rfl fun a hF => gf hK8 7 hF hS rfl rfl rfl fun a hF => ?_
 refine cx 41 hF rfl (fun c41 hF => ?_) fun c41 hF => ?_
 ·
  refine ws fun K9 hK9 => gB 1 0 hF hS rfl rfl rfl fun a hF => wl hF rfl rfl rfl (r_build (bd44_0 _) ⟨rfl, ec, trivial⟩) fun a hF => ww 4 hF hS rfl rfl rfl rfl rfl rfl fun w16 hS => ww 3 hF hS rfl rfl rfl rfl rfl rfl fun w17 hS => wl_nil (hK9 _ _ ?_)
  refine xr ?_
  have e : applyModel c m p o = (m, ⟨4, 0⟩) := by clear hF hS a hK9 hK8 hK7 hK6 hK4 hK3 hK2 hK1 K9 K8 K7 K6 K4 K3 K2 K1; unfold applyModel; grind
  refine ret2cc rfl ag36 ag44 hF hS (i := 4) (i' := 3) rfl rfl sz36 sz44 rfl rfl ?_
  rw [e]
  exact ⟨[p14, q14], rfl, hS.part_of [1, 2] (by decide) rfl⟩
 refine ws fun K10 hK10 => gB 4 5 hF hS rfl rfl rfl fun a hF => ?_
 apply wa 2 53 55 hF hS
 ·
  intro hg53 a hF
  exact je 2 hF hS rfl rfl rfl rfl
 intro a w18 hF hS
 refine ge hK10 hF rfl fun a hF => cx 49 hF rfl (fun c49 hF => ?_) fun c49 hF => ?_
 ·
  refine ws fun K11 hK11 => gB 1 0 hF hS rfl rfl rfl fun a hF => wl hF rfl rfl rfl (r_build (bd44_0 _) ⟨rfl, ec, trivial⟩) fun a hF => ww 4 hF hS rfl rfl rfl rfl rfl rfl fun w19 hS => ww 3 hF hS rfl rfl rfl rfl rfl rfl fun w20 hS => wl_nil (hK11 _ _ ?_)
  refine xr ?_
  have e : applyModel c m p o = (m, ⟨6, 0⟩) := by clear hF hS a hK11 hK10 hK8 hK7 hK6 hK4 hK3 hK2 hK1 K11 K10 K8 K7 K6 K4 K3 K2 K1; unfold applyModel; grind
  refine ret2cc rfl ag36 ag44 hF hS (i := 4) (i' := 3) rfl rfl sz36 sz44 rfl rfl ?_
  rw [e]
  exact ⟨[p14, q14], rfl, hS.part_of [1, 2] (by decide) rfl⟩
 refine ws fun K12 hK12 => gB 4 5 hF hS rfl rfl rfl fun a hF => ?_
 apply wo 4 62 66 hF hS
 ·
  intro hg62 a hF
  exact jf 4 5 hF hS rfl rfl rfl rfl rfl rfl
 intro a w21 hF hS
 refine ga 1 hF rfl fun a hF => ?_
 apply wa 3 67 70 hF hS
 ·
  intro hg67 a hF
  exact je 3 hF hS rfl rfl rfl rfl
 intro a w22 hF hS
 refine ge hK12 hF rfl fun a hF => cx 58 hF rfl (fun c58 hF => ?_) fun c58 hF => ?_
 ·
  refine ws fun K13 hK13 => gB 1 0 hF hS rfl rfl rfl fun a hF => wl hF rfl rfl rfl (r_build (bd44_0 _) ⟨rfl, ec, trivial⟩) fun a hF => ww 4 hF hS rfl rfl rfl rfl rfl rfl fun w23 hS => ww 3 hF hS rfl rfl rfl rfl rfl rfl fun w24 hS => wl_nil (hK13 _ _ ?_)
  refine xr ?_
  have e : applyModel c m p o = (m, ⟨3, 0⟩) := by clear hF hS a hK13 hK12 hK10 hK8 hK7 hK6 hK4 hK3 hK2 hK1 K13 K12 K10 K8 K7 K6 K4 K3 K2 K1; unfold applyModel; grind
  refine ret2cc rfl ag36 ag44 hF hS (i := 4) (i' := 3) rfl rfl sz36 sz44 rfl rfl ?_
  rw [e]
  exact ⟨[p14, q14], rfl, hS.part_of [1, 2] (by decide) rfl⟩
 refine wp_skip ?_
 refine xt ?_
 refine hK7 _ _ <| wp_seq_k fun K14 hK14 => rh 5 hF hS rfl rfl rfl fun a hF => wp_block <| rg hF rfl fun a hF => cx 75 hF rfl (fun c75 hF => ?_) fun c75 hF => ?_
 ·
  refine wp_region_todo (is := [0, 1, 2, 4, 5, 3, 6, 7, 8]) [] [8] (by kernel_rfl) hF hS ⟨trivial, by decide, by decide, by decide⟩ (by kernel_rfl) ?_; intro hl_ wd hSd
  refine tp 1 hl_ rfl <| todo_load [7, 8] hl_ (by kernel_rfl) rfl (gw0 rfl) rfl rfl rfl (fun a w_ hF hB_ => r_load1 sc34 (hF.ev rfl) ((hSd.ext hB_).box (i := 0) rfl rfl)) <| tp 2 hl_ rfl <| todo_load [6, 7, 8] hl_ (by kernel_rfl) rfl (gw0 rfl) rfl rfl rfl (fun a w_ hF hB_ => r_load1 sc29 (hF.ev rfl) ((hSd.ext hB_).box (i := 6) rfl rfl)) ?_
  refine todo_op hl_ rfl (by kernel_rfl) rfl rfl rfl rfl rfl (fun a w_ hF hS => r_bslice intEK [] [] rfl mk29 rfl trivial rfl rfl rfl rfl) ?_; intro gl_80
  refine todo_op hl_ rfl (by kernel_rfl) rfl rfl rfl rfl rfl (fun a w_ hF hS => r_append0 (hS.rd r0) mk29 rfl (by omega) (by unfold maxLen; omega) (hF.ev rfl) (hF.ev rfl)) ?_; intro s83
  obtain ⟨g84, o84, m84, q84, cs84, hv84, hm84, hl84, hk84, hz84, hc84⟩ := Rd.idx ((hSd.own_rd (i := 2) rfl)) (at0_get (i := p) (by omega) (by omega))
  obtain ⟨v84, rfl, hr84⟩ := hk84; obtain ⟨Ae84, qe84, rfl, _, hme84⟩ := hr84.sl; unfold maxLen at hme84
  refine todo_pure hl_ (by kernel_rfl) rfl (gw0 rfl) rfl rfl rfl (fun a w_ hF => r_index sl34 ((hF.ev rfl).trans hv84) (hF.ev rfl) (by omega) (by first | omega | (simp at hm84; omega))) ?_
  refine todo_fin hl_ rfl (by kernel_rfl) (tl := [_]) rfl ?_; intro a w27 hF hA_
  have hS := hA_.sep; clear hA_
  clear hl_; try clear hSd
  try dsimp only [List.cons_append, List.nil_append, List.set] at hS
  try clear wd
  replace hS := hS.pull (p := 0) rfl; dsimp only [List.eraseIdx] at hS
  refine wl_sput (s := (_, _, _)) (q := 3) hF hS rfl hv84 (by omega) (by omega) sz29 (hF.ev rfl) rfl (hF.ev rfl) rfl fun w28 hS => ?_; dsimp only [List.set] at hS
  refine wl_nil ⟨rfl, ?_⟩
  refine xt ?_
  refine hK14 _ _ <| ws fun K17 hK17 => gB 1 1 hF hS rfl rfl rfl fun a hF => wl hF rfl rfl rfl (r_build (bd44) trivial) fun a hF => ww 5 hF hS rfl rfl rfl rfl rfl rfl fun w29 hS => ww 4 hF hS rfl rfl rfl rfl rfl rfl fun w30 hS => wl_nil (hK17 _ _ ?_)
  refine xr ?_
  have e : applyModel c m p o = (⟨m.values, m.snapshots.set p.toNat m.values⟩, ⟨0, 0⟩) := by clear hF hS a hK17 hK14 hK12 hK10 hK8 hK7 hK6 hK4 hK3 hK2 hK1 K17 K14 K12 K10 K8 K7 K6 K4 K3 K2 K1; unfold applyModel; grind
  refine ret2cc rfl ag36 ag44 hF hS (i := 5) (i' := 4) rfl rfl sz36 sz44 rfl rfl ?_
  rw [e]
  exact ⟨[p14, q14], rfl, hS.part_of [2, 3] (by decide) rfl⟩
 refine rg hF rfl fun a hF => cx 85 hF rfl (fun c85 hF => ?_) fun c85 hF => ?_
 ·
  refine wp_region_lit <| gB 3 0 hF hS rfl rfl rfl fun a hF => wl_bslice intEK [] [] rfl hF hS rfl mk29 rfl trivial rfl rfl rfl rfl fun gl_90 w31 a hS hF => ?_
  obtain ⟨g91, o91, m91, q91, cs91, hv91, hm91, hl91, hk91, hz91, hc91⟩ := Rd.at ((hS.own_rd (i := 3) rfl)) (a := a) (X := .tmp 89) (hF.ev rfl) (by omega) (by omega)
  obtain ⟨v91, rfl, hr91⟩ := hk91; obtain ⟨Ae91, qe91, rfl, _, hme91⟩ := hr91.sl; unfold maxLen at hme91
  refine wl hF rfl rfl rfl (r_index sl34 ((hF.ev rfl).trans hv91) (hF.ev rfl) (by omega) (by first | omega | (simp at hm91; omega))) fun a hF => ?_
  replace hS := hS.pull (p := 0) rfl; dsimp only [List.eraseIdx] at hS
  refine wl_sput (s := (_, _, _)) (q := 2) hF hS rfl hv91 (by omega) (by omega) sz29 (hF.ev rfl) rfl (hF.ev rfl) rfl fun w32 hS => ?_; dsimp only [List.set] at hS
  refine wl_nil ?_
  refine xt ?_
  refine hK14 _ _ <| ws fun K19 hK19 => gB 1 0 hF hS rfl rfl rfl fun a hF => wl hF rfl rfl rfl (r_build (bd44) trivial) fun a hF => ww 4 hF hS rfl rfl rfl rfl rfl rfl fun w33 hS => ww 3 hF hS rfl rfl rfl rfl rfl rfl fun w34 hS => wl_nil (hK19 _ _ ?_)
  refine xr ?_
  have e : applyModel c m p o = (⟨m.values, m.snapshots.set p.toNat []⟩, ⟨0, 0⟩) := by clear hF hS a hK19 hK14 hK12 hK10 hK8 hK7 hK6 hK4 hK3 hK2 hK1 K19 K14 K12 K10 K8 K7 K6 K4 K3 K2 K1; unfold applyModel; grind
  refine ret2cc rfl ag36 ag44 hF hS (i := 4) (i' := 3) rfl rfl sz36 sz44 rfl rfl ?_
  rw [e]
  exact ⟨[p14, q14], rfl, hS.part_of [1, 2] (by decide) rfl⟩
 refine rg hF rfl fun a hF => cx 92 hF rfl (fun c92 hF => ?_) fun c92 hF => ?_
 ·
  refine wp_region_lit <| gB 3 0 hF hS rfl rfl rfl fun a hF => gB 3 5 hF hS rfl rfl rfl fun a hF => ?_
  obtain ⟨g100, o100, m100, q100, hv100, hm100, hl100, hc100⟩ := Rd.atF ((hS.own_rd (i := 1) rfl)) (a := a) (X := .tmp 97) (hF.ev rfl) (by omega) (by omega)
  refine wl hF rfl rfl rfl (r_index sl29 ((hF.ev rfl).trans hv100) (hF.ev rfl) (by omega) (by first | omega | (simp at hm100; omega))) fun a hF => ?_
  refine wl_istore (q := 1) hF hS rfl hv100 (by omega) (by omega) sz3 (hF.ev rfl) rfl (hF.ev rfl) fun w35 hS => ?_; dsimp only [List.set] at hS
  refine wl_nil ?_
  refine xt ?_
  refine hK14 _ _ <| ws fun K21 hK21 => gB 1 0 hF hS rfl rfl rfl fun a hF => wl hF rfl rfl rfl (r_build (bd44) trivial) fun a hF => ww 4 hF hS rfl rfl rfl rfl rfl rfl fun w36 hS => ww 3 hF hS rfl rfl rfl rfl rfl rfl fun w37 hS => wl_nil (hK21 _ _ ?_)
  refine xr ?_
  have e : applyModel c m p o = (⟨m.values.set o.key.toNat o.value, m.snapshots⟩, ⟨0, 0⟩) := by clear hF hS a hK21 hK14 hK12 hK10 hK8 hK7 hK6 hK4 hK3 hK2 hK1 K21 K14 K12 K10 K8 K7 K6 K4 K3 K2 K1; unfold applyModel; grind
  refine ret2cc rfl ag36 ag44 hF hS (i := 4) (i' := 3) rfl rfl sz36 sz44 rfl rfl ?_
  rw [e]
  exact ⟨[p14, q14], rfl, hS.part_of [1, 2] (by decide) rfl⟩
 refine rg hF rfl fun a hF => cx 101 hF rfl (fun c101 hF => ?_) fun c101 hF => ?_
 ·
  have hl0 : (0 : Int) < (at0 m.snapshots p).length := by omega
  have hsn := isModel_snap (c31.1.1) (at0_mem (by omega) (by omega)) hl0
  refine wp_seq_k fun K23 hK23 => wp_region_calm (by kernel_rfl) (by kernel_rfl) <| qb 3 6 hF tk hS rfl rfl rfl fun a hF => ?_
  obtain ⟨g106, o106, m106, q106, cs106, hv106, hm106, hl106, hk106, hz106, hc106⟩ := Rd.at (r1) (a := a) (X := .tmp 105) (hF.ev rfl) (by omega) (by omega)
  obtain ⟨v106, rfl, hr106⟩ := hk106; obtain ⟨Ae106, qe106, rfl, _, hme106⟩ := hr106.sl; unfold maxLen at hme106
  refine wq hF rfl rfl rfl (fun w_ hB_ => r_index sl34 ((hF.ev rfl).trans hv106) (hF.ev rfl) (by omega) (by first | omega | (simp at hm106; omega))) fun a hF => ?_
  refine wq hF rfl rfl rfl (fun w_ hB_ => r_load1 sc29 (hF.ev rfl) (cellB (hS.ext hB_).old (hc106 0 _ rfl))) fun a hF => qb 2 5 hF tk hS rfl rfl rfl fun a hF => ?_
  obtain ⟨g110, o110, m110, q110, hv110, hm110, hl110, hc110⟩ := Rd.atF (hr106) (a := a) (X := .tmp 109) (hF.ev rfl) (by omega) (by omega)
  refine wq hF rfl rfl rfl (fun w_ hB_ => r_index sl29 ((hF.ev rfl).trans hv110) (hF.ev rfl) (by omega) (by first | omega | (simp at hm110; omega))) fun a hF => ?_
  refine wq hF rfl rfl rfl (fun w_ hB_ => r_load1 sc3 (hF.ev rfl) (cellB (hS.ext hB_).old (hc110 0 _ rfl))) fun a hF => qa 1 hF tk rfl fun a hF => ?_
  refine wpQuiet_nil ?_; intro w38 hB_; have hS := hS.ext hB_
  refine hK23 _ _ <| wp_seq_k fun K24 hK24 => rg hF rfl fun a hF => cx 113 hF rfl (fun c113 hF => ?_) fun c113 hF => ?_
  ·
   refine ws fun K26 hK26 => gB 1 0 hF hS rfl rfl rfl fun a hF => wl hF rfl rfl rfl (r_build (bd44_0 _) ⟨rfl, ec, trivial⟩) fun a hF => ww 4 hF hS rfl rfl rfl rfl rfl rfl fun w39 hS => ww 3 hF hS rfl rfl rfl rfl rfl rfl fun w40 hS => wl_nil (hK26 _ _ ?_)
   refine xr ?_
   have e : applyModel c m p o = (m, ⟨1, 0⟩) := by clear hF hS a hK26 hK24 hK23 hK14 hK12 hK10 hK8 hK7 hK6 hK4 hK3 hK2 hK1 K26 K24 K23 K14 K12 K10 K8 K7 K6 K4 K3 K2 K1; unfold applyModel; grind
   refine ret2cc rfl ag36 ag44 hF hS (i := 4) (i' := 3) rfl rfl sz36 sz44 rfl rfl ?_
   rw [e]
   exact ⟨[p14, q14], rfl, hS.part_of [1, 2] (by decide) rfl⟩
  refine wp_skip <| hK24 _ _ <| ws fun K27 hK27 => gB 2 0 hF hS rfl rfl rfl fun a hF => wl hF rfl rfl rfl (r_build (bd44_1 _) ⟨rfl, (hF.ev rfl), trivial⟩) fun a hF => ww 4 hF hS rfl rfl rfl rfl rfl rfl fun w41 hS => ww 3 hF hS rfl rfl rfl rfl rfl rfl fun w42 hS => ?_
  refine wl_nil (hK27 _ _ ?_)
  refine xr ?_
  have e : applyModel c m p o = (m, ⟨0, at0 (at0 m.snapshots p) o.key⟩) := by clear hF hS a hK27 hK24 hK23 hK14 hK12 hK10 hK8 hK7 hK6 hK4 hK3 hK2 hK1 K27 K24 K23 K14 K12 K10 K8 K7 K6 K4 K3 K2 K1; unfold applyModel; grind
  refine ret2cc rfl ag36 ag44 hF hS (i := 4) (i' := 3) rfl rfl sz36 sz44 rfl rfl ?_
  rw [e]
  exact ⟨[p14, q14], rfl, hS.part_of [1, 2] (by decide) rfl⟩
 refine wp_skip ?_
 refine xt ?_
 refine hK14 _ _ <| ws fun K28 hK28 => gB 1 0 hF hS rfl rfl rfl fun a hF => wl hF rfl rfl rfl (r_build (bd44) trivial) fun a hF => ww 4 hF hS rfl rfl rfl rfl rfl rfl fun w43 hS => ww 3 hF hS rfl rfl rfl rfl rfl rfl fun w44 hS => wl_nil (hK28 _ _ ?_)
 refine xr ?_
 have e : applyModel c m p o = (m, ⟨0, 0⟩) := by clear hF hS a hK28 hK14 hK12 hK10 hK8 hK7 hK6 hK4 hK3 hK2 hK1 K28 K14 K12 K10 K8 K7 K6 K4 K3 K2 K1; unfold applyModel; grind
 refine ret2cc rfl ag36 ag44 hF hS (i := 4) (i' := 3) rfl rfl sz36 sz44 rfl rfl ?_
 rw [e]
 exact ⟨[p14, q14], rfl, hS.part_of [1, 2] (by decide) rfl⟩
theorem implApplyModel_c {W : World} {c : Config} {m : Model} {cs : List Value} {p : Int} {o : Sl.Op} (hm : modelEK.K W m cs) (hz : m.size ≤ 1048576) : Calls Tryz.prog 51 #[.agg c.enc.toArray, .agg cs.toArray, vi p, .agg o.enc.toArray] W (Ret (Mk W (fun vs => .tuple #[.agg (modelEK.cells (applyModel c m p o).1 vs).toArray, .agg (Sl.Result.enc (applyModel c m p o).2).toArray]) (fun vs => [Part modelEK (applyModel c m p o).1 vs]))) := by
 refine cfr Tryz.func51 Tryz.ntmps51 fun a hF => ?_
 have hS := Sep.refl W
 obtain ⟨v0, v1, rfl, r0, r1⟩ := hm
 have hm : modelEK.K W m (m.encv v0 v1) := ⟨_, _, rfl, r0, r1⟩
 have hz2 := hz
 unfold Model.size at hz2
 refine ws fun K1 hK1 => wl_box (cs := [_, _, _, _, _, _]) hF hS rfl (hF.ev rfl) rfl fun g1 w1 a hS _ hF => wl_box (cs := [_, _]) hF hS rfl (hF.ev rfl) rfl fun g2 w2 a hS _ hF => wl_box (cs := [_, _, _]) hF hS rfl (hF.ev rfl) rfl fun g3 w3 a hS _ hF => wl_alloc hF hS rfl zr36 fun g4 w4 a hS _ hF => wl_alloc hF hS rfl zr44 fun g5 w5 a hS _ hF => wl_nil (hK1 _ _ ?_)
 refine ws fun K2 hK2 => gB 1 3 hF hS rfl rfl rfl fun a hF => ?_
 refine wl_mk hF hS rfl rfl rfl (r_call1 en50 (hF.ev rfl)) (implCopyM_c (hS.k hm) (by omega)) ?_; rintro ⟨p13, q13⟩ w6 a hS_ hF; replace hS := hS_; clear hS_; dsimp only [List.cons_append, List.nil_append] at hS
 refine wl_alloc hF hS rfl zr36 fun g6 w7 a hS _ hF => ww 0 hF hS rfl rfl rfl rfl rfl rfl fun w8 hS => wl_nil <| hK2 _ _ <| wp_seq_k fun K3 hK3 => ws fun K4 hK4 => gB 1 7 hF hS rfl rfl rfl fun a hF => gB 1 6 hF hS rfl rfl rfl fun a hF => ?_
 refine ckr hF hS rfl (implIsModel_c (hS.k hm)) fun w9 a hS hF => ga 2 hF rfl fun a hF => ?_
 apply wo 4 18 22 hF hS
 ·
  intro hg18 a hF
  refine gB 1 5 hF hS rfl rfl rfl fun a hF => ckr hF hS rfl (implIsOp_c _) fun w10 a hS hF => ?_
  exact je 4 hF hS rfl rfl rfl rfl
 intro a w11 hF hS
 refine ga 1 hF rfl fun a hF => ?_
 apply wo 7 23 30 hF hS
 ·
  intro hg23 a hF
  refine gB 4 7 hF hS rfl rfl rfl fun a hF => ckr hF hS rfl (in_c _ _ _) fun w12 a hS hF => ?_
  exact je 7 hF hS rfl rfl rfl rfl
 intro a w13 hF hS
 refine wl_nil <| hK4 _ _ <| cx 30 hF rfl (fun c30 hF => ?_) fun c30 hF => ?_
 ·
  have hw : isModel c m = true → IntKind.i64.wrap (c.threads - 1) = c.threads - 1 := fun h => by obtain ⟨hok, _⟩ := isModel_thr h; unfold Config.ok at hok; exact w64_id (by omega) (by omega)
  refine ws fun K5 hK5 => gB 1 0 hF hS rfl rfl rfl fun a hF => wl hF rfl rfl rfl (r_build (bd44) trivial) fun a hF => ww 4 hF hS rfl rfl rfl rfl rfl rfl fun w14 hS => ww 3 hF hS rfl rfl rfl rfl rfl rfl fun w15 hS => wl_nil (hK5 _ _ ?_)
  refine xr ?_
  have e : applyModel c m p o = (m, ⟨0, 0⟩) := by clear hF hS a hK5 hK4 hK3 hK2 hK1 K5 K4 K3 K2 K1; unfold applyModel; grind
  refine ret2cc rfl ag36 ag44 hF hS (i := 4) (i' := 3) rfl rfl sz36 sz44 rfl rfl ?_
  rw [e]
  exact ⟨[p13, q13], rfl, hS.part_of [1, 2] (by decide) rfl⟩
 obtain ⟨hok, hth⟩ := isModel_thr (c30.1.1)
 have hb := hok; unfold Config.ok at hb
 have hw : IntKind.i64.wrap (c.threads - 1) = c.threads - 1 := w64_id (by omega) (by omega)
 rw [hw] at c30
 have hvl := isModel_vals (c30.1.1)
 have hop := c30.1.2; unfold Sl.Op.ok at hop
 refine wp_skip <| hK3 _ _ <| ws fun K6 hK6 => gB 3 6 hF hS rfl rfl rfl fun a hF => ?_
 obtain ⟨g36, o36, m36, q36, cs36, hv36, hm36, hl36, hk36, hz36, hc36⟩ := Rd.at (r1) (a := a) (X := .tmp 35) (hF.ev rfl) (by omega) (by omega)
 obtain ⟨v36, rfl, hr36⟩ := hk36; obtain ⟨Ae36, qe36, rfl, _, hme36⟩ := hr36.sl; unfold maxLen at hme36
 refine wl hF rfl rfl rfl (r_index sl34 ((hF.ev rfl).trans hv36) (hF.ev rfl) (by omega) (by first | omega | (simp at hm36; omega))) fun a hF => ?_
 refine wl hF rfl rfl rfl (r_load1 sc29 (hF.ev rfl) (cellB hS.old (hc36 0 _ rfl))) fun a hF => ge hK6 hF rfl fun a hF => wp_seq_k fun K7 hK7 => wp_block <| ws fun K8 hK8 => gB 3 5 hF hS rfl rfl rfl fun a hF => gf hK8 7 hF hS rfl rfl rfl fun a hF => ?_
 refine cx 38 hF rfl (fun c38 hF => ?_) fun c38 hF => ?_
 ·
  refine ws fun K9 hK9 => gB 1 0 hF hS rfl rfl rfl fun a hF => wl hF rfl rfl rfl (r_build (bd44_0 _) ⟨rfl, ec, trivial⟩) fun a hF => ww 4 hF hS rfl rfl rfl rfl rfl rfl fun w16 hS => ww 3 hF hS rfl rfl rfl rfl rfl rfl fun w17 hS => wl_nil (hK9 _ _ ?_)
  refine xr ?_
  have e : applyModel c m p o = (m, ⟨4, 0⟩) := by clear hF hS a hK9 hK8 hK7 hK6 hK4 hK3 hK2 hK1 K9 K8 K7 K6 K4 K3 K2 K1; unfold applyModel; grind
  refine ret2cc rfl ag36 ag44 hF hS (i := 4) (i' := 3) rfl rfl sz36 sz44 rfl rfl ?_
  rw [e]
  exact ⟨[p13, q13], rfl, hS.part_of [1, 2] (by decide) rfl⟩
 refine ws fun K10 hK10 => gB 4 5 hF hS rfl rfl rfl fun a hF => ?_
 apply wa 4 50 54 hF hS
 ·
  intro hg50 a hF
  exact je 4 hF hS rfl rfl rfl rfl
 intro a w18 hF hS
 refine ge hK10 hF rfl fun a hF => cx 46 hF rfl (fun c46 hF => ?_) fun c46 hF => ?_
 ·
  refine ws fun K11 hK11 => gB 1 0 hF hS rfl rfl rfl fun a hF => wl hF rfl rfl rfl (r_build (bd44_0 _) ⟨rfl, ec, trivial⟩) fun a hF => ww 4 hF hS rfl rfl rfl rfl rfl rfl fun w19 hS => ww 3 hF hS rfl rfl rfl rfl rfl rfl fun w20 hS => wl_nil (hK11 _ _ ?_)
  refine xr ?_
  have e : applyModel c m p o = (m, ⟨6, 0⟩) := by clear hF hS a hK11 hK10 hK8 hK7 hK6 hK4 hK3 hK2 hK1 K11 K10 K8 K7 K6 K4 K3 K2 K1; unfold applyModel; grind
  refine ret2cc rfl ag36 ag44 hF hS (i := 4) (i' := 3) rfl rfl sz36 sz44 rfl rfl ?_
  rw [e]
  exact ⟨[p13, q13], rfl, hS.part_of [1, 2] (by decide) rfl⟩
 refine ws fun K12 hK12 => gB 4 5 hF hS rfl rfl rfl fun a hF => ?_
 apply wo 4 61 65 hF hS
 ·
  intro hg61 a hF
  exact jf 4 5 hF hS rfl rfl rfl rfl rfl rfl
 intro a w21 hF hS
 refine ga 1 hF rfl fun a hF => ?_
 apply wa 4 66 70 hF hS
 ·
  intro hg66 a hF
  exact je 4 hF hS rfl rfl rfl rfl
 intro a w22 hF hS
 refine ge hK12 hF rfl fun a hF => cx 57 hF rfl (fun c57 hF => ?_) fun c57 hF => ?_
 ·
  refine ws fun K13 hK13 => gB 1 0 hF hS rfl rfl rfl fun a hF => wl hF rfl rfl rfl (r_build (bd44_0 _) ⟨rfl, ec, trivial⟩) fun a hF => ww 4 hF hS rfl rfl rfl rfl rfl rfl fun w23 hS => ww 3 hF hS rfl rfl rfl rfl rfl rfl fun w24 hS => wl_nil (hK13 _ _ ?_)
  refine xr ?_
  have e : applyModel c m p o = (m, ⟨3, 0⟩) := by clear hF hS a hK13 hK12 hK10 hK8 hK7 hK6 hK4 hK3 hK2 hK1 K13 K12 K10 K8 K7 K6 K4 K3 K2 K1; unfold applyModel; grind
  refine ret2cc rfl ag36 ag44 hF hS (i := 4) (i' := 3) rfl rfl sz36 sz44 rfl rfl ?_
  rw [e]
  exact ⟨[p13, q13], rfl, hS.part_of [1, 2] (by decide) rfl⟩
 refine wp_skip ?_
 refine xt ?_
 refine hK7 _ _ <| wp_seq_k fun K14 hK14 => rh 5 hF hS rfl rfl rfl fun a hF => wp_block <| rg hF rfl fun a hF => cx 75 hF rfl (fun c75 hF => ?_) fun c75 hF => ?_
 ·
  refine wp_region_todo (is := [0, 1, 2, 3, 4, 5, 6, 7]) [] [7] (by kernel_rfl) hF hS ⟨trivial, by decide, by decide, by decide⟩ (by kernel_rfl) ?_; intro hl_ wd hSd
  refine tp 1 hl_ rfl <| todo_load [6, 7] hl_ (by kernel_rfl) rfl (gw0 rfl) rfl rfl rfl (fun a w_ hF hB_ => r_load1 sc34 (hF.ev rfl) ((hSd.ext hB_).box (i := 0) rfl rfl)) <| tp 2 hl_ rfl <| todo_load [5, 6, 7] hl_ (by kernel_rfl) rfl (gw0 rfl) rfl rfl rfl (fun a w_ hF hB_ => r_load1 sc29 (hF.ev rfl) ((hSd.ext hB_).box (i := 6) rfl rfl)) ?_
  refine todo_mk hl_ rfl (by kernel_rfl) rfl rfl rfl rfl rfl (fun a w_ hF => r_call1 en47 (hF.ev rfl)) (fun w_ hS => cloneI_c (hS.rd r0) (by omega)) ?_; rintro s82
  obtain ⟨g83, o83, m83, q83, cs83, hv83, hm83, hl83, hk83, hz83, hc83⟩ := Rd.idx ((hSd.own_rd (i := 2) rfl)) (at0_get (i := p) (by omega) (by omega))
  obtain ⟨v83, rfl, hr83⟩ := hk83; obtain ⟨Ae83, qe83, rfl, _, hme83⟩ := hr83.sl; unfold maxLen at hme83
  refine todo_pure hl_ (by kernel_rfl) rfl (gw0 rfl) rfl rfl rfl (fun a w_ hF => r_index sl34 ((hF.ev rfl).trans hv83) (hF.ev rfl) (by omega) (by first | omega | (simp at hm83; omega))) ?_
  refine todo_fin hl_ rfl (by kernel_rfl) (tl := [_]) rfl ?_; intro a w25 hF hA_
  have hS := hA_.sep; clear hA_
  clear hl_; try clear hSd
  try dsimp only [List.cons_append, List.nil_append, List.set] at hS
  try clear wd
  replace hS := hS.pull (p := 0) rfl; dsimp only [List.eraseIdx] at hS
  refine wl_sput (s := (_, _, _)) (q := 2) hF hS rfl hv83 (by omega) (by omega) sz29 (hF.ev rfl) rfl (hF.ev rfl) rfl fun w26 hS => ?_; dsimp only [List.set] at hS
  refine wl_nil ⟨rfl, ?_⟩
  refine xt ?_
  refine hK14 _ _ <| ws fun K17 hK17 => gB 1 0 hF hS rfl rfl rfl fun a hF => wl hF rfl rfl rfl (r_build (bd44) trivial) fun a hF => ww 4 hF hS rfl rfl rfl rfl rfl rfl fun w27 hS => ww 3 hF hS rfl rfl rfl rfl rfl rfl fun w28 hS => wl_nil (hK17 _ _ ?_)
  refine xr ?_
  have e : applyModel c m p o = (⟨m.values, m.snapshots.set p.toNat m.values⟩, ⟨0, 0⟩) := by clear hF hS a hK17 hK14 hK12 hK10 hK8 hK7 hK6 hK4 hK3 hK2 hK1 K17 K14 K12 K10 K8 K7 K6 K4 K3 K2 K1; unfold applyModel; grind
  refine ret2cc rfl ag36 ag44 hF hS (i := 4) (i' := 3) rfl rfl sz36 sz44 rfl rfl ?_
  rw [e]
  exact ⟨[p13, q13], rfl, hS.part_of [1, 2] (by decide) rfl⟩
 refine rg hF rfl fun a hF => cx 84 hF rfl (fun c84 hF => ?_) fun c84 hF => ?_
 ·
  refine wp_region_lit <| gB 3 0 hF hS rfl rfl rfl fun a hF => ?_
  obtain ⟨g89, o89, m89, q89, cs89, hv89, hm89, hl89, hk89, hz89, hc89⟩ := Rd.at ((hS.own_rd (i := 2) rfl)) (a := a) (X := .tmp 88) (hF.ev rfl) (by omega) (by omega)
  obtain ⟨v89, rfl, hr89⟩ := hk89; obtain ⟨Ae89, qe89, rfl, _, hme89⟩ := hr89.sl; unfold maxLen at hme89
  refine wl hF rfl rfl rfl (r_index sl34 ((hF.ev rfl).trans hv89) (hF.ev rfl) (by omega) (by first | omega | (simp at hm89; omega))) fun a hF => ?_
  replace hS := hS.own_nil intEK
  refine wl_sput (s := (_, _, _)) (q := 2) hF hS rfl hv89 (by omega) (by omega) sz29 (hF.ev rfl) rfl ec rfl fun w29 hS => ?_; dsimp only [List.set] at hS
  refine wl_nil ?_
  refine xt ?_
  refine hK14 _ _ <| ws fun K19 hK19 => gB 1 0 hF hS rfl rfl rfl fun a hF => wl hF rfl rfl rfl (r_build (bd44) trivial) fun a hF => ww 4 hF hS rfl rfl rfl rfl rfl rfl fun w30 hS => ww 3 hF hS rfl rfl rfl rfl rfl rfl fun w31 hS => wl_nil (hK19 _ _ ?_)
  refine xr ?_
  have e : applyModel c m p o = (⟨m.values, m.snapshots.set p.toNat []⟩, ⟨0, 0⟩) := by clear hF hS a hK19 hK14 hK12 hK10 hK8 hK7 hK6 hK4 hK3 hK2 hK1 K19 K14 K12 K10 K8 K7 K6 K4 K3 K2 K1; unfold applyModel; grind
  refine ret2cc rfl ag36 ag44 hF hS (i := 4) (i' := 3) rfl rfl sz36 sz44 rfl rfl ?_
  rw [e]
  exact ⟨[p13, q13], rfl, hS.part_of [1, 2] (by decide) rfl⟩
 refine rg hF rfl fun a hF => cx 90 hF rfl (fun c90 hF => ?_) fun c90 hF => ?_
 ·
  refine wp_region_lit <| gB 3 0 hF hS rfl rfl rfl fun a hF => gB 3 5 hF hS rfl rfl rfl fun a hF => ?_
  obtain ⟨g98, o98, m98, q98, hv98, hm98, hl98, hc98⟩ := Rd.atF ((hS.own_rd (i := 1) rfl)) (a := a) (X := .tmp 95) (hF.ev rfl) (by omega) (by omega)
  refine wl hF rfl rfl rfl (r_index sl29 ((hF.ev rfl).trans hv98) (hF.ev rfl) (by omega) (by first | omega | (simp at hm98; omega))) fun a hF => ?_
  refine wl_istore (q := 1) hF hS rfl hv98 (by omega) (by omega) sz3 (hF.ev rfl) rfl (hF.ev rfl) fun w32 hS => ?_; dsimp only [List.set] at hS
  refine wl_nil ?_
  refine xt ?_
  refine hK14 _ _ <| ws fun K21 hK21 => gB 1 0 hF hS rfl rfl rfl fun a hF => wl hF rfl rfl rfl (r_build (bd44) trivial) fun a hF => ww 4 hF hS rfl rfl rfl rfl rfl rfl fun w33 hS => ww 3 hF hS rfl rfl rfl rfl rfl rfl fun w34 hS => wl_nil (hK21 _ _ ?_)
  refine xr ?_
  have e : applyModel c m p o = (⟨m.values.set o.key.toNat o.value, m.snapshots⟩, ⟨0, 0⟩) := by clear hF hS a hK21 hK14 hK12 hK10 hK8 hK7 hK6 hK4 hK3 hK2 hK1 K21 K14 K12 K10 K8 K7 K6 K4 K3 K2 K1; unfold applyModel; grind
  refine ret2cc rfl ag36 ag44 hF hS (i := 4) (i' := 3) rfl rfl sz36 sz44 rfl rfl ?_
  rw [e]
  exact ⟨[p13, q13], rfl, hS.part_of [1, 2] (by decide) rfl⟩
 refine rg hF rfl fun a hF => cx 99 hF rfl (fun c99 hF => ?_) fun c99 hF => ?_
 ·
  have hl0 : (0 : Int) < (at0 m.snapshots p).length := by omega
  have hsn := isModel_snap (c30.1.1) (at0_mem (by omega) (by omega)) hl0
  refine wp_seq_k fun K23 hK23 => ws fun K24 hK24 => gB 3 5 hF hS rfl rfl rfl fun a hF => ?_
  obtain ⟨g104, o104, m104, q104, hv104, hm104, hl104, hc104⟩ := Rd.atF (hr36) (a := a) (X := .tmp 103) (hF.ev rfl) (by omega) (by omega)
  refine wl hF rfl rfl rfl (r_index sl29 ((hF.ev rfl).trans hv104) (hF.ev rfl) (by omega) (by first | omega | (simp at hm104; omega))) fun a hF => ?_
  refine wl hF rfl rfl rfl (r_load1 sc3 (hF.ev rfl) (cellB hS.old (hc104 0 _ rfl))) fun a hF => ge hK24 hF rfl fun a hF => cx 106 hF rfl (fun c106 hF => ?_) fun c106 hF => ?_
  ·
   refine ws fun K25 hK25 => gB 1 0 hF hS rfl rfl rfl fun a hF => wl hF rfl rfl rfl (r_build (bd44_0 _) ⟨rfl, ec, trivial⟩) fun a hF => ww 4 hF hS rfl rfl rfl rfl rfl rfl fun w35 hS => ww 3 hF hS rfl rfl rfl rfl rfl rfl fun w36 hS => wl_nil (hK25 _ _ ?_)
   refine xr ?_
   have e : applyModel c m p o = (m, ⟨1, 0⟩) := by clear hF hS a hK25 hK24 hK23 hK14 hK12 hK10 hK8 hK7 hK6 hK4 hK3 hK2 hK1 K25 K24 K23 K14 K12 K10 K8 K7 K6 K4 K3 K2 K1; unfold applyModel; grind
   refine ret2cc rfl ag36 ag44 hF hS (i := 4) (i' := 3) rfl rfl sz36 sz44 rfl rfl ?_
   rw [e]
   exact ⟨[p13, q13], rfl, hS.part_of [1, 2] (by decide) rfl⟩
  refine wp_skip <| hK23 _ _ <| wp_seq_k fun K26 hK26 => ?_
  refine wp_region_todo (is := [0, 1, 2, 3, 4, 5, 6, 7, 8]) [] [7, 8] (by kernel_rfl) hF hS ⟨trivial, by decide, by decide, by decide⟩ (by kernel_rfl) ?_; intro hl_ wd hSd
  refine todo_load [7, 8] hl_ (by kernel_rfl) rfl (gw0 rfl) rfl rfl rfl (fun a w_ hF hB_ => r_loadn ag36 (hF.ev rfl) ((hSd.ext hB_).box_rd (i := 0) rfl) sz36) <| tp 2 hl_ rfl <| todo_fork [(3, [4, 5, 6, 7, 8]), (7, [3, 4, 5, 6, 8])] hl_ rfl (by kernel_rfl) (List.forall_mem_cons.2 ⟨?_, List.forall_mem_cons.2 ⟨?_, fun _ h_ => nomatch h_⟩⟩)
  ·
   refine op_ld rfl rfl (gw0 rfl) rfl rfl rfl (fun a w_ hF hS => r_load1 sc3 (hF.ev rfl) (hS.box (i := 5) rfl rfl)) ?_
   obtain ⟨g113, o113, m113, q113, hv113, hm113, hl113, hc113⟩ := Rd.idxF (hr36) (at0_get (i := o.key) (by omega) (by omega))
   refine todo_pure hl_ (by kernel_rfl) rfl (gw0 rfl) rfl rfl rfl (fun a w_ hF => r_index sl29 ((hF.ev rfl).trans hv113) (hF.ev rfl) (by omega) (by first | omega | (simp at hm113; omega))) ?_
   refine todo_fork [(5, [6, 7, 8]), (7, [5, 6, 8])] hl_ rfl (by kernel_rfl) (List.forall_mem_cons.2 ⟨?_, List.forall_mem_cons.2 ⟨?_, fun _ h_ => nomatch h_⟩⟩)
   ·
    refine op_ld rfl rfl (gw0 rfl) rfl rfl rfl (fun a w_ hF hS => r_load1 sc3 (hF.ev rfl) (cellB hS.old (hc113 0 _ rfl))) <| todo_pure hl_ (by kernel_rfl) rfl (gw0 rfl) rfl rfl rfl (fun a w_ hF => r_build (bd44_1 _) ⟨rfl, (hF.ev rfl), trivial⟩) ?_
    refine todo_fin hl_ rfl (by kernel_rfl) (tl := [_, _]) rfl ?_; intro a w37 hF hA_
    have hS := hA_.sep; clear hA_
    clear hl_; try clear hSd
    try dsimp only [List.cons_append, List.nil_append, List.set] at hS
    try clear wd
    refine ww 4 hF hS rfl rfl rfl rfl rfl rfl fun w38 hS => ww 3 hF hS rfl rfl rfl rfl rfl rfl fun w39 hS => wl_nil ⟨rfl, ?_⟩
    refine hK26 _ _ ?_
    refine xr ?_
    have e : applyModel c m p o = (m, ⟨0, at0 (at0 m.snapshots p) o.key⟩) := by clear hF hS a hK26 hK24 hK23 hK14 hK12 hK10 hK8 hK7 hK6 hK4 hK3 hK2 hK1 K26 K24 K23 K14 K12 K10 K8 K7 K6 K4 K3 K2 K1; unfold applyModel; grind
    refine ret2cc rfl ag36 ag44 hF hS (i := 4) (i' := 3) rfl rfl sz36 sz44 rfl rfl ?_
    rw [e]
    exact ⟨[p13, q13], rfl, hS.part_of [1, 2] (by decide) rfl⟩
   ·
    refine op_st (j := 4) (m' := [8]) rfl rfl (by kernel_rfl) rfl (fun a hF => (hF.ev rfl)) (fun a hF => (hF.ev rfl)) sz36 rfl rfl ?_; try clear hSd; try clear wd; intro wd hSd; try dsimp only [List.set] at hSd
    refine todo_load [6, 8] hl_ (by kernel_rfl) rfl (gw0 rfl) rfl rfl rfl (fun a w_ hF hB_ => r_load1 sc3 (hF.ev rfl) (cellB (hSd.ext hB_).old (hc113 0 _ rfl))) <| todo_pure hl_ (by kernel_rfl) rfl (gw0 rfl) rfl rfl rfl (fun a w_ hF => r_build (bd44_1 _) ⟨rfl, (hF.ev rfl), trivial⟩) ?_
    refine todo_fin hl_ rfl (by kernel_rfl) (tl := [_]) rfl ?_; intro a w40 hF hA_
    have hS := hA_.sep; clear hA_
    clear hl_; try clear hSd
    try dsimp only [List.cons_append, List.nil_append, List.set] at hS
    try clear wd
    refine ww 3 hF hS rfl rfl rfl rfl rfl rfl fun w41 hS => wl_nil ⟨rfl, ?_⟩
    refine hK26 _ _ ?_
    refine xr ?_
    have e : applyModel c m p o = (m, ⟨0, at0 (at0 m.snapshots p) o.key⟩) := by clear hF hS a hK26 hK24 hK23 hK14 hK12 hK10 hK8 hK7 hK6 hK4 hK3 hK2 hK1 K26 K24 K23 K14 K12 K10 K8 K7 K6 K4 K3 K2 K1; unfold applyModel; grind
    refine ret2cc rfl ag36 ag44 hF hS (i := 4) (i' := 3) rfl rfl sz36 sz44 rfl rfl ?_
    rw [e]
    exact ⟨[p13, q13], rfl, hS.part_of [1, 2] (by decide) rfl⟩
  ·
   refine op_st (j := 4) (m' := [8]) rfl rfl (by kernel_rfl) rfl (fun a hF => (hF.ev rfl)) (fun a hF => (hF.ev rfl)) sz36 rfl rfl ?_; try clear hSd; try clear wd; intro wd hSd; try dsimp only [List.set] at hSd
   refine todo_load [4, 5, 6, 8] hl_ (by kernel_rfl) rfl (gw0 rfl) rfl rfl rfl (fun a w_ hF hB_ => r_load1 sc3 (hF.ev rfl) ((hSd.ext hB_).box (i := 5) rfl rfl)) ?_
   obtain ⟨g113, o113, m113, q113, hv113, hm113, hl113, hc113⟩ := Rd.idxF (hr36) (at0_get (i := o.key) (by omega) (by omega))
   refine todo_pure hl_ (by kernel_rfl) rfl (gw0 rfl) rfl rfl rfl (fun a w_ hF => r_index sl29 ((hF.ev rfl).trans hv113) (hF.ev rfl) (by omega) (by first | omega | (simp at hm113; omega))) ?_
   refine todo_load [6, 8] hl_ (by kernel_rfl) rfl (gw0 rfl) rfl rfl rfl (fun a w_ hF hB_ => r_load1 sc3 (hF.ev rfl) (cellB (hSd.ext hB_).old (hc113 0 _ rfl))) <| todo_pure hl_ (by kernel_rfl) rfl (gw0 rfl) rfl rfl rfl (fun a w_ hF => r_build (bd44_1 _) ⟨rfl, (hF.ev rfl), trivial⟩) ?_
   refine todo_fin hl_ rfl (by kernel_rfl) (tl := [_]) rfl ?_; intro a w42 hF hA_
   have hS := hA_.sep; clear hA_
   clear hl_; try clear hSd
   try dsimp only [List.cons_append, List.nil_append, List.set] at hS
   try clear wd
   refine ww 3 hF hS rfl rfl rfl rfl rfl rfl fun w43 hS => wl_nil ⟨rfl, ?_⟩
   refine hK26 _ _ ?_
   refine xr ?_
   have e : applyModel c m p o = (m, ⟨0, at0 (at0 m.snapshots p) o.key⟩) := by clear hF hS a hK26 hK24 hK23 hK14 hK12 hK10 hK8 hK7 hK6 hK4 hK3 hK2 hK1 K26 K24 K23 K14 K12 K10 K8 K7 K6 K4 K3 K2 K1; unfold applyModel; grind
   refine ret2cc rfl ag36 ag44 hF hS (i := 4) (i' := 3) rfl rfl sz36 sz44 rfl rfl ?_
   rw [e]
   exact ⟨[p13, q13], rfl, hS.part_of [1, 2] (by decide) rfl⟩
 refine wp_skip ?_
 refine xt ?_
 refine hK14 _ _ <| ws fun K27 hK27 => gB 1 0 hF hS rfl rfl rfl fun a hF => wl hF rfl rfl rfl (r_build (bd44) trivial) fun a hF => ww 4 hF hS rfl rfl rfl rfl rfl rfl fun w44 hS => ww 3 hF hS rfl rfl rfl rfl rfl rfl fun w45 hS => wl_nil (hK27 _ _ ?_)
 refine xr ?_
 have e : applyModel c m p o = (m, ⟨0, 0⟩) := by clear hF hS a hK27 hK14 hK12 hK10 hK8 hK7 hK6 hK4 hK3 hK2 hK1 K27 K14 K12 K10 K8 K7 K6 K4 K3 K2 K1; unfold applyModel; grind
 refine ret2cc rfl ag36 ag44 hF hS (i := 4) (i' := 3) rfl rfl sz36 sz44 rfl rfl ?_
 rw [e]
 exact ⟨[p13, q13], rfl, hS.part_of [1, 2] (by decide) rfl⟩
theorem crow_set {xs : List (List Int)} {i : Nat} {y : List Int} (B : Nat) (h : y.length ≤ B) : crow List.length (xs.set i y) ≤ crow List.length xs + B := by
 induction xs generalizing i with
 | nil => simp [crow]
 | cons x xs ih =>
   cases i with
   | zero => simp only [List.set_cons_zero, crow]; omega
   | succ i => simp only [List.set_cons_succ, crow]; have := ih (i := i); omega
theorem applyModel_cnt {c : Config} {m : Model} {p : Int} {o : Sl.Op} : (applyModel c m p o).1.cnt ≤ m.cnt + m.values.length ∧ (applyModel c m p o).1.size ≤ m.size + m.values.length := by
 have h1 := crow_set (xs := m.snapshots) (i := p.toNat) (y := m.values) m.values.length (Nat.le_refl _)
 have h2 := crow_set (xs := m.snapshots) (i := p.toNat) (y := []) 0 (Nat.le_refl _)
 unfold applyModel
 repeat' split
 all_goals (simp only [Model.cnt, Model.size, List.length_set]; omega)
set_option maxRecDepth 20000
def refusedB (e : Sl.Event) : Bool := (decide (e.op.kind = 3) && decide (e.result.code = 2)) || (decide (e.op.kind = 1) && decide (e.result.code = 5))
def explains (c : Config) (m : Model) (e : Sl.Event) : Model × Bool :=
  if isModel c m = true ∧ e.op.ok ∧ (0 ≤ e.thread ∧ e.thread ≤ c.threads - 1) then
    if e.fin < 0 ∨ e.result = (applyModel c m e.thread e.op).2 then ((applyModel c m e.thread e.op).1, true)
    else (m, refusedB e && decide (e.result.value = 0) && decide ((applyModel c m e.thread e.op).2.code = 0))
  else (m, false)
section
variable {c : Config} {m : Model} {p : Int} {o : Sl.Op} {e : Sl.Event}
theorem apply_code : (applyModel c m p o).2.code = 0 ∨ (applyModel c m p o).2.code = 1 ∨ (applyModel c m p o).2.code = 3 ∨ (applyModel c m p o).2.code = 4 ∨ (applyModel c m p o).2.code = 6 := by
 unfold applyModel
 repeat' split
 all_goals simp
theorem ex_no (h : ¬ (isModel c m = true ∧ e.op.ok ∧ (0 ≤ e.thread ∧ e.thread ≤ c.threads - 1))) : explains c m e = (m, false) := if_neg h
theorem ex_yes (h : isModel c m = true ∧ e.op.ok ∧ (0 ≤ e.thread ∧ e.thread ≤ c.threads - 1)) (h2 : e.fin < 0 ∨ e.result = (applyModel c m e.thread e.op).2) : explains c m e = ((applyModel c m e.thread e.op).1, true) := by
 unfold explains; rw [if_pos h, if_pos h2]
theorem ex_ref (h : isModel c m = true ∧ e.op.ok ∧ (0 ≤ e.thread ∧ e.thread ≤ c.threads - 1)) (h2 : ¬ (e.fin < 0 ∨ e.result = (applyModel c m e.thread e.op).2)) : explains c m e = (m, refusedB e && decide (e.result.value = 0) && decide ((applyModel c m e.thread e.op).2.code = 0)) := by
 unfold explains; rw [if_pos h, if_neg h2]
theorem ref_ne (h : refusedB e = true) : ¬ e.result = (applyModel c m p o).2 := by
 intro e1
 have := apply_code (c := c) (m := m) (p := p) (o := o)
 unfold refusedB at h
 rw [e1] at h
 simp only [zb3, zb4, zb7] at h
 omega
theorem result_ne {x y : Sl.Result} (h : ¬ [x.code, x.value] = [y.code, y.value]) : ¬ x = y := fun e => h (by rw [e])
theorem result_eq {x y : Sl.Result} (h : [x.code, x.value] = [y.code, y.value]) : x = y := by
 cases x; cases y; simpa using h
theorem ref_form : (refusedB e && decide (e.result.value = 0)) = ((decide (e.op.kind = 3) && decide ([e.result.code, e.result.value] = [2, 0])) || (decide (e.op.kind = 1) && decide ([e.result.code, e.result.value] = [5, 0]))) := by
 unfold refusedB
 rw [Bool.eq_iff_iff]
 simp only [zb3, zb4, zb7, List.cons.injEq, and_true]
 omega
theorem explains_cnt : (explains c m e).1.cnt ≤ m.cnt + m.values.length ∧ (explains c m e).1.size ≤ m.size + m.values.length := by
 have := applyModel_cnt (c := c) (m := m) (p := e.thread) (o := e.op)
 unfold explains
 repeat' split
 all_goals (dsimp only; omega)
end
theorem specExplains_c {W : World} {c : Config} {m : Model} {cs : List Value} {e : Sl.Event} (hm : modelEK.K W m cs) (hz : m.size ≤ 1048576) : Calls Tryz.prog 31 #[.agg c.enc.toArray, .agg cs.toArray, .agg e.enc.toArray] W (Ret (Mk W (fun vs => .tuple #[.agg (modelEK.cells (explains c m e).1 vs).toArray, .bool (explains c m e).2]) (fun vs => [Part modelEK (explains c m e).1 vs]))) := by
 refine cfr Tryz.func31 Tryz.ntmps31 fun a hF => ?_
 have hS := Sep.refl W
 obtain ⟨v0, v1, rfl, r0, r1⟩ := hm
 have hm : modelEK.K W m (m.encv v0 v1) := ⟨_, _, rfl, r0, r1⟩
 have hw : isModel c m = true → IntKind.i64.wrap (c.threads - 1) = c.threads - 1 := fun h => by obtain ⟨hok, _⟩ := isModel_thr h; unfold Config.ok at hok; exact w64_id (by omega) (by omega)
 refine ws fun K1 hK1 => wl_box (cs := [_, _, _, _, _, _]) hF hS rfl (hF.ev rfl) rfl fun g1 w1 a hS _ hF => wl_box (cs := [_, _]) hF hS rfl (hF.ev rfl) rfl fun g2 w2 a hS _ hF => wl_box (cs := [_, _, _, _, _, _, _, _]) hF hS rfl (hF.ev rfl) rfl fun g3 w3 a hS _ hF => wl_alloc hF hS rfl zr36 fun g4 w4 a hS _ hF => ge hK1 hF rfl fun a hF => ws fun K2 hK2 => ?_
 refine gB 1 2 hF hS rfl rfl rfl fun a hF => ?_
 refine wl_mk hF hS rfl rfl rfl (r_call1 en52 (hF.ev rfl)) (specCopyM_c (hS.k hm) (by omega)) ?_; rintro ⟨p13, q13⟩ w5 a hS_ hF; replace hS := hS_; clear hS_; dsimp only [List.cons_append, List.nil_append] at hS
 refine wl_alloc hF hS rfl zr36 fun g5 w6 a hS _ hF => ww 0 hF hS rfl rfl rfl rfl rfl rfl fun w7 hS => wl_nil <| hK2 _ _ <| wp_seq_k fun K3 hK3 => ws fun K4 hK4 => gB 1 6 hF hS rfl rfl rfl fun a hF => gB 1 5 hF hS rfl rfl rfl fun a hF => ?_
 refine ckr hF hS rfl (specIsModel_c (hS.k hm)) fun w8 a hS hF => ga 2 hF rfl fun a hF => ?_
 apply wo 8 18 26 hF hS
 ·
  intro hg18 a hF
  refine gB 3 4 hF hS rfl rfl rfl fun a hF => wl_take hF rfl rfl rfl rfl <| gB 2 6 hF hS rfl rfl rfl fun a hF => ckr hF hS rfl (l1In_c _ _ _) fun w9 a hS hF => ?_
  exact je 8 hF hS rfl rfl rfl rfl
 intro a w10 hF hS
 refine ga 1 hF rfl fun a hF => ?_
 apply wo 5 27 32 hF hS
 ·
  intro hg27 a hF
  refine ga 1 hF rfl fun a hF => wl_take hF rfl rfl rfl rfl <| wl hF rfl rfl rfl (r_loadn ag42 (hF.ev rfl) (hS.boxn (vs := [_, _, _]) (i := 4) (m := 3) rfl rfl) sz42) fun a hF => ckr hF hS rfl (specIsOp_c _) fun w11 a hS hF => ?_
  exact je 5 hF hS rfl rfl rfl rfl
 intro a w12 hF hS
 refine wl_nil <| hK4 _ _ <| cx 32 hF rfl (fun c32 hF => ?_) fun c32 hF => ?_
 ·
  have hno : ¬ (isModel c m = true ∧ e.op.ok ∧ (0 ≤ e.thread ∧ e.thread ≤ c.threads - 1)) := fun h => by
    rw [hw h.1] at c32
    rcases c32 with (c | c) | c
    · rw [h.1] at c; cases c
    · exact c h.2.2
    · exact c h.2.1
  refine ws fun K5 hK5 => gB 1 0 hF hS rfl rfl rfl fun a hF => ww 3 hF hS rfl rfl rfl rfl rfl rfl fun w13 hS => ge hK5 hF rfl fun a hF => ?_
  refine xr ?_
  have e_ : explains c m e = (m, false) := ex_no hno
  refine ret2c rfl ag36 hF hS (i := 3) rfl sz36 rfl rfl ⟨[p13, q13], ?_, ?_⟩
  · first | (rw [e_]; done) | (rw [e_]; rfl)
  · rw [e_]; exact hS.part_of [1, 2] (by decide) rfl
 rw [hw c32.1.1] at c32
 have hyes : isModel c m = true ∧ e.op.ok ∧ (0 ≤ e.thread ∧ e.thread ≤ c.threads - 1) := ⟨c32.1.1, c32.2, c32.1.2⟩
 refine wp_skip <| hK3 _ _ <| ws fun K6 hK6 => gB 1 6 hF hS rfl rfl rfl fun a hF => gB 2 5 hF hS rfl rfl rfl fun a hF => gB 2 4 hF hS rfl rfl rfl fun a hF => wl hF rfl rfl rfl (r_loadn ag42 (hF.ev rfl) (hS.boxn (vs := [_, _, _]) (i := 4) (m := 3) rfl rfl) sz42) fun a hF => ?_
 refine wl_mk hF hS rfl rfl rfl (r_call4 en55 (hF.ev rfl) (hF.ev rfl) (hF.ev rfl) (hF.ev rfl)) (specApplyModel_c (hS.k hm) (by omega)) ?_; rintro vs41 w14 a hS_ hF; replace hS := hS_; clear hS_; dsimp only [List.cons_append, List.nil_append] at hS
 refine ga 3 hF rfl fun a hF => wl_alloc hF hS rfl zr36 fun g6 w15 a hS _ hF => wl_alloc hF hS rfl zr44 fun g7 w16 a hS _ hF => ww 1 hF hS rfl rfl rfl rfl rfl rfl fun w17 hS => ?_
 refine wl_storen (cs' := [_, _]) hF hS (i := 0) rfl (hF.ev rfl) (hF.ev rfl) sz44 ⟨rfl, rfl⟩ rfl rfl fun w18 hS => ?_; dsimp only [List.set] at hS
 refine wl_nil <| hK6 _ _ <| ws fun K7 hK7 => gB 5 7 hF hS rfl rfl rfl fun a hF => ?_
 apply wa 5 48 53 hF hS
 ·
  intro hg48 a hF
  exact jf 5 7 hF hS rfl rfl rfl rfl rfl rfl
 intro a w19 hF hS
 refine ga 1 hF rfl fun a hF => ?_
 apply wo 11 54 65 hF hS
 ·
  intro hg54 a hF
  refine gB 5 7 hF hS rfl rfl rfl fun a hF => ?_
  apply wa 5 59 64 hF hS
  ·
   intro hg59 a hF
   exact jf 5 7 hF hS rfl rfl rfl rfl rfl rfl
  intro a w20 hF hS
  exact je 7 hF hS rfl rfl rfl rfl
 intro a w21 hF hS
 refine ge hK7 hF rfl fun a hF => wp_seq_k fun K8 hK8 => ws fun K9 hK9 => gB 4 7 hF hS rfl rfl rfl fun a hF => ?_
 apply wa 2 69 71 hF hS
 ·
  intro hg69 a hF
  exact je 2 hF hS rfl rfl rfl rfl
 intro a w22 hF hS
 refine ga 1 hF rfl fun a hF => ?_
 apply wa 5 72 77 hF hS
 ·
  intro hg72 a hF
  exact jf 5 7 hF hS rfl rfl rfl rfl rfl rfl
 intro a w23 hF hS
 refine wl_nil <| hK9 _ _ <| cx 77 hF rfl (fun c77 hF => ?_) fun c77 hF => ?_
 ·
  have hrf : refusedB e = true := by unfold refusedB; simp only [zb3, zb4, zb7]; exact c77.1.2
  have hres := ex_ref hyes (fun h => h.elim (by omega) (ref_ne hrf))
  rw [hrf, decide_eq_true c77.2, Bool.true_and, Bool.true_and] at hres
  refine wp_seq_k fun K10 hK10 => ?_
  refine wp_region_todo (is := [0, 1, 2, 3, 4, 5]) [] [4, 5] (by kernel_rfl) hF hS ⟨trivial, by decide, by decide, by decide⟩ (by kernel_rfl) ?_; intro hl_ wd hSd
  refine todo_load [4, 5] hl_ (by kernel_rfl) rfl (gw0 rfl) rfl rfl rfl (fun a w_ hF hB_ => r_loadn ag36 (hF.ev rfl) ((hSd.ext hB_).box_rd (i := 3) rfl) sz36) <| tp 1 hl_ rfl <| todo_fork [(2, [3, 4, 5]), (4, [2, 3, 5])] hl_ rfl (by kernel_rfl) (List.forall_mem_cons.2 ⟨?_, List.forall_mem_cons.2 ⟨?_, fun _ h_ => nomatch h_⟩⟩)
  ·
   refine op_ld rfl rfl (gw0 rfl) rfl rfl rfl (fun a w_ hF hS => r_load1 sc3 (hF.ev rfl) (hS.box (i := 0) rfl rfl)) <| tp 1 hl_ rfl ?_
   refine todo_fin hl_ rfl (by kernel_rfl) (tl := [_, _]) rfl ?_; intro a w24 hF hA_
   have hS := hA_.sep; clear hA_
   clear hl_; try clear hSd
   try dsimp only [List.cons_append, List.nil_append, List.set] at hS
   try clear wd
   refine ww 6 hF hS rfl rfl rfl rfl rfl rfl fun w25 hS => ga 1 hF rfl fun a hF => wl_nil ⟨rfl, ?_⟩
   refine hK10 _ _ ?_
   refine xr ?_
   have e_ : explains c m e = (m, (decide ((applyModel c m e.thread e.op).2.code = 0))) := hres
   refine ret2c rfl ag36 hF hS (i := 6) rfl sz36 rfl rfl ⟨[p13, q13], ?_, ?_⟩
   · first | (rw [e_]; done) | (rw [e_]; rfl)
   · rw [e_]; exact hS.part_of [4, 5] (by decide) rfl
  ·
   refine op_st (j := 6) (m' := [5]) rfl rfl (by kernel_rfl) rfl (fun a hF => (hF.ev rfl)) (fun a hF => (hF.ev rfl)) sz36 rfl rfl ?_; try clear hSd; try clear wd; intro wd hSd; try dsimp only [List.set] at hSd
   refine todo_load [3, 5] hl_ (by kernel_rfl) rfl (gw0 rfl) rfl rfl rfl (fun a w_ hF hB_ => r_load1 sc3 (hF.ev rfl) ((hSd.ext hB_).box (i := 0) rfl rfl)) <| tp 1 hl_ rfl ?_
   refine todo_fin hl_ rfl (by kernel_rfl) (tl := [_]) rfl ?_; intro a w26 hF hA_
   have hS := hA_.sep; clear hA_
   clear hl_; try clear hSd
   try dsimp only [List.cons_append, List.nil_append, List.set] at hS
   try clear wd
   refine ga 1 hF rfl fun a hF => wl_nil ⟨rfl, ?_⟩
   refine hK10 _ _ ?_
   refine xr ?_
   have e_ : explains c m e = (m, (decide ((applyModel c m e.thread e.op).2.code = 0))) := hres
   refine ret2c rfl ag36 hF hS (i := 6) rfl sz36 rfl rfl ⟨[p13, q13], ?_, ?_⟩
   · first | (rw [e_]; done) | (rw [e_]; rfl)
   · rw [e_]; exact hS.part_of [4, 5] (by decide) rfl
 refine wp_skip <| hK8 _ _ <| wp_seq_k fun K11 hK11 => ws fun K12 hK12 => gB 4 7 hF hS rfl rfl rfl fun a hF => ?_
 apply wa 5 85 90 hF hS
 ·
  intro hg85 a hF
  refine ga 1 hF rfl fun a hF => wl_take hF rfl rfl rfl rfl <| wl hF rfl rfl rfl (r_loadn ag44 (hF.ev rfl) (hS.boxn (vs := [_, _]) (i := 7) (m := 2) rfl rfl) sz44) fun a hF => gB 1 0 hF hS rfl rfl rfl fun a hF => wl_take hF rfl rfl rfl rfl <| wl hF rfl rfl rfl (r_neqF [_, _] [_, _] fl44 ag44 eg44 rfl rfl ((hF.ev rfl).trans rfl) ((hF.ev rfl).trans rfl)) fun a hF => ?_
  exact je 5 hF hS rfl rfl rfl rfl
 intro a w27 hF hS
 refine wl_nil <| hK12 _ _ <| cx 90 hF rfl (fun c90 hF => ?_) fun c90 hF => ?_
 ·
  have hne : ¬ (e.fin < 0 ∨ e.result = (applyModel c m e.thread e.op).2) := fun h => h.elim (by omega) (result_ne c90.2)
  have hres2 := ex_ref hyes hne
  have hrv : (refusedB e && decide (e.result.value = 0)) = false := by unfold refusedB; simp only [zb3, zb4, zb5, zb6, zb7, zb8]; omega
  rw [hrv, Bool.false_and] at hres2
  refine ws fun K13 hK13 => gB 1 3 hF hS rfl rfl rfl fun a hF => ww 6 hF hS rfl rfl rfl rfl rfl rfl fun w28 hS => ge hK13 hF rfl fun a hF => ?_
  refine xr ?_
  have e_ : explains c m e = (m, false) := hres2
  refine ret2c rfl ag36 hF hS (i := 6) rfl sz36 rfl rfl ⟨[p13, q13], ?_, ?_⟩
  · first | (rw [e_]; done) | (rw [e_]; rfl)
  · rw [e_]; exact hS.part_of [4, 5] (by decide) rfl
 have hres3 : explains c m e = ((applyModel c m e.thread e.op).1, true) := ex_yes hyes (c90.elim (fun h => .inl (by omega)) (fun h => .inr (result_eq h)))
 refine wp_skip <| hK11 _ _ <| ws fun K14 hK14 => gB 1 1 hF hS rfl rfl rfl fun a hF => ww 6 hF hS rfl rfl rfl rfl rfl rfl fun w29 hS => ge hK14 hF rfl fun a hF => ?_
 refine xr ?_
 have e_ : explains c m e = ((applyModel c m e.thread e.op).1, true) := hres3
 refine ret2c rfl ag36 hF hS (i := 6) rfl sz36 rfl rfl ⟨vs41, ?_, ?_⟩
 · first | (rw [e_]; done) | (rw [e_]; rfl)
 · rw [e_]; exact hS.pick [2] (by decide) rfl
theorem implExplains_c {W : World} {c : Config} {m : Model} {cs : List Value} {e : Sl.Event} (hm : modelEK.K W m cs) (hz : m.size ≤ 1048576) : Calls Tryz.prog 29 #[.agg c.enc.toArray, .agg cs.toArray, .agg e.enc.toArray] W (Ret (Mk W (fun vs => .tuple #[.agg (modelEK.cells (explains c m e).1 vs).toArray, .bool (explains c m e).2]) (fun vs => [Part modelEK (explains c m e).1 vs]))) := by
 refine cfr Tryz.func29 Tryz.ntmps29 fun a hF => ?_
 have hS := Sep.refl W
 obtain ⟨v0, v1, rfl, r0, r1⟩ := hm
 have hm : modelEK.K W m (m.encv v0 v1) := ⟨_, _, rfl, r0, r1⟩
 have hw : isModel c m = true → IntKind.i64.wrap (c.threads - 1) = c.threads - 1 := fun h => by obtain ⟨hok, _⟩ := isModel_thr h; unfold Config.ok at hok; exact w64_id (by omega) (by omega)
 refine ws fun K1 hK1 => wl_box (cs := [_, _, _, _, _, _]) hF hS rfl (hF.ev rfl) rfl fun g1 w1 a hS _ hF => wl_box (cs := [_, _]) hF hS rfl (hF.ev rfl) rfl fun g2 w2 a hS _ hF => wl_box (cs := [_, _, _, _, _, _, _, _]) hF hS rfl (hF.ev rfl) rfl fun g3 w3 a hS _ hF => wl_alloc hF hS rfl zr36 fun g4 w4 a hS _ hF => ge hK1 hF rfl fun a hF => wp_seq_k fun K2 hK2 => ?_
 refine ws fun K3 hK3 => gB 1 3 hF hS rfl rfl rfl fun a hF => gB 1 2 hF hS rfl rfl rfl fun a hF => ckr hF hS rfl (implIsModel_c (hS.k hm)) fun w5 a hS hF => ga 2 hF rfl fun a hF => ?_
 apply wo 5 15 20 hF hS
 ·
  intro hg15 a hF
  refine ga 1 hF rfl fun a hF => wl_take hF rfl rfl rfl rfl <| wl hF rfl rfl rfl (r_loadn ag42 (hF.ev rfl) (hS.boxn (vs := [_, _, _]) (i := 1) (m := 3) rfl rfl) sz42) fun a hF => ckr hF hS rfl (implIsOp_c _) fun w6 a hS hF => ?_
  exact je 5 hF hS rfl rfl rfl rfl
 intro a w7 hF hS
 refine ga 1 hF rfl fun a hF => ?_
 apply wo 8 21 29 hF hS
 ·
  intro hg21 a hF
  refine gB 3 1 hF hS rfl rfl rfl fun a hF => wl_take hF rfl rfl rfl rfl <| gB 2 3 hF hS rfl rfl rfl fun a hF => ckr hF hS rfl (in_c _ _ _) fun w8 a hS hF => ?_
  exact je 8 hF hS rfl rfl rfl rfl
 intro a w9 hF hS
 refine wl_nil <| hK3 _ _ <| cx 29 hF rfl (fun c29 hF => ?_) fun c29 hF => ?_
 ·
  have hno : ¬ (isModel c m = true ∧ e.op.ok ∧ (0 ≤ e.thread ∧ e.thread ≤ c.threads - 1)) := fun h => by
    rw [hw h.1] at c29
    rcases c29 with (c | c) | c
    · rw [h.1] at c; cases c
    · exact c h.2.1
    · exact c h.2.2
  refine ws fun K4 hK4 => gB 1 2 hF hS rfl rfl rfl fun a hF => ?_
  refine wl_mk hF hS rfl rfl rfl (r_call1 en50 (hF.ev rfl)) (implCopyM_c (hS.k hm) (by omega)) ?_; rintro ⟨p31, q31⟩ w10 a hS_ hF; replace hS := hS_; clear hS_; dsimp only [List.cons_append, List.nil_append] at hS
  refine ww 2 hF hS rfl rfl rfl rfl rfl rfl fun w11 hS => ge hK4 hF rfl fun a hF => ?_
  refine xr ?_
  have e_ : explains c m e = (m, false) := ex_no hno
  refine ret2c rfl ag36 hF hS (i := 2) rfl sz36 rfl rfl ⟨[p31, q31], ?_, ?_⟩
  · first | (rw [e_]; done) | (rw [e_]; rfl)
  · rw [e_]; exact hS.part_of [0, 1] (by decide) rfl
 rw [hw c29.1.1] at c29
 have hyes : isModel c m = true ∧ e.op.ok ∧ (0 ≤ e.thread ∧ e.thread ≤ c.threads - 1) := ⟨c29.1.1, c29.1.2, c29.2⟩
 refine wp_skip <| hK2 _ _ <| ws fun K5 hK5 => gB 1 3 hF hS rfl rfl rfl fun a hF => gB 2 2 hF hS rfl rfl rfl fun a hF => gB 2 1 hF hS rfl rfl rfl fun a hF => wl hF rfl rfl rfl (r_loadn ag42 (hF.ev rfl) (hS.boxn (vs := [_, _, _]) (i := 1) (m := 3) rfl rfl) sz42) fun a hF => ?_
 refine wl_mk hF hS rfl rfl rfl (r_call4 en51 (hF.ev rfl) (hF.ev rfl) (hF.ev rfl) (hF.ev rfl)) (implApplyModel_c (hS.k hm) (by omega)) ?_; rintro vs39 w12 a hS_ hF; replace hS := hS_; clear hS_; dsimp only [List.cons_append, List.nil_append] at hS
 refine ga 3 hF rfl fun a hF => wl_alloc hF hS rfl zr36 fun g5 w13 a hS _ hF => wl_alloc hF hS rfl zr44 fun g6 w14 a hS _ hF => ww 1 hF hS rfl rfl rfl rfl rfl rfl fun w15 hS => ?_
 refine wl_storen (cs' := [_, _]) hF hS (i := 0) rfl (hF.ev rfl) (hF.ev rfl) sz44 ⟨rfl, rfl⟩ rfl rfl fun w16 hS => ?_; dsimp only [List.set] at hS
 refine wl_nil <| hK5 _ _ <| wp_seq_k fun K6 hK6 => ws fun K7 hK7 => gB 4 4 hF hS rfl rfl rfl fun a hF => ?_
 apply wo 5 45 50 hF hS
 ·
  intro hg45 a hF
  refine ga 1 hF rfl fun a hF => wl_take hF rfl rfl rfl rfl <| wl hF rfl rfl rfl (r_loadn ag44 (hF.ev rfl) (hS.boxn (vs := [_, _]) (i := 4) (m := 2) rfl rfl) sz44) fun a hF => gB 1 0 hF hS rfl rfl rfl fun a hF => wl_take hF rfl rfl rfl rfl <| wl hF rfl rfl rfl (r_eqlF [_, _] [_, _] fl44 ag44 eg44 rfl rfl ((hF.ev rfl).trans rfl) ((hF.ev rfl).trans rfl)) fun a hF => ?_
  exact je 5 hF hS rfl rfl rfl rfl
 intro a w17 hF hS
 refine wl_nil <| hK7 _ _ <| cx 50 hF rfl (fun c50 hF => ?_) fun c50 hF => ?_
 ·
  replace c50 := c50.imp_right result_eq
  refine ws fun K8 hK8 => gB 1 1 hF hS rfl rfl rfl fun a hF => ww 3 hF hS rfl rfl rfl rfl rfl rfl fun w18 hS => ge hK8 hF rfl fun a hF => ?_
  refine xr ?_
  have e_ : explains c m e = ((applyModel c m e.thread e.op).1, true) := ex_yes hyes c50
  refine ret2c rfl ag36 hF hS (i := 3) rfl sz36 rfl rfl ⟨vs39, ?_, ?_⟩
  · first | (rw [e_]; done) | (rw [e_]; rfl)
  · rw [e_]; exact hS.pick [2] (by decide) rfl
 replace c50 : ¬ (e.fin < 0 ∨ e.result = (applyModel c m e.thread e.op).2) := fun h => h.elim c50.1 (result_ne c50.2)
 refine wp_skip <| hK6 _ _ <| ws fun K9 hK9 => gB 5 4 hF hS rfl rfl rfl fun a hF => ?_
 apply wa 5 56 61 hF hS
 ·
  intro hg56 a hF
  refine ga 1 hF rfl fun a hF => wl_take hF rfl rfl rfl rfl <| wl hF rfl rfl rfl (r_loadn ag44 (hF.ev rfl) (hS.boxn (vs := [_, _]) (i := 4) (m := 2) rfl rfl) sz44) fun a hF => wl_take hF rfl rfl rfl rfl <| wl hF rfl rfl rfl (r_build (bd44_0 _) ⟨rfl, ec, trivial⟩) fun a hF => wl_take hF rfl rfl rfl rfl <| wl hF rfl rfl rfl (r_eqlF [_, _] [_, _] fl44 ag44 eg44 rfl rfl ((hF.ev rfl).trans rfl) ((hF.ev rfl).trans rfl)) fun a hF => ?_
  exact je 5 hF hS rfl rfl rfl rfl
 intro a w19 hF hS
 refine ga 1 hF rfl fun a hF => ?_
 apply wo 11 62 73 hF hS
 ·
  intro hg62 a hF
  refine gB 5 4 hF hS rfl rfl rfl fun a hF => ?_
  apply wa 5 67 72 hF hS
  ·
   intro hg67 a hF
   refine ga 1 hF rfl fun a hF => wl_take hF rfl rfl rfl rfl <| wl hF rfl rfl rfl (r_loadn ag44 (hF.ev rfl) (hS.boxn (vs := [_, _]) (i := 4) (m := 2) rfl rfl) sz44) fun a hF => wl_take hF rfl rfl rfl rfl <| wl hF rfl rfl rfl (r_build (bd44_0 _) ⟨rfl, ec, trivial⟩) fun a hF => wl_take hF rfl rfl rfl rfl <| wl hF rfl rfl rfl (r_eqlF [_, _] [_, _] fl44 ag44 eg44 rfl rfl ((hF.ev rfl).trans rfl) ((hF.ev rfl).trans rfl)) fun a hF => ?_
   exact je 5 hF hS rfl rfl rfl rfl
  intro a w20 hF hS
  exact je 7 hF hS rfl rfl rfl rfl
 intro a w21 hF hS
 refine ge hK9 hF rfl fun a hF => wp_seq_k fun K10 hK10 => ?_
 revert hF; intro hF0; refine bsplit (t := 10) hF0 rfl (fun b10 hF => ?_) (fun b10 hF => ?_) <;> clear hF0
 ·
  refine wp_region_todo (is := [0, 2, 1, 3, 4, 5, 6, 7, 8, 9]) [] [8, 9] (by kernel_rfl) hF hS ⟨trivial, by decide, by decide, by decide⟩ (by kernel_rfl) ?_; intro hl_ wd hSd
  refine todo_load [1, 3, 4, 5, 6, 7, 8, 9] hl_ (by kernel_rfl) rfl (gw0 rfl) rfl rfl rfl (fun a w_ hF hB_ => r_loadn ag36 (hF.ev rfl) ((hSd.ext hB_).box_rd (i := 5) rfl) sz36) <| tp 1 hl_ rfl ?_
  refine todo_mk hl_ rfl (by kernel_rfl) rfl rfl rfl rfl rfl (fun a w_ hF => r_call1 en50 (hF.ev rfl)) (fun w_ hS => implCopyM_c (hS.k hm) (by omega)) ?_; rintro ⟨p75, q75⟩
  refine tp 2 hl_ rfl <| todo_fork [(5, [6, 7, 8, 9]), (8, [5, 6, 7, 9])] hl_ rfl (by kernel_rfl) (List.forall_mem_cons.2 ⟨?_, List.forall_mem_cons.2 ⟨?_, fun _ h_ => nomatch h_⟩⟩)
  ·
   refine op_ld rfl rfl (gw1 rfl rfl rfl rfl) rfl rfl rfl (fun a w_ hF hS => r_load1 sc3 (hF.ev rfl) (hS.box (i := 2) rfl rfl)) <| tp 2 hl_ rfl ?_
   refine todo_fin hl_ rfl (by kernel_rfl) (tl := [_, _]) rfl ?_; intro a w22 hF hA_
   have hS := hA_.sep; clear hA_
   clear hl_; try clear hSd
   try dsimp only [List.cons_append, List.nil_append, List.set] at hS
   try clear wd
   refine ww 5 hF hS rfl rfl rfl rfl rfl rfl fun w23 hS => ga 1 hF rfl fun a hF => wl_nil ⟨rfl, ?_⟩
   refine hK10 _ _ ?_
   refine xr ?_
   have e_ : explains c m e = (m, (refusedB e && decide (e.result.value = 0) && decide ((applyModel c m e.thread e.op).2.code = 0))) := ex_ref hyes c50
   refine ret2c rfl ag36 hF hS (i := 5) rfl sz36 rfl rfl ⟨[p75, q75], ?_, ?_⟩
   · rw [e_, ref_form]; first | (rw [b10]; done) | (rw [b10]; rfl)
   · rw [e_]; exact hS.part_of [0, 1] (by decide) rfl
  ·
   refine op_st (j := 5) (m' := [9]) rfl rfl (by kernel_rfl) rfl (fun a hF => (hF.ev rfl)) (fun a hF => (hF.ev rfl)) sz36 rfl rfl ?_; try clear hSd; try clear wd; intro wd hSd; try dsimp only [List.set] at hSd
   refine todo_load [6, 7, 9] hl_ (by kernel_rfl) rfl (gw1 rfl rfl rfl rfl) rfl rfl rfl (fun a w_ hF hB_ => r_load1 sc3 (hF.ev rfl) ((hSd.ext hB_).box (i := 2) rfl rfl)) <| tp 2 hl_ rfl ?_
   refine todo_fin hl_ rfl (by kernel_rfl) (tl := [_]) rfl ?_; intro a w24 hF hA_
   have hS := hA_.sep; clear hA_
   clear hl_; try clear hSd
   try dsimp only [List.cons_append, List.nil_append, List.set] at hS
   try clear wd
   refine ga 1 hF rfl fun a hF => wl_nil ⟨rfl, ?_⟩
   refine hK10 _ _ ?_
   refine xr ?_
   have e_ : explains c m e = (m, (refusedB e && decide (e.result.value = 0) && decide ((applyModel c m e.thread e.op).2.code = 0))) := ex_ref hyes c50
   refine ret2c rfl ag36 hF hS (i := 5) rfl sz36 rfl rfl ⟨[p75, q75], ?_, ?_⟩
   · rw [e_, ref_form]; first | (rw [b10]; done) | (rw [b10]; rfl)
   · rw [e_]; exact hS.part_of [0, 1] (by decide) rfl
 ·
  refine wp_region_todo (is := [0, 2, 1, 3, 4, 5, 6, 7, 8, 9]) [] [8, 9] (by kernel_rfl) hF hS ⟨trivial, by decide, by decide, by decide⟩ (by kernel_rfl) ?_; intro hl_ wd hSd
  refine todo_load [1, 3, 4, 5, 6, 7, 8, 9] hl_ (by kernel_rfl) rfl (gw0 rfl) rfl rfl rfl (fun a w_ hF hB_ => r_loadn ag36 (hF.ev rfl) ((hSd.ext hB_).box_rd (i := 5) rfl) sz36) <| tp 1 hl_ rfl ?_
  refine todo_mk hl_ rfl (by kernel_rfl) rfl rfl rfl rfl rfl (fun a w_ hF => r_call1 en50 (hF.ev rfl)) (fun w_ hS => implCopyM_c (hS.k hm) (by omega)) ?_; rintro ⟨p75, q75⟩
  refine tp 5 hl_ rfl ?_
  refine todo_fin hl_ rfl (by kernel_rfl) (tl := [_, _]) rfl ?_; intro a w25 hF hA_
  have hS := hA_.sep; clear hA_
  clear hl_; try clear hSd
  try dsimp only [List.cons_append, List.nil_append, List.set] at hS
  try clear wd
  refine ww 5 hF hS rfl rfl rfl rfl rfl rfl fun w26 hS => ga 1 hF rfl fun a hF => wl_nil ⟨rfl, ?_⟩
  refine hK10 _ _ ?_
  refine xr ?_
  have e_ : explains c m e = (m, (refusedB e && decide (e.result.value = 0) && decide ((applyModel c m e.thread e.op).2.code = 0))) := ex_ref hyes c50
  refine ret2c rfl ag36 hF hS (i := 5) rfl sz36 rfl rfl ⟨[p75, q75], ?_, ?_⟩
  · rw [e_, ref_form]; first | (rw [b10]; done) | (rw [b10]; rfl)
  · rw [e_]; exact hS.part_of [0, 1] (by decide) rfl
set_option maxRecDepth 20000
/-- the model at the beginning -/
def newModel (c : Config) : Model := if c.ok then ⟨List.replicate c.keys.toNat (-1), List.replicate c.threads.toNat []⟩ else ⟨[], []⟩
theorem crow_rep0 (n : Nat) : crow List.length (List.replicate n ([] : List Int)) = 0 := by
 induction n with
 | zero => rfl
 | succ n ih => simp [List.replicate_succ, crow, ih]
theorem newModel_cnt (c : Config) : (newModel c).cnt ≤ 100 ∧ (newModel c).size ≤ 100 := by
 unfold newModel Model.cnt Model.size
 split
 · rename_i h
   unfold Config.ok at h
   simp only [List.length_replicate, crow_rep0]
   omega
 · simp [crow]
theorem rep_next {α : Type} (k : Nat) (x : α) : List.replicate k x ++ [x] = List.replicate (k + 1) x := List.replicate_succ'.symm
theorem rep_copy {n k m : Nat} {x : Int} (hk : k ≤ n) (hm : m = min k (n - k)) : (List.replicate k x ++ List.replicate (n - k) (0 : Int)).take k ++ (List.replicate k x).take m ++ (List.replicate k x ++ List.replicate (n - k) (0 : Int)).drop (k + m) = List.replicate (k + m) x ++ List.replicate (n - (k + m)) 0 := by
 rw [List.take_left' (by simp), List.drop_append]
 simp only [List.length_replicate, List.drop_replicate, List.take_replicate]
 rw [show k - (k + m) = 0 by omega, List.replicate_zero, List.nil_append, Nat.min_eq_left (by omega), List.replicate_append_replicate]
 congr 2; omega
theorem newModel_of {c : Config} {k j : Nat} (hk : (k : Int) ≤ c.keys ∨ k = 0) (hz : c.ok ∨ k = 0) (h1 : ¬ (k : Int) < c.keys ∨ ¬ c.ok) (hj : (j : Int) ≤ c.threads ∨ j = 0) (hy : c.ok ∨ j = 0) (h2 : ¬ (j : Int) < c.threads ∨ ¬ c.ok) :
    newModel c = ⟨List.replicate k (-1), List.replicate j []⟩ := by
  unfold newModel
  split
  · rename_i h
    have h' := h
    unfold Config.ok at h'
    have e1 : c.keys.toNat = k := by
      rcases h1 with h1 | h1
      · omega
      · exact absurd h h1
    have e2 : c.threads.toNat = j := by
      rcases h2 with h2 | h2
      · omega
      · exact absurd h h2
    rw [e1, e2]
  · rename_i h
    have e1 : k = 0 := hz.resolve_left h
    have e2 : j = 0 := hy.resolve_left h
    subst e1; subst e2; rfl
theorem mul64_c {W : World} {n : Int} (hn : n = 1 ∨ n = 2 ∨ n = 3 ∨ n = 4) : Calls Tryz.prog 79 #[.int .u64 1, .int .u64 n] W (Ret fun v w' => v = .tuple #[.int .u64 0, .int .u64 n] ∧ Below W.heap.size W w') := by
 refine cfr Tryz.func79 Tryz.ntmps79 fun a hF => ?_
 have hS := Sep.refl W
 refine rg hF rfl fun a hF => ws fun K2 hK2 => ga 1 hF rfl fun a hF => ?_
 refine wl hF rfl rfl rfl (r_bits (r := .int .u64 1) (hF.ev rfl) ec rfl (by rcases hn with rfl | rfl | rfl | rfl <;> rfl)) fun a hF => ?_
 refine ge hK2 hF rfl fun a hF => ws fun K3 hK3 => ga 1 hF rfl fun a hF => ?_
 refine wl hF rfl rfl rfl (r_bits (r := .int .u64 0) (hF.ev rfl) ec rfl (by rcases hn with rfl | rfl | rfl | rfl <;> rfl)) fun a hF => ?_
 refine ge hK3 hF rfl fun a hF => ws fun K4 hK4 => ga 1 hF rfl fun a hF => ?_
 refine wl hF rfl rfl rfl (r_bits (r := .int .u64 n) (hF.ev rfl) ec rfl (by rcases hn with rfl | rfl | rfl | rfl <;> rfl)) fun a hF => ?_
 refine ge hK4 hF rfl fun a hF => ws fun K5 hK5 => ga 1 hF rfl fun a hF => ?_
 refine wl hF rfl rfl rfl (r_bits (r := .int .u64 0) (hF.ev rfl) ec rfl (by rcases hn with rfl | rfl | rfl | rfl <;> rfl)) fun a hF => ?_
 refine ge hK5 hF rfl fun a hF => ws fun K6 hK6 => ga 2 hF rfl fun a hF => ?_
 refine wl hF rfl rfl rfl (r_bits (r := .int .u64 n) (hF.ev rfl) (hF.ev rfl) rfl (by rcases hn with rfl | rfl | rfl | rfl <;> rfl)) fun a hF => ?_
 refine ge hK6 hF rfl fun a hF => ws fun K7 hK7 => ga 2 hF rfl fun a hF => ?_
 refine wl hF rfl rfl rfl (r_bits (r := .int .u64 0) (hF.ev rfl) (hF.ev rfl) rfl (by rcases hn with rfl | rfl | rfl | rfl <;> rfl)) fun a hF => ?_
 refine ga 1 hF rfl fun a hF => ?_
 refine wl hF rfl rfl rfl (r_bits (r := .int .u64 0) (hF.ev rfl) ec rfl (by rcases hn with rfl | rfl | rfl | rfl <;> rfl)) fun a hF => ?_
 refine wl hF rfl rfl rfl (r_bits (r := .int .u64 0) (hF.ev rfl) (hF.ev rfl) rfl (by rcases hn with rfl | rfl | rfl | rfl <;> rfl)) fun a hF => ?_
 refine ge hK7 hF rfl fun a hF => ws fun K8 hK8 => ga 1 hF rfl fun a hF => ?_
 refine wl hF rfl rfl rfl (r_bits (r := .int .u64 0) (hF.ev rfl) ec rfl (by rcases hn with rfl | rfl | rfl | rfl <;> rfl)) fun a hF => ?_
 refine ge hK8 hF rfl fun a hF => ws fun K9 hK9 => ga 1 hF rfl fun a hF => ?_
 refine wl hF rfl rfl rfl (r_bits (r := .int .u64 0) (hF.ev rfl) ec rfl (by rcases hn with rfl | rfl | rfl | rfl <;> rfl)) fun a hF => ?_
 refine ge hK9 hF rfl fun a hF => ws fun K10 hK10 => ga 3 hF rfl fun a hF => ?_
 refine wl hF rfl rfl rfl (r_bits (r := .int .u64 0) (hF.ev rfl) (hF.ev rfl) rfl (by rcases hn with rfl | rfl | rfl | rfl <;> rfl)) fun a hF => ?_
 refine wl hF rfl rfl rfl (r_bits (r := .int .u64 0) (hF.ev rfl) (hF.ev rfl) rfl (by rcases hn with rfl | rfl | rfl | rfl <;> rfl)) fun a hF => ?_
 refine ge hK10 hF rfl fun a hF => ws fun K11 hK11 => ga 2 hF rfl fun a hF => ?_
 refine wl hF rfl rfl rfl (r_bits (r := .int .u64 0) (hF.ev rfl) (hF.ev rfl) rfl (by rcases hn with rfl | rfl | rfl | rfl <;> rfl)) fun a hF => ?_
 refine ga 1 hF rfl fun a hF => ?_
 refine wl hF rfl rfl rfl (r_bits (r := .int .u64 0) (hF.ev rfl) (hF.ev rfl) rfl (by rcases hn with rfl | rfl | rfl | rfl <;> rfl)) fun a hF => ?_
 refine ga 1 hF rfl fun a hF => ?_
 refine wl hF rfl rfl rfl (r_bits (r := .int .u64 0) (hF.ev rfl) ec rfl (by rcases hn with rfl | rfl | rfl | rfl <;> rfl)) fun a hF => ?_
 refine wl hF rfl rfl rfl (r_bits (r := .int .u64 0) (hF.ev rfl) (hF.ev rfl) rfl (by rcases hn with rfl | rfl | rfl | rfl <;> rfl)) fun a hF => ?_
 refine ge hK11 hF rfl fun a hF => ws fun K12 hK12 => ga 2 hF rfl fun a hF => ?_
 refine wl hF rfl rfl rfl (r_bits (r := .int .u64 n) (hF.ev rfl) (hF.ev rfl) rfl (by rcases hn with rfl | rfl | rfl | rfl <;> rfl)) fun a hF => ?_
 refine ge hK12 hF rfl fun a hF => ?_
 refine xr ?_
 exact ret2 rfl hF rfl rfl ⟨rfl, hS.old⟩
theorem mul_c {W : World} {n : Int} (hn : n = 1 ∨ n = 2 ∨ n = 3 ∨ n = 4) : Calls Tryz.prog 67 #[.int .u64 1, .int .u64 n] W (Ret fun v w' => v = .tuple #[.int .u64 0, .int .u64 n] ∧ Below W.heap.size W w') := by
 refine cfr Tryz.func67 Tryz.ntmps67 fun a hF => ?_
 have hS := Sep.refl W
 refine rg hF rfl fun a hF => wp_seq_k fun K2 hK2 => wc_false ec <| wp_skip <| hK2 _ _ <| ws fun K3 hK3 => ga 2 hF rfl fun a hF => ?_
 refine ckr hF hS rfl (mul64_c hn) fun w1 a hS hF => ge hK3 hF rfl fun a hF => rg hF rfl fun a hF => ?_
 refine xr ?_
 exact ret2 rfl hF rfl rfl ⟨rfl, hS.old⟩
theorem repeat_c {W : World} {va : Value} {x nn : Int} (ha : intEK.Rd W va [x]) (hn : nn = 1 ∨ nn = 2 ∨ nn = 3 ∨ nn = 4) : Calls Tryz.prog 48 #[va, vi nn] W (Ret (Mk W (fun s : Slv => sv s) (fun s => [Own intEK (sv s) (List.replicate nn.toNat x)]))) := by
 refine cfr Tryz.func48 Tryz.ntmps48 fun a hF => ?_
 obtain ⟨n, rfl⟩ : ∃ n : Nat, nn = n := ⟨nn.toNat, by omega⟩
 rw [Int.toNat_natCast]
 have hS := Sep.refl W
 have ha0 := ha
 obtain ⟨g_a, o_a, m_a, q_a, rfl, hm_a, _, hc_a⟩ := Rd.idxF ha (i := 0) rfl
 obtain rfl : m_a = 1 := hm_a
 have hmul : (1 : Int) * n = n := by omega
 refine rg hF rfl fun a hF => wp_seq_k fun K2 hK2 => rg hF rfl fun a hF => cx 10 hF rfl (fun c10 hF => ?_) fun c10 hF => ?_
 ·
  exfalso; first | omega | exact (c10 rfl).elim | (simp_all; done)
 refine wp_skip <| hK2 _ _ <| ws fun K4 hK4 => ga 2 hF rfl fun a hF => wl hF rfl rfl rfl (r_conv iu3 iu103 (hF.ev rfl) (by first | exact wrap_u64 (by omega) (by omega) | exact w64_id (by omega) (by omega))) fun a hF => ga 1 hF rfl fun a hF => wl hF rfl rfl rfl (r_conv iu3 iu103 (hF.ev rfl) (by first | exact wrap_u64 (by omega) (by omega) | exact w64_id (by omega) (by omega))) fun a hF => ?_
 refine ckr hF hS rfl (mul_c hn) fun w1 a hS hF => ge hK4 hF rfl fun a hF => wp_seq_k fun K5 hK5 => ws fun K6 hK6 => ga 1 hF rfl fun a hF => wl hF rfl rfl rfl ((r_gtr (hF.ev rfl) ec)) fun a hF => ga 1 hF rfl fun a hF => ?_
 apply wo 3 23 26 hF hS
 ·
  intro hg23 a hF
  refine ga 1 hF rfl fun a hF => wl_take hF rfl rfl rfl rfl <| wl hF rfl rfl rfl ((r_gtr (hF.ev rfl) ec)) fun a hF => ?_
  exact je 3 hF hS rfl rfl rfl rfl
 intro a w2 hF hS
 refine wl_nil <| hK6 _ _ <| cx 26 hF rfl (fun c26 hF => ?_) fun c26 hF => ?_
 ·
  exfalso; first | omega | exact (c26 rfl).elim | (simp_all; done)
 refine wp_skip <| hK5 _ _ <| ws fun K7 hK7 => ga 1 hF rfl fun a hF => wl hF rfl rfl rfl (r_conv iu103 iu3 (hF.ev rfl) (by first | exact wrap_u64 (by omega) (by omega) | exact w64_id (by omega) (by omega))) fun a hF => ?_
 refine wl_make intEK 0 [] hF hS rfl mk29 rfl (fun _ => Sat.nil _ _) (hF.ev rfl) (by omega) (by unfold maxLen; omega) fun gm_30 w3 a hS hF => ?_
 refine ge hK7 hF rfl fun a hF => ws fun K8 hK8 => ga 2 hF rfl fun a hF => ?_
 obtain ⟨w4, hcp, hS_⟩ := run_copy_own (P := Tryz.prog) (ty := 3) (T' := 29) (q := 0) (i := 0) (m := 1) (ys := [x]) (dn := n) (dc := n) (B := some ⟨g_a, o_a, none⟩) (sn := 1) (sc := q_a) hS sl29 rfl  (by simp) (Nat.zero_le _) (by omega) (fun _ => ⟨_, _, rfl, Rd.cellsTake (hS.rd ha) rfl⟩) rfl
 refine wl (w' := w4) hF rfl rfl rfl (r_copy (hF.ev rfl) (hF.ev rfl) hcp) ?_; clear hF a hcp; intro a hF; replace hS := hS_; clear hS_; dsimp only [List.set] at hS
 refine ge hK8 hF rfl fun a hF => wp_seq_k fun K9 hK9 => wp_block ?_
 rw [show (List.replicate n (0 : Int)).take 0 ++ [x].take 1 ++ (List.replicate n (0 : Int)).drop (0 + 1) = List.replicate 1 x ++ List.replicate (n - 1) 0 from by simp] at hS
 replace hS := hS.pull (p := 0) rfl; dsimp only [List.eraseIdx] at hS
 have hL_ := ((hF.nil.keep hF (t := 7) rfl).keep hF (t := 4) rfl)
 refine wp_loop_m (σ := Nat) (fun k L_ => (8, vi k) :: L_) (fun k l_ => (Own intEK (.slice (some ⟨gm_30, 0, none⟩) n n) (List.replicate k x ++ List.replicate (n - k) 0)) :: l_) (fun k => (1 ≤ k) ∧ (k ≤ n)) (fun k => n - k) 1 (hS) (hL_.keepE hF (t := 8) rfl rfl) ?_ ?_
 · exact ⟨Nat.le_refl _, by omega⟩
 rintro k a w5 ⟨hk1, hkn⟩ hS hF; try dsimp only at hF; try dsimp only at hS
 refine wp_seq_k fun K10 hK10 => rg hF rfl fun a hF => cx 37 hF rfl (fun c37 hF => ?_) fun c37 hF => ?_
 ·
  refine wp_skip <| hK10 _ _ <| wp_block ?_
  refine wp_region_todo (is := [0, 1, 2, 3, 4, 5, 6, 7, 8, 9]) [] [7, 8, 9] (by kernel_rfl) hF hS ⟨trivial, by decide, by decide, by decide⟩ (by kernel_rfl) ?_; intro hl_ wd hSd
  refine tp 3 hl_ rfl ?_
  refine todo_pure hl_ (by kernel_rfl) rfl (gw0 rfl) rfl rfl rfl (fun a w_ hF => r_cutlo (i := k) sl29 (hF.ev rfl) ((hF.ev rfl).trans (by first | rfl | (congr 1; omega))) (by omega) (by omega)) ?_
  refine tp 2 hl_ rfl ?_
  refine todo_pure hl_ (by kernel_rfl) rfl (gw0 rfl) rfl rfl rfl (fun a w_ hF => r_cuthi (j := k) sl29 (hF.ev rfl) ((hF.ev rfl).trans (by first | rfl | (congr 1; omega))) (by omega)) ?_
  refine todo_fin hl_ rfl (by kernel_rfl) (tl := [_, _, _]) rfl ?_; intro a w6 hF hA_
  have hS := hA_.sep; clear hA_
  clear hl_; try clear hSd
  try dsimp only [List.cons_append, List.nil_append, List.set] at hS
  try clear wd
  obtain ⟨w7, hcp, hS_⟩ := run_copy_own (P := Tryz.prog) (ty := 3) (T' := 29) (q := 0) (i := k) (m := (min k (n - k))) (ys := List.replicate k x) (dn := n - k) (dc := n - k) (B := some ⟨gm_30, 0, none⟩) (sn := k) (sc := n) hS sl29 rfl  (by simp <;> omega) (by simp <;> omega) rfl (fun _ => ⟨_, _, rfl, Rd.cellsTake (hS.own_rd (i := 0) rfl) (by rw [List.take_append_of_le_length (by simp; omega)])⟩) (by simp)
  refine wl (w' := w7) hF rfl rfl rfl (r_copy ((hF.ev rfl).trans (by rw [cutA, if_neg (show ¬ n = k by omega)]; simp [Addr.add_lit])) (hF.ev rfl) hcp) ?_; clear hF a hcp; intro a hF; replace hS := hS_; clear hS_; dsimp only [List.set] at hS
  refine ga 2 hF rfl fun a hF => wl_nil ⟨rfl, ?_⟩
  refine xt ?_
  rw [rep_copy (m := min k (n - k)) hkn rfl] at hS
  refine ⟨k + min k (n - k), ⟨by omega, by omega⟩, hS, (((hF.nil.keep hF (t := 7) rfl).keep hF (t := 4) rfl).keepE hF (t := 8) rfl (by rw [w64_id (by omega) (by omega)]; first | done | rfl)), by omega⟩
 refine wp_exit ?_
 refine xt ?_
 refine hK9 _ _ <| rg hF rfl fun a hF => ?_
 refine xr ?_
 obtain rfl : k = n := by omega
 refine ret1 rfl hF rfl ?_
 rw [Nat.sub_self, List.replicate_zero, List.append_nil] at hS; exact Sep.mkS (hS.pick [0] (by decide) rfl) rfl
theorem specNewModel_c {W : World} (c : Config) : Calls Tryz.prog 28 #[.agg c.enc.toArray] W (Ret (Mk W (fun vs => .agg (modelEK.cells (newModel c) vs).toArray) (fun vs => [Part modelEK (newModel c) vs]))) := by
 refine cfr Tryz.func28 Tryz.ntmps28 fun a hF => ?_
 have hS := Sep.refl W
 refine ws fun K1 hK1 => wl_box (cs := [_, _, _, _, _, _]) hF hS rfl (hF.ev rfl) rfl fun g1 w1 a hS _ hF => wl_alloc hF hS rfl zr36 fun g2 w2 a hS _ hF => wl_nil <| hK1 _ _ <| ws fun K2 hK2 => wl hF rfl rfl rfl (r_build (bd36) trivial) fun a hF => wl_alloc hF hS rfl zr36 fun g3 w3 a hS _ hF => ?_
 refine ww 0 hF hS rfl rfl rfl rfl rfl rfl fun w4 hS => wl_nil <| hK2 _ _ <| wp_seq_k fun K3 hK3 => rg hF rfl fun a hF => wp_block ?_
 replace hS := hS.own_nil intEK
 replace hS := hS.pull (p := 1) rfl; dsimp only [List.eraseIdx] at hS
 replace hS := hS.pull (p := 1) rfl; dsimp only [List.eraseIdx] at hS
 have hL_ := (((hF.nil.keep hF (t := 3) rfl).keep hF (t := 2) rfl).keep hF (t := 1) rfl)
 refine wp_loop_m (σ := Nat × Slv) (fun s L_ => (4, vi s.1) :: L_) (fun s l_ => (Own intEK (sv s.2) (List.replicate s.1 (-1))) :: (Box g3 [sv s.2, .slice none 0 0]) :: l_) (fun s => ((s.1 : Int) ≤ c.keys ∨ s.1 = 0) ∧ (c.ok ∨ s.1 = 0)) (fun s => c.keys.toNat - s.1) (0, (none, 0, 0)) (hS) (hL_.keepE hF (t := 4) rfl rfl) ?_ ?_
 · exact ⟨.inr rfl, .inr rfl⟩
 rintro ⟨k, p⟩ a w5 ⟨hk, hz⟩ hS hF; try dsimp only at hF; try dsimp only at hS; try dsimp only at hk; try dsimp only at hz
 refine wp_seq_k fun K5 hK5 => ws fun K6 hK6 => gB 5 3 hF hS rfl rfl rfl fun a hF => ?_
 apply wa 3 11 14 hF hS
 ·
  intro hg11 a hF
  refine gB 1 3 hF hS rfl rfl rfl fun a hF => ckr hF hS rfl (specIsConfig_c _) fun w6 a hS hF => ?_
  exact je 3 hF hS rfl rfl rfl rfl
 intro a w7 hF hS
 refine wl_nil <| hK6 _ _ <| cx 14 hF rfl (fun c14 hF => ?_) fun c14 hF => ?_
 ·
  have hb := c14.2; unfold Config.ok at hb
  refine wp_skip <| hK5 _ _ <| wp_seq_k fun K7 hK7 => wp_block <| wp_region_lit <| gB 2 1 hF hS rfl rfl rfl fun a hF => wl_bslice intEK [vi (-1)] [-1] rfl hF hS rfl mk29 rfl ⟨rfl, ec, trivial⟩ rfl rfl rfl rfl fun gl_19 w8 a hS hF => ?_
  refine wl_append (q := 1) hF hS rfl rfl (hS.own_rd (i := 0) rfl) mk29 rfl (hF.ev rfl) (hF.ev rfl) (by simp; omega) (by unfold maxLen; simp; omega) ?_; intro A_20 c_20 w9 a hS_ hF; replace hS := hS_; clear hS_; dsimp only [List.set, List.length_cons, List.length_nil] at hS hF
  refine ga 1 hF rfl fun a hF => wv 2 hF hS rfl rfl rfl rfl rfl rfl fun w10 hS => wl_nil ?_
  refine xt ?_
  refine hK7 _ _ <| rl hF rfl fun a hF => ?_
  refine xt ?_
  rw [rep_next] at hS
  refine ⟨(k + 1, (A_20, _, c_20)), ⟨.inl (by dsimp only; omega), .inl c14.2⟩, (hS.pick [1, 2, 3, 4] (by decide) rfl), ((((hF.nil.keep hF (t := 3) rfl).keep hF (t := 2) rfl).keep hF (t := 1) rfl).keepE hF (t := 4) rfl (wk (by omega))), by dsimp only; omega⟩
 refine wp_exit ?_
 refine xt ?_
 refine hK3 _ _ <| wp_seq_k fun K8 hK8 => rg hF rfl fun a hF => wp_block ?_
 replace hS := hS.own_nil (sliceEK intEK)
 replace hS := hS.pull (p := 2) rfl; dsimp only [List.eraseIdx] at hS
 replace hS := hS.pull (p := 1) rfl; dsimp only [List.eraseIdx] at hS
 have hL_ := (((hF.nil.keep hF (t := 3) rfl).keep hF (t := 2) rfl).keep hF (t := 1) rfl)
 refine wp_loop_m (σ := Nat × Slv) (fun s L_ => (5, vi s.1) :: L_) (fun s l_ => (Own (sliceEK intEK) (sv s.2) (List.replicate s.1 [])) :: (Box g3 [sv p, sv s.2]) :: l_) (fun s => ((s.1 : Int) ≤ c.threads ∨ s.1 = 0) ∧ (c.ok ∨ s.1 = 0)) (fun s => c.threads.toNat - s.1) (0, (none, 0, 0)) (hS) (hL_.keepE hF (t := 5) rfl rfl) ?_ ?_
 · exact ⟨.inr rfl, .inr rfl⟩
 rintro ⟨j, q⟩ a w11 ⟨hj, hy⟩ hS hF; try dsimp only at hF; try dsimp only at hS; try dsimp only at hj; try dsimp only at hy
 refine wp_seq_k fun K10 hK10 => ws fun K11 hK11 => gB 5 4 hF hS rfl rfl rfl fun a hF => ?_
 apply wa 3 26 29 hF hS
 ·
  intro hg26 a hF
  refine gB 1 4 hF hS rfl rfl rfl fun a hF => ckr hF hS rfl (specIsConfig_c _) fun w12 a hS hF => ?_
  exact je 3 hF hS rfl rfl rfl rfl
 intro a w13 hF hS
 refine wl_nil <| hK11 _ _ <| cx 29 hF rfl (fun c29 hF => ?_) fun c29 hF => ?_
 ·
  have hb := c29.2; unfold Config.ok at hb
  refine wp_skip <| hK10 _ _ <| wp_seq_k fun K12 hK12 => wp_block <| wp_region_lit <| gB 2 1 hF hS rfl rfl rfl fun a hF => wl_bslice intEK [] [] rfl hF hS rfl mk29 rfl trivial rfl rfl rfl rfl fun gl_34 w14 a hS hF => ?_
  refine wl_bslice (rawEK 1) [sv (some ⟨gl_34, 0, none⟩, 0, 0)] [raw (sliceEK intEK) ([]) [(some ⟨gl_34, 0, none⟩, 0, 0)]] rfl hF hS rfl mk34 rfl ⟨rfl, (hF.ev rfl), trivial⟩ rfl rfl rfl rfl fun gl_35 w15 a hS hF => ?_
  have hu_ := hS.own_rd (i := 0) rfl
  replace hS := hS.pull (p := 1) rfl; dsimp only [List.eraseIdx] at hS
  replace hS := hS.own_part (s := (_, _, _))
  replace hS := hS.pull (p := 2) rfl; dsimp only [List.eraseIdx] at hS
  refine wl_appendn (ek := (sliceEK intEK)) hF hS rfl hu_ mk34 rfl (hF.ev rfl) (hF.ev rfl) (by simp; omega) (by unfold maxLen; simp; omega) ?_; clear hF a hu_; intro A_36 c_36 w16 a hS_ hF; replace hS := hS_; clear hS_
  refine ga 1 hF rfl fun a hF => wv 2 hF hS rfl rfl rfl rfl rfl rfl fun w17 hS => wl_nil ?_
  refine xt ?_
  refine hK12 _ _ <| rl hF rfl fun a hF => ?_
  refine xt ?_
  rw [rep_next] at hS
  refine ⟨(j + 1, (A_36, _, c_36)), ⟨.inl (by dsimp only; omega), .inl c29.2⟩, (hS.pick [0, 2, 3, 4, 5] (by decide) rfl), ((((hF.nil.keep hF (t := 3) rfl).keep hF (t := 2) rfl).keep hF (t := 1) rfl).keepE hF (t := 5) rfl (wk (by omega))), by dsimp only; omega⟩
 refine wp_exit ?_
 refine xt ?_
 refine hK8 _ _ <| ws fun K13 hK13 => gB 1 1 hF hS rfl rfl rfl fun a hF => ww 3 hF hS rfl rfl rfl rfl rfl rfl fun w18 hS => wl_nil (hK13 _ _ ?_)
 refine xr ?_
 have e := newModel_of hk hz c14 hj hy c29
 refine ret1c rfl ag36 hF hS (i := 3) rfl sz36 rfl ⟨[p, q], rfl, ?_⟩
 rw [e]; exact hS.part_of [2, 0] (by decide) rfl
theorem implNewModel_c {W : World} (c : Config) : Calls Tryz.prog 25 #[.agg c.enc.toArray] W (Ret (Mk W (fun vs => .agg (modelEK.cells (newModel c) vs).toArray) (fun vs => [Part modelEK (newModel c) vs]))) := by
 refine cfr Tryz.func25 Tryz.ntmps25 fun a hF => ?_
 have hS := Sep.refl W
 refine ws fun K1 hK1 => wl_box (cs := [_, _, _, _, _, _]) hF hS rfl (hF.ev rfl) rfl fun g1 w1 a hS _ hF => wl_alloc hF hS rfl zr36 fun g2 w2 a hS _ hF => wl_nil <| hK1 _ _ <| wp_seq_k fun K2 hK2 => ws fun K3 hK3 => gB 1 1 hF hS rfl rfl rfl fun a hF => ?_
 refine ckr hF hS rfl (implIsConfig_c _) fun w3 a hS hF => ge hK3 hF rfl fun a hF => cx 5 hF rfl (fun c5 hF => ?_) fun c5 hF => ?_
 ·
  refine ws fun K4 hK4 => wl hF rfl rfl rfl (r_build (bd36) trivial) fun a hF => ww 0 hF hS rfl rfl rfl rfl rfl rfl fun w4 hS => wl_nil (hK4 _ _ ?_)
  refine xr ?_
  first
    | (refine ret1c rfl ag36 hF hS (i := 0) rfl sz36 rfl ⟨[(none, 0, 0), (none, 0, 0)], rfl, ?_⟩; rw [show newModel c = ⟨[], []⟩ from by unfold newModel; rw [if_neg c5]]; exact ((hS.own_nil (sliceEK intEK)).own_nil intEK).part_of [0, 1] (by decide) rfl)
    | (refine ret1c rfl ag36 hF hS (i := 0) rfl sz36 rfl ⟨[s10, (some ⟨gm_13, 0, none⟩, _, _)], rfl, ?_⟩; rw [show newModel c = ⟨List.replicate c.keys.toNat (-1), List.replicate c.threads.toNat []⟩ from by unfold newModel; rw [if_pos c5]]; exact hS.part_of [99, 99] (by decide) rfl)
 have hb := c5; unfold Config.ok at hb
 refine wp_skip <| hK2 _ _ <| wp_seq_k fun K5 hK5 => ?_
 refine wp_region_todo (is := [1, 2, 4, 5, 0, 3, 6, 7, 8]) [] [8] (by kernel_rfl) hF hS ⟨trivial, by decide, by decide, by decide⟩ (by kernel_rfl) ?_; intro hl_ wd hSd
 refine tp 1 hl_ rfl <| todo_load [3, 7, 8] hl_ (by kernel_rfl) rfl (gw0 rfl) rfl rfl rfl (fun a w_ hF hB_ => r_load1 sc3 (hF.ev rfl) ((hSd.ext hB_).box (i := 1) rfl rfl)) <| tp 1 hl_ rfl <| todo_load [6, 7, 8] hl_ (by kernel_rfl) rfl (gw0 rfl) rfl rfl rfl (fun a w_ hF hB_ => r_load1 sc3 (hF.ev rfl) ((hSd.ext hB_).box (i := 1) rfl rfl)) <| todo_fork [(0, [3, 6, 7, 8]), (6, [0, 3, 7, 8])] hl_ rfl (by kernel_rfl) (List.forall_mem_cons.2 ⟨?_, List.forall_mem_cons.2 ⟨?_, fun _ h_ => nomatch h_⟩⟩)
 ·
  refine op_op rfl rfl (gw0 rfl) rfl rfl rfl (fun a w_ hF hS => r_bslice intEK [vi (-1)] [-1] rfl mk29 rfl ⟨rfl, ec, trivial⟩ rfl rfl rfl rfl) ?_; intro gl_7
  refine todo_fork [(3, [6, 7, 8]), (6, [3, 7, 8])] hl_ rfl (by kernel_rfl) (List.forall_mem_cons.2 ⟨?_, List.forall_mem_cons.2 ⟨?_, fun _ h_ => nomatch h_⟩⟩)
  ·
   refine op_mk rfl rfl (gw0 rfl) rfl rfl rfl (fun a w_ hF => r_call2 en48 (hF.ev rfl) (hF.ev rfl)) (fun w_ hS => repeat_c (hS.own_rd (i := 0) rfl) (by omega)) ?_; rintro s10
   refine todo_op hl_ rfl (by kernel_rfl) rfl rfl rfl rfl rfl (fun a w_ hF hS => r_make0 (sliceEK intEK) [] [] mk34 rfl (nil_inner _) ((hF.ev rfl).trans (show vi c.threads = Value.int .i64 ((c.threads.toNat : Nat) : Int) from by rw [Int.toNat_of_nonneg (by omega)])) (by omega) (by unfold maxLen; omega)) ?_; intro gm_13
   refine todo_pure hl_ (by kernel_rfl) rfl (gw0 rfl) rfl rfl rfl (fun a w_ hF => r_build (bd36_0_1 _ _ _ _ _ _) ⟨rfl, (hF.ev rfl), rfl, (hF.ev rfl), trivial⟩) ?_
   refine todo_fin hl_ rfl (by kernel_rfl) (tl := [_]) rfl ?_; intro a w7 hF hA_
   have hS := hA_.sep; clear hA_
   clear hl_; try clear hSd
   try dsimp only [List.cons_append, List.nil_append, List.set] at hS
   try clear wd
   refine ww 3 hF hS rfl rfl rfl rfl rfl rfl fun w8 hS => wl_nil ⟨rfl, ?_⟩
   refine hK5 _ _ ?_
   refine xr ?_
   first
     | (refine ret1c rfl ag36 hF hS (i := 3) rfl sz36 rfl ⟨[(none, 0, 0), (none, 0, 0)], rfl, ?_⟩; rw [show newModel c = ⟨[], []⟩ from by unfold newModel; rw [if_neg c5]]; exact ((hS.own_nil (sliceEK intEK)).own_nil intEK).part_of [0, 1] (by decide) rfl)
     | (refine ret1c rfl ag36 hF hS (i := 3) rfl sz36 rfl ⟨[s10, (some ⟨gm_13, 0, none⟩, _, _)], rfl, ?_⟩; rw [show newModel c = ⟨List.replicate c.keys.toNat (-1), List.replicate c.threads.toNat []⟩ from by unfold newModel; rw [if_pos c5]]; exact hS.part_of [1, 0] (by decide) rfl)
  ·
   refine op_op rfl rfl (gw0 rfl) rfl rfl rfl (fun a w_ hF hS => r_make0 (sliceEK intEK) [] [] mk34 rfl (nil_inner _) ((hF.ev rfl).trans (show vi c.threads = Value.int .i64 ((c.threads.toNat : Nat) : Int) from by rw [Int.toNat_of_nonneg (by omega)])) (by omega) (by unfold maxLen; omega)) ?_; intro gm_13
   refine todo_mk hl_ rfl (by kernel_rfl) rfl rfl rfl rfl rfl (fun a w_ hF => r_call2 en48 (hF.ev rfl) (hF.ev rfl)) (fun w_ hS => repeat_c (hS.own_rd (i := 1) rfl) (by omega)) ?_; rintro s10
   refine todo_pure hl_ (by kernel_rfl) rfl (gw0 rfl) rfl rfl rfl (fun a w_ hF => r_build (bd36_0_1 _ _ _ _ _ _) ⟨rfl, (hF.ev rfl), rfl, (hF.ev rfl), trivial⟩) ?_
   refine todo_fin hl_ rfl (by kernel_rfl) (tl := [_]) rfl ?_; intro a w10 hF hA_
   have hS := hA_.sep; clear hA_
   clear hl_; try clear hSd
   try dsimp only [List.cons_append, List.nil_append, List.set] at hS
   try clear wd
   refine ww 3 hF hS rfl rfl rfl rfl rfl rfl fun w11 hS => wl_nil ⟨rfl, ?_⟩
   refine hK5 _ _ ?_
   refine xr ?_
   first
     | (refine ret1c rfl ag36 hF hS (i := 3) rfl sz36 rfl ⟨[(none, 0, 0), (none, 0, 0)], rfl, ?_⟩; rw [show newModel c = ⟨[], []⟩ from by unfold newModel; rw [if_neg c5]]; exact ((hS.own_nil (sliceEK intEK)).own_nil intEK).part_of [0, 1] (by decide) rfl)
     | (refine ret1c rfl ag36 hF hS (i := 3) rfl sz36 rfl ⟨[s10, (some ⟨gm_13, 0, none⟩, _, _)], rfl, ?_⟩; rw [show newModel c = ⟨List.replicate c.keys.toNat (-1), List.replicate c.threads.toNat []⟩ from by unfold newModel; rw [if_pos c5]]; exact hS.part_of [0, 1] (by decide) rfl)
 ·
  refine op_op rfl rfl (gw0 rfl) rfl rfl rfl (fun a w_ hF hS => r_make0 (sliceEK intEK) [] [] mk34 rfl (nil_inner _) ((hF.ev rfl).trans (show vi c.threads = Value.int .i64 ((c.threads.toNat : Nat) : Int) from by rw [Int.toNat_of_nonneg (by omega)])) (by omega) (by unfold maxLen; omega)) ?_; intro gm_13
  refine todo_op hl_ rfl (by kernel_rfl) rfl rfl rfl rfl rfl (fun a w_ hF hS => r_bslice intEK [vi (-1)] [-1] rfl mk29 rfl ⟨rfl, ec, trivial⟩ rfl rfl rfl rfl) ?_; intro gl_7
  refine todo_mk hl_ rfl (by kernel_rfl) rfl rfl rfl rfl rfl (fun a w_ hF => r_call2 en48 (hF.ev rfl) (hF.ev rfl)) (fun w_ hS => repeat_c (hS.own_rd (i := 0) rfl) (by omega)) ?_; rintro s10
  refine todo_pure hl_ (by kernel_rfl) rfl (gw0 rfl) rfl rfl rfl (fun a w_ hF => r_build (bd36_0_1 _ _ _ _ _ _) ⟨rfl, (hF.ev rfl), rfl, (hF.ev rfl), trivial⟩) ?_
  refine todo_fin hl_ rfl (by kernel_rfl) (tl := [_]) rfl ?_; intro a w14 hF hA_
  have hS := hA_.sep; clear hA_
  clear hl_; try clear hSd
  try dsimp only [List.cons_append, List.nil_append, List.set] at hS
  try clear wd
  refine ww 3 hF hS rfl rfl rfl rfl rfl rfl fun w15 hS => wl_nil ⟨rfl, ?_⟩
  refine hK5 _ _ ?_
  refine xr ?_
  first
    | (refine ret1c rfl ag36 hF hS (i := 3) rfl sz36 rfl ⟨[(none, 0, 0), (none, 0, 0)], rfl, ?_⟩; rw [show newModel c = ⟨[], []⟩ from by unfold newModel; rw [if_neg c5]]; exact ((hS.own_nil (sliceEK intEK)).own_nil intEK).part_of [0, 1] (by decide) rfl)
    | (refine ret1c rfl ag36 hF hS (i := 3) rfl sz36 rfl ⟨[s10, (some ⟨gm_13, 0, none⟩, _, _)], rfl, ?_⟩; rw [show newModel c = ⟨List.replicate c.keys.toNat (-1), List.replicate c.threads.toNat []⟩ from by unfold newModel; rw [if_pos c5]]; exact hS.part_of [0, 2] (by decide) rfl)
set_option maxRecDepth 20000
/-- what MayGoNext answers -/
def mayGo (es : List Sl.Event) (used : List Bool) (i : Int) : Bool :=
  match es[i.toNat]? with
  | some e => decide (used.length = es.length) && decide (0 ≤ i) && (used[i.toNat]? == some false) && (es.zip used).all fun p => p.2 || !decide (0 ≤ p.1.fin) || !decide (p.1.fin < e.start)
  | none => false
section
variable {es : List Sl.Event} {used : List Bool} {i : Int} {e x : Sl.Event} {k : Nat} {u : Bool}
theorem mayGo_len (h : ¬ used.length = es.length) : mayGo es used i = false := by
 unfold mayGo; split <;> simp [h]
theorem mayGo_range (h : ¬ (0 ≤ i ∧ i ≤ (es.length : Int) - 1)) : mayGo es used i = false := by
 unfold mayGo
 split
 · rename_i e he
   have := (List.getElem?_eq_some_iff.1 he).1
   have h0 : ¬ 0 ≤ i := by omega
   simp [h0]
 · rfl
theorem mayGo_used (h : used[i.toNat]? = some true) : mayGo es used i = false := by
 unfold mayGo; split <;> simp [h]
theorem zip_at (hx : es[k]? = some x) (hu : used[k]? = some u) : (es.zip used)[k]? = some (x, u) := by
 rw [List.getElem?_zip_eq_some]; exact ⟨hx, hu⟩
theorem mayGo_hit (he : es[i.toNat]? = some e) (hz : (es.zip used)[k]? = some (x, false)) (h0 : 0 ≤ x.fin) (h1 : x.fin < e.start) : mayGo es used i = false := by
 unfold mayGo
 rw [he]
 have : (es.zip used).all (fun p => p.2 || !decide (0 ≤ p.1.fin) || !decide (p.1.fin < e.start)) = false := by
   rw [List.all_eq_false]
   exact ⟨_, List.mem_of_getElem? hz, by simp [h0, h1]⟩
 simp [this]
theorem mayGo_all (he : es[i.toNat]? = some e) (hl : used.length = es.length) (h0 : 0 ≤ i) (hu : used[i.toNat]? = some false) (hk : k = es.length) (ha : ((es.zip used).take k).all (fun p => p.2 || !decide (0 ≤ p.1.fin) || !decide (p.1.fin < e.start)) = true) : mayGo es used i = true := by
 unfold mayGo
 rw [he]
 rw [List.take_of_length_le (by simp; omega)] at ha
 simp only [hl, h0, hu, ha, decide_true, Bool.and_true, BEq.rfl]
theorem all_next {α : Type} {f : α → Bool} {zs : List α} {z : α} (h : (zs.take k).all f = true) (hz : zs[k]? = some z) (hf : f z = true) : (zs.take (k + 1)).all f = true := by
 rw [List.take_add_one, hz, List.all_append, h]; simp [hf]
end
theorem specMayGo_c {W : World} {va vb : Value} {es : List Sl.Event} {used : List Bool} {i : Int} (ha : eventEK.Rd W va es) (hb : boolEK.Rd W vb used) : Calls Tryz.prog 18 #[va, vb, vi i] W (Ret fun v w' => v = .bool (mayGo es used i) ∧ Below W.heap.size W w') := by
 refine cfr Tryz.func18 Tryz.ntmps18 fun a hF => ?_
 have hS := Sep.refl W
 obtain ⟨A_a, q_a, rfl, hq_a, hn_a⟩ := ha.sl; unfold maxLen at hn_a
 obtain ⟨A_b, q_b, rfl, hq_b, hn_b⟩ := hb.sl; unfold maxLen at hn_b
 have e0 : IntKind.i64.wrap ((es.length : Int) - 1) = es.length - 1 := w64_id (by omega) (by omega)
 refine rg hF rfl fun a hF => wp_seq_k fun K2 hK2 => ws fun K3 hK3 => ga 6 hF rfl fun a hF => ?_
 revert hF; intro hF0; refine bsplit (t := 13) hF0 rfl (fun b13 hF => ?_) (fun b13 hF => ?_)
 ·
  clear hF0
  try simp only [decide_eq_true_eq, decide_eq_false_iff_not, Bool.not_eq_true', Bool.not_eq_false'] at b13
  refine ge hK3 hF rfl fun a hF => wc_true (hF.ev rfl) <| rg hF rfl fun a hF => ?_
  refine xr ?_
  refine ret1 rfl hF rfl ⟨congrArg Value.bool (Eq.symm ?_), hS.old⟩
  first
    | exact mayGo_len (fun q => b13 (by omega))
    | exact mayGo_range b21
    | exact mayGo_used (hu.trans (congrArg some c26))
    | exact mayGo_hit he ((zip_at hx huk).trans (congrArg (fun z => some (x, z)) b38)) b46 c58
    | exact mayGo_all he hlen hi0 (hu.trans (congrArg some c26)) (by omega) hall
 clear hF0
 try simp only [decide_eq_true_eq, decide_eq_false_iff_not, Bool.not_eq_true', Bool.not_eq_false'] at b13
 refine ga 4 hF rfl fun a hF => ckr hF hS rfl (l1In_c _ _ _) fun w1 a hS hF => ga 3 hF rfl fun a hF => ?_
 revert hF; intro hF0; refine bsplit (t := 21) hF0 rfl (fun b21 hF => ?_) (fun b21 hF => ?_)
 ·
  clear hF0
  try simp only [decide_eq_true_eq, decide_eq_false_iff_not, Bool.not_eq_true', Bool.not_eq_false'] at b21
  rw [e0] at b21
  refine ge hK3 hF rfl fun a hF => wc_true (hF.ev rfl) <| rg hF rfl fun a hF => ?_
  refine xr ?_
  refine ret1 rfl hF rfl ⟨congrArg Value.bool (Eq.symm ?_), hS.old⟩
  first
    | exact mayGo_len (fun q => b13 (by omega))
    | exact mayGo_range b21
    | exact mayGo_used (hu.trans (congrArg some c26))
    | exact mayGo_hit he ((zip_at hx huk).trans (congrArg (fun z => some (x, z)) b38)) b46 c58
    | exact mayGo_all he hlen hi0 (hu.trans (congrArg some c26)) (by omega) hall
 clear hF0
 try simp only [decide_eq_true_eq, decide_eq_false_iff_not, Bool.not_eq_true', Bool.not_eq_false'] at b21
 rw [e0] at b21
 obtain ⟨hi0, hi1⟩ := b21
 obtain ⟨e, he⟩ : ∃ e, es[i.toNat]? = some e := ⟨_, List.getElem?_eq_getElem (by omega)⟩
 obtain ⟨u, hu⟩ : ∃ u, used[i.toNat]? = some u := ⟨_, List.getElem?_eq_getElem (by omega)⟩
 refine ga 2 hF rfl fun a hF => wl_take hF rfl rfl rfl rfl ?_
 obtain ⟨g24, o24, m24, q24, hv24, hm24, hl24, hc24⟩ := Rd.idxF (hS.rd hb) hu
 refine wl hF rfl rfl rfl (r_index sl50 ((hF.ev rfl).trans hv24) (hF.ev rfl) (by omega) (by omega)) fun a hF => wl_take hF rfl rfl rfl rfl <| wl hF rfl rfl rfl (r_load1 sc4 (hF.ev rfl) (hc24 0 _ rfl)) fun a hF => ge hK3 hF rfl fun a hF => ?_
 first | refine wc_dec (hF.ev rfl) (fun c26 => ?_) (fun c26 => ?_) | refine wc_ndec (hF.ev rfl) (fun c26 => ?_) (fun c26 => ?_) | refine wc_b (hF.ev rfl) (fun c26 => ?_) (fun c26 => ?_)
 ·
  refine rg hF rfl fun a hF => ?_
  refine xr ?_
  refine ret1 rfl hF rfl ⟨congrArg Value.bool (Eq.symm ?_), hS.old⟩
  first
    | exact mayGo_len (fun q => b13 (by omega))
    | exact mayGo_range b21
    | exact mayGo_used (hu.trans (congrArg some c26))
    | exact mayGo_hit he ((zip_at hx huk).trans (congrArg (fun z => some (x, z)) b38)) b46 c58
    | exact mayGo_all he hlen hi0 (hu.trans (congrArg some c26)) (by omega) hall
 refine wp_skip <| hK2 _ _ <| wp_seq_k fun K7 hK7 => rg hF rfl fun a hF => wp_block <| wp_loop_g (σ := Nat) (fun k a w => k ≤ es.length ∧ used.length = es.length ∧ ((es.zip used).take k).all (fun p => p.2 || !decide (0 ≤ p.1.fin) || !decide (p.1.fin < e.start)) = true ∧ Sep W [] w ∧ Fr 59 [(7, vi k), (2, vi i), (1, .slice A_b used.length q_b), (0, .slice A_a es.length q_a)] a) (fun k => es.length - k) 0 ?_ ?_
 · exact ⟨Nat.zero_le _, by omega, by simp, hS, ((((hF.nil.keep hF (t := 0) rfl).keep hF (t := 1) rfl).keep hF (t := 2) rfl).keep hF (t := 7) rfl)⟩
 rintro k a w ⟨hk, hlen, hall, hS, hF⟩
 refine wp_seq_k fun K9 hK9 => rg hF rfl fun a hF => ?_
 first | refine wc_dec (hF.ev rfl) (fun c30 => ?_) (fun c30 => ?_) | refine wc_ndec (hF.ev rfl) (fun c30 => ?_) (fun c30 => ?_) | refine wc_b (hF.ev rfl) (fun c30 => ?_) (fun c30 => ?_)
 ·
  have hlt : k < es.length := by omega
  obtain ⟨x, hx⟩ : ∃ x, es[k]? = some x := ⟨_, List.getElem?_eq_getElem hlt⟩
  obtain ⟨uk, huk⟩ : ∃ u, used[k]? = some u := ⟨_, List.getElem?_eq_getElem (by omega)⟩
  refine wp_skip <| hK9 _ _ <| wp_seq_k fun K11 hK11 => wp_block <| wp_seq_k fun K12 hK12 => wp_region_calm (by kernel_rfl) (by kernel_rfl) <| qa 2 hF tk rfl fun a hF => ?_
  obtain ⟨g35, o35, m35, q35, hv35, hm35, hl35, hc35⟩ := Rd.idxF (hS.rd hb) huk
  refine wq hF rfl rfl rfl (fun w_ hB_ => r_index sl50 ((hF.ev rfl).trans hv35) (hF.ev rfl) (by omega) (by omega)) fun a hF => wq hF rfl rfl rfl (fun w_ hB_ => r_load1 sc4 (hF.ev rfl) (cellB hB_ (hc35 0 _ rfl))) fun a hF => qa 2 hF tk rfl fun a hF => ?_
  revert hF; intro hF0; refine bsplit (t := 38) hF0 rfl (fun b38 hF => ?_) (fun b38 hF => ?_)
  ·
   clear hF0
   try simp only [decide_eq_true_eq, decide_eq_false_iff_not, Bool.not_eq_true', Bool.not_eq_false'] at b38
   refine qa 2 hF tk rfl fun a hF => wq_take hF rfl rfl rfl rfl ?_
   obtain ⟨g41, o41, m41, q41, hv41, hm41, hl41, hc41⟩ := Rd.idxF (hS.rd ha) hx
   refine wq hF rfl rfl rfl (fun w_ hB_ => r_index sl26 ((hF.ev rfl).trans hv41) (hF.ev rfl) (by omega) (by omega)) fun a hF => qa 1 hF tk rfl fun a hF => wq_take hF rfl rfl rfl rfl <| wq hF rfl rfl rfl (fun w_ hB_ => r_load1 sc3 (hF.ev rfl) (cellB hB_ (hc41 7 _ rfl))) fun a hF => qa 3 hF tk rfl fun a hF => ?_
   revert hF; intro hF0; refine bsplit (t := 46) hF0 rfl (fun b46 hF => ?_) (fun b46 hF => ?_)
   ·
    clear hF0
    try simp only [decide_eq_true_eq, decide_eq_false_iff_not, Bool.not_eq_true', Bool.not_eq_false'] at b46
    refine qa 2 hF tk rfl fun a hF => wq_take hF rfl rfl rfl rfl ?_
    obtain ⟨g49, o49, m49, q49, hv49, hm49, hl49, hc49⟩ := Rd.idxF (hS.rd ha) hx
    refine wq hF rfl rfl rfl (fun w_ hB_ => r_index sl26 ((hF.ev rfl).trans hv49) (hF.ev rfl) (by omega) (by omega)) fun a hF => qa 1 hF tk rfl fun a hF => wq_take hF rfl rfl rfl rfl <| wq hF rfl rfl rfl (fun w_ hB_ => r_load1 sc3 (hF.ev rfl) (cellB hB_ (hc49 7 _ rfl))) fun a hF => qa 2 hF tk rfl fun a hF => wq_take hF rfl rfl rfl rfl ?_
    obtain ⟨g54, o54, m54, q54, hv54, hm54, hl54, hc54⟩ := Rd.idxF (hS.rd ha) he
    refine wq hF rfl rfl rfl (fun w_ hB_ => r_index sl26 ((hF.ev rfl).trans hv54) (hF.ev rfl) (by omega) (by omega)) fun a hF => qa 1 hF tk rfl fun a hF => wq_take hF rfl rfl rfl rfl <| wq hF rfl rfl rfl (fun w_ hB_ => r_load1 sc3 (hF.ev rfl) (cellB hB_ (hc54 6 _ rfl))) fun a hF => qa 2 hF tk rfl fun a hF => ?_
    refine wpQuiet_nil ?_; intro w2 hB_; have hS := hS.ext hB_
    refine hK12 _ _ ?_
    first | refine wc_dec (hF.ev rfl) (fun c58 => ?_) (fun c58 => ?_) | refine wc_ndec (hF.ev rfl) (fun c58 => ?_) (fun c58 => ?_) | refine wc_b (hF.ev rfl) (fun c58 => ?_) (fun c58 => ?_)
    ·
     refine rg hF rfl fun a hF => ?_
     refine xr ?_
     refine ret1 rfl hF rfl ⟨congrArg Value.bool (Eq.symm ?_), hS.old⟩
     first
       | exact mayGo_len (fun q => b13 (by omega))
       | exact mayGo_range b21
       | exact mayGo_used (hu.trans (congrArg some c26))
       | exact mayGo_hit he ((zip_at hx huk).trans (congrArg (fun z => some (x, z)) b38)) b46 c58
       | exact mayGo_all he hlen hi0 (hu.trans (congrArg some c26)) (by omega) hall
    refine wp_skip ?_
    refine xt ?_
    refine hK11 _ _ <| rl hF rfl fun a hF => ?_
    refine xt ?_
    refine ⟨k + 1, ⟨by omega, hlen, all_next hall (zip_at hx huk) ?_, hS, ((((hF.nil.keep hF (t := 0) rfl).keep hF (t := 1) rfl).keep hF (t := 2) rfl).keepE hF (t := 7) rfl (wk (by omega)))⟩, by omega⟩
    first | (simp_all; done) | (cases uk <;> simp_all <;> omega)
   clear hF0
   try simp only [decide_eq_true_eq, decide_eq_false_iff_not, Bool.not_eq_true', Bool.not_eq_false'] at b46
   refine qa 12 hF tk rfl fun a hF => ?_
   refine wpQuiet_nil ?_; intro w3 hB_; have hS := hS.ext hB_
   refine hK12 _ _ <| wc_false (hF.ev rfl) <| wp_skip ?_
   refine xt ?_
   refine hK11 _ _ <| rl hF rfl fun a hF => ?_
   refine xt ?_
   refine ⟨k + 1, ⟨by omega, hlen, all_next hall (zip_at hx huk) ?_, hS, ((((hF.nil.keep hF (t := 0) rfl).keep hF (t := 1) rfl).keep hF (t := 2) rfl).keepE hF (t := 7) rfl (wk (by omega)))⟩, by omega⟩
   first | (simp_all; done) | (cases uk <;> simp_all <;> omega)
  clear hF0
  try simp only [decide_eq_true_eq, decide_eq_false_iff_not, Bool.not_eq_true', Bool.not_eq_false'] at b38
  refine qa 20 hF tk rfl fun a hF => ?_
  refine wpQuiet_nil ?_; intro w4 hB_; have hS := hS.ext hB_
  refine hK12 _ _ <| wc_false (hF.ev rfl) <| wp_skip ?_
  refine xt ?_
  refine hK11 _ _ <| rl hF rfl fun a hF => ?_
  refine xt ?_
  refine ⟨k + 1, ⟨by omega, hlen, all_next hall (zip_at hx huk) ?_, hS, ((((hF.nil.keep hF (t := 0) rfl).keep hF (t := 1) rfl).keep hF (t := 2) rfl).keepE hF (t := 7) rfl (wk (by omega)))⟩, by omega⟩
  first | (simp_all; done) | (cases uk <;> simp_all <;> omega)
 refine wp_exit ?_
 refine xt ?_
 refine hK7 _ _ <| rg hF rfl fun a hF => ?_
 refine xr ?_
 refine ret1 rfl hF rfl ⟨congrArg Value.bool (Eq.symm ?_), hS.old⟩
 first
   | exact mayGo_len (fun q => b13 (by omega))
   | exact mayGo_range b21
   | exact mayGo_used (hu.trans (congrArg some c26))
   | exact mayGo_hit he ((zip_at hx huk).trans (congrArg (fun z => some (x, z)) b38)) b46 c58
   | exact mayGo_all he hlen hi0 (hu.trans (congrArg some c26)) (by omega) hall
theorem implMayGo_c {W : World} {va vb : Value} {es : List Sl.Event} {used : List Bool} {i : Int} (ha : eventEK.Rd W va es) (hb : boolEK.Rd W vb used) : Calls Tryz.prog 17 #[va, vb, vi i] W (Ret fun v w' => v = .bool (mayGo es used i) ∧ Below W.heap.size W w') := by
 refine cfr Tryz.func17 Tryz.ntmps17 fun a hF => ?_
 have hS := Sep.refl W
 obtain ⟨A_a, q_a, rfl, hq_a, hn_a⟩ := ha.sl; unfold maxLen at hn_a
 obtain ⟨A_b, q_b, rfl, hq_b, hn_b⟩ := hb.sl; unfold maxLen at hn_b
 have e0 : IntKind.i64.wrap ((es.length : Int) - 1) = es.length - 1 := w64_id (by omega) (by omega)
 refine rg hF rfl fun a hF => wp_seq_k fun K2 hK2 => ws fun K3 hK3 => ga 6 hF rfl fun a hF => ?_
 revert hF; intro hF0; refine bsplit (t := 14) hF0 rfl (fun b14 hF => ?_) (fun b14 hF => ?_)
 ·
  clear hF0
  try simp only [decide_eq_true_eq, decide_eq_false_iff_not, Bool.not_eq_true', Bool.not_eq_false'] at b14
  refine ge hK3 hF rfl fun a hF => wc_true (hF.ev rfl) <| rg hF rfl fun a hF => ?_
  refine xr ?_
  refine ret1 rfl hF rfl ⟨congrArg Value.bool (Eq.symm ?_), hS.old⟩
  first
    | exact mayGo_len (fun q => b14 (by omega))
    | exact mayGo_range b22
    | exact mayGo_used (hu.trans (congrArg some c27))
    | exact mayGo_hit he ((zip_at hx huk).trans (congrArg (fun z => some (x, z)) b40)) b45 c54
    | exact mayGo_all he hlen hi0 (hu.trans (congrArg some c27)) (by omega) hall
 clear hF0
 try simp only [decide_eq_true_eq, decide_eq_false_iff_not, Bool.not_eq_true', Bool.not_eq_false'] at b14
 refine ga 4 hF rfl fun a hF => ckr hF hS rfl (in_c _ _ _) fun w1 a hS hF => ga 3 hF rfl fun a hF => ?_
 revert hF; intro hF0; refine bsplit (t := 22) hF0 rfl (fun b22 hF => ?_) (fun b22 hF => ?_)
 ·
  clear hF0
  try simp only [decide_eq_true_eq, decide_eq_false_iff_not, Bool.not_eq_true', Bool.not_eq_false'] at b22
  rw [e0] at b22
  refine ge hK3 hF rfl fun a hF => wc_true (hF.ev rfl) <| rg hF rfl fun a hF => ?_
  refine xr ?_
  refine ret1 rfl hF rfl ⟨congrArg Value.bool (Eq.symm ?_), hS.old⟩
  first
    | exact mayGo_len (fun q => b14 (by omega))
    | exact mayGo_range b22
    | exact mayGo_used (hu.trans (congrArg some c27))
    | exact mayGo_hit he ((zip_at hx huk).trans (congrArg (fun z => some (x, z)) b40)) b45 c54
    | exact mayGo_all he hlen hi0 (hu.trans (congrArg some c27)) (by omega) hall
 clear hF0
 try simp only [decide_eq_true_eq, decide_eq_false_iff_not, Bool.not_eq_true', Bool.not_eq_false'] at b22
 rw [e0] at b22
 obtain ⟨hi0, hi1⟩ := b22
 obtain ⟨e, he⟩ : ∃ e, es[i.toNat]? = some e := ⟨_, List.getElem?_eq_getElem (by omega)⟩
 obtain ⟨u, hu⟩ : ∃ u, used[i.toNat]? = some u := ⟨_, List.getElem?_eq_getElem (by omega)⟩
 refine ga 2 hF rfl fun a hF => wl_take hF rfl rfl rfl rfl ?_
 obtain ⟨g25, o25, m25, q25, hv25, hm25, hl25, hc25⟩ := Rd.idxF (hS.rd hb) hu
 refine wl hF rfl rfl rfl (r_index sl50 ((hF.ev rfl).trans hv25) (hF.ev rfl) (by omega) (by omega)) fun a hF => wl_take hF rfl rfl rfl rfl <| wl hF rfl rfl rfl (r_load1 sc4 (hF.ev rfl) (hc25 0 _ rfl)) fun a hF => ge hK3 hF rfl fun a hF => ?_
 first | refine wc_dec (hF.ev rfl) (fun c27 => ?_) (fun c27 => ?_) | refine wc_ndec (hF.ev rfl) (fun c27 => ?_) (fun c27 => ?_) | refine wc_b (hF.ev rfl) (fun c27 => ?_) (fun c27 => ?_)
 ·
  refine rg hF rfl fun a hF => ?_
  refine xr ?_
  refine ret1 rfl hF rfl ⟨congrArg Value.bool (Eq.symm ?_), hS.old⟩
  first
    | exact mayGo_len (fun q => b14 (by omega))
    | exact mayGo_range b22
    | exact mayGo_used (hu.trans (congrArg some c27))
    | exact mayGo_hit he ((zip_at hx huk).trans (congrArg (fun z => some (x, z)) b40)) b45 c54
    | exact mayGo_all he hlen hi0 (hu.trans (congrArg some c27)) (by omega) hall
 refine wp_skip <| hK2 _ _ <| wp_seq_k fun K7 hK7 => rg hF rfl fun a hF => wp_block <| wp_loop_g (σ := Nat) (fun k a w => k ≤ es.length ∧ used.length = es.length ∧ ((es.zip used).take k).all (fun p => p.2 || !decide (0 ≤ p.1.fin) || !decide (p.1.fin < e.start)) = true ∧ Sep W [] w ∧ Fr 56 [(30, vi k), (29, vi es.length), (28, .slice A_a es.length q_a), (2, vi i), (1, .slice A_b used.length q_b), (0, .slice A_a es.length q_a)] a) (fun k => es.length - k) 0 ?_ ?_
 · exact ⟨Nat.zero_le _, by omega, by simp, hS, ((((((hF.nil.keep hF (t := 0) rfl).keep hF (t := 1) rfl).keep hF (t := 2) rfl).keep hF (t := 28) rfl).keep hF (t := 29) rfl).keep hF (t := 30) rfl)⟩
 rintro k a w ⟨hk, hlen, hall, hS, hF⟩
 refine rg hF rfl fun a hF => wp_seq_k fun K10 hK10 => ?_
 first | refine wc_dec (hF.ev rfl) (fun c31 => ?_) (fun c31 => ?_) | refine wc_ndec (hF.ev rfl) (fun c31 => ?_) (fun c31 => ?_) | refine wc_b (hF.ev rfl) (fun c31 => ?_) (fun c31 => ?_)
 ·
  have hlt : k < es.length := by omega
  obtain ⟨x, hx⟩ : ∃ x, es[k]? = some x := ⟨_, List.getElem?_eq_getElem hlt⟩
  obtain ⟨uk, huk⟩ : ∃ u, used[k]? = some u := ⟨_, List.getElem?_eq_getElem (by omega)⟩
  refine wp_skip <| hK10 _ _ <| wp_seq_k fun K11 hK11 => wp_block <| ws fun K12 hK12 => ga 1 hF rfl fun a hF => ?_
  obtain ⟨g33, o33, m33, q33, hv33, hm33, hl33, hc33⟩ := Rd.idxF (hS.rd ha) hx
  refine wl hF rfl rfl rfl (r_index sl26 ((hF.ev rfl).trans hv33) (hF.ev rfl) (by omega) (by omega)) fun a hF => wl hF rfl rfl rfl (r_loadn ag46 (hF.ev rfl) (hc33) sz46) fun a hF => wl_alloc hF hS rfl zr46 fun g1 w2 a hS _ hF => ga 1 hF rfl fun a hF => ?_
  refine wl_storen (cs' := [_, _, _, _, _, _, _, _]) hF hS (i := 0) rfl (hF.ev rfl) (hF.ev rfl) sz46 ⟨rfl, rfl⟩ rfl rfl fun w3 hS => ?_; dsimp only [List.set] at hS
  refine wl_nil <| hK12 _ _ <| wp_seq_k fun K13 hK13 => wp_region_calm (by kernel_rfl) (by kernel_rfl) <| qa 2 hF tk rfl fun a hF => ?_
  obtain ⟨g37, o37, m37, q37, hv37, hm37, hl37, hc37⟩ := Rd.idxF (hS.rd hb) huk
  refine wq hF rfl rfl rfl (fun w_ hB_ => r_index sl50 ((hF.ev rfl).trans hv37) (hF.ev rfl) (by omega) (by omega)) fun a hF => wq hF rfl rfl rfl (fun w_ hB_ => r_load1 sc4 (hF.ev rfl) (cellB hB_ (hc37 0 _ rfl))) fun a hF => qa 2 hF tk rfl fun a hF => ?_
  revert hF; intro hF0; refine bsplit (t := 40) hF0 rfl (fun b40 hF => ?_) (fun b40 hF => ?_)
  ·
   clear hF0
   try simp only [decide_eq_true_eq, decide_eq_false_iff_not, Bool.not_eq_true', Bool.not_eq_false'] at b40
   refine qb 5 0 hF tk hS rfl rfl rfl fun a hF => ?_
   revert hF; intro hF0; refine bsplit (t := 45) hF0 rfl (fun b45 hF => ?_) (fun b45 hF => ?_)
   ·
    clear hF0
    try simp only [decide_eq_true_eq, decide_eq_false_iff_not, Bool.not_eq_true', Bool.not_eq_false'] at b45
    refine qb 4 0 hF tk hS rfl rfl rfl fun a hF => wq_take hF rfl rfl rfl rfl ?_
    obtain ⟨g50, o50, m50, q50, hv50, hm50, hl50, hc50⟩ := Rd.idxF (hS.rd ha) he
    refine wq hF rfl rfl rfl (fun w_ hB_ => r_index sl26 ((hF.ev rfl).trans hv50) (hF.ev rfl) (by omega) (by omega)) fun a hF => qa 1 hF tk rfl fun a hF => wq_take hF rfl rfl rfl rfl <| wq hF rfl rfl rfl (fun w_ hB_ => r_load1 sc3 (hF.ev rfl) (cellB hB_ (hc50 6 _ rfl))) fun a hF => qa 2 hF tk rfl fun a hF => ?_
    refine wpQuiet_nil ?_; intro w4 hB_; have hS := hS.ext hB_
    refine hK13 _ _ ?_
    first | refine wc_dec (hF.ev rfl) (fun c54 => ?_) (fun c54 => ?_) | refine wc_ndec (hF.ev rfl) (fun c54 => ?_) (fun c54 => ?_) | refine wc_b (hF.ev rfl) (fun c54 => ?_) (fun c54 => ?_)
    ·
     refine rg hF rfl fun a hF => ?_
     refine xr ?_
     refine ret1 rfl hF rfl ⟨congrArg Value.bool (Eq.symm ?_), hS.old⟩
     first
       | exact mayGo_len (fun q => b14 (by omega))
       | exact mayGo_range b22
       | exact mayGo_used (hu.trans (congrArg some c27))
       | exact mayGo_hit he ((zip_at hx huk).trans (congrArg (fun z => some (x, z)) b40)) b45 c54
       | exact mayGo_all he hlen hi0 (hu.trans (congrArg some c27)) (by omega) hall
    refine wp_skip ?_
    refine xt ?_
    refine hK11 _ _ <| rl hF rfl fun a hF => ?_
    refine xt ?_
    refine ⟨k + 1, ⟨by omega, hlen, all_next hall (zip_at hx huk) ?_, hS.pick [] (by decide) rfl, ((((((hF.nil.keep hF (t := 0) rfl).keep hF (t := 1) rfl).keep hF (t := 2) rfl).keep hF (t := 28) rfl).keep hF (t := 29) rfl).keepE hF (t := 30) rfl (wk (by omega)))⟩, by omega⟩
    first | (simp_all; done) | (cases uk <;> simp_all <;> omega)
   clear hF0
   try simp only [decide_eq_true_eq, decide_eq_false_iff_not, Bool.not_eq_true', Bool.not_eq_false'] at b45
   refine qa 9 hF tk rfl fun a hF => ?_
   refine wpQuiet_nil ?_; intro w5 hB_; have hS := hS.ext hB_
   refine hK13 _ _ <| wc_false (hF.ev rfl) <| wp_skip ?_
   refine xt ?_
   refine hK11 _ _ <| rl hF rfl fun a hF => ?_
   refine xt ?_
   refine ⟨k + 1, ⟨by omega, hlen, all_next hall (zip_at hx huk) ?_, hS.pick [] (by decide) rfl, ((((((hF.nil.keep hF (t := 0) rfl).keep hF (t := 1) rfl).keep hF (t := 2) rfl).keep hF (t := 28) rfl).keep hF (t := 29) rfl).keepE hF (t := 30) rfl (wk (by omega)))⟩, by omega⟩
   first | (simp_all; done) | (cases uk <;> simp_all <;> omega)
  clear hF0
  try simp only [decide_eq_true_eq, decide_eq_false_iff_not, Bool.not_eq_true', Bool.not_eq_false'] at b40
  refine qa 14 hF tk rfl fun a hF => ?_
  refine wpQuiet_nil ?_; intro w6 hB_; have hS := hS.ext hB_
  refine hK13 _ _ <| wc_false (hF.ev rfl) <| wp_skip ?_
  refine xt ?_
  refine hK11 _ _ <| rl hF rfl fun a hF => ?_
  refine xt ?_
  refine ⟨k + 1, ⟨by omega, hlen, all_next hall (zip_at hx huk) ?_, hS.pick [] (by decide) rfl, ((((((hF.nil.keep hF (t := 0) rfl).keep hF (t := 1) rfl).keep hF (t := 2) rfl).keep hF (t := 28) rfl).keep hF (t := 29) rfl).keepE hF (t := 30) rfl (wk (by omega)))⟩, by omega⟩
  first | (simp_all; done) | (cases uk <;> simp_all <;> omega)
 refine wp_exit ?_
 refine xt ?_
 refine hK7 _ _ <| rg hF rfl fun a hF => ?_
 refine xr ?_
 refine ret1 rfl hF rfl ⟨congrArg Value.bool (Eq.symm ?_), hS.old⟩
 first
   | exact mayGo_len (fun q => b14 (by omega))
   | exact mayGo_range b22
   | exact mayGo_used (hu.trans (congrArg some c27))
   | exact mayGo_hit he ((zip_at hx huk).trans (congrArg (fun z => some (x, z)) b40)) b45 c54
   | exact mayGo_all he hlen hi0 (hu.trans (congrArg some c27)) (by omega) hall
def allUsed (es : List Sl.Event) (used : List Bool) : Bool := (List.range es.length).all fun i => decide ((at0 es (i : Int)).fin < 0) || at0 used (i : Int)
def search (c : Config) (es : List Sl.Event) : Nat → List Bool → Model → List Int → Option (List Int)
  | 0, used, _, order => if allUsed es used = true then some order else none
  | n + 1, used, m, order => if allUsed es used = true then some order else (List.range es.length).findSome? fun (i : Nat) =>
      if mayGo es used (i : Int) = true then if (explains c m (at0 es (i : Int))).2 = true then search c es n (used.set i true) (explains c m (at0 es (i : Int))).1 (order ++ [(i : Int)]) else none else none
def left (used : List Bool) : Nat := (used.filter fun b => !b).length
def linearize (c : Config) (es : List Sl.Event) : Option (List Int) := if c.ok ∧ (es.length : Int) ≤ 10 then search c es es.length (List.replicate es.length false) (newModel c) [] else none
/-- what one number leads to -/
def tryOne (c : Config) (es : List Sl.Event) (used : List Bool) (m : Model) (order : List Int) (i : Nat) : Option (List Int) :=
  if mayGo es used (i : Int) = true then if (explains c m (at0 es (i : Int))).2 = true then search c es (left (used.set i true)) (used.set i true) (explains c m (at0 es (i : Int))).1 (order ++ [(i : Int)]) else none else none
theorem range_at2 {n k : Nat} (h : k < n) : (List.range n)[k]? = some k := by simp [h]
section
variable {c : Config} {es : List Sl.Event} {used : List Bool} {m : Model} {order : List Int} {i k : Nat} {x : Sl.Event}
theorem mayGo_free (h : mayGo es used (i : Int) = true) : i < es.length ∧ used.length = es.length ∧ used[i]? = some false := by
 unfold mayGo at h
 split at h
 · rename_i e he
   rw [Int.toNat_natCast] at *
   simp only [Bool.and_eq_true, decide_eq_true_eq, beq_iff_eq] at h
   exact ⟨(List.getElem?_eq_some_iff.1 he).1, h.1.1.1, h.1.2⟩
 · cases h
theorem left_set : ∀ {used : List Bool} {i : Nat}, used[i]? = some false → left (used.set i true) + 1 = left used
  | [], i, h => by simp at h
  | b :: used, 0, h => by
    simp only [List.getElem?_cons_zero, Option.some.injEq] at h
    subst h
    simp [left]
  | b :: used, i + 1, h => by
    have ih := left_set (used := used) (i := i) (by simpa using h)
    cases b <;> simp [left] at * <;> omega
theorem left_rep (n : Nat) : left (List.replicate n false) = n := by simp [left]
theorem search_eq : search c es (left used) used m order = if allUsed es used = true then some order else (List.range es.length).findSome? (tryOne c es used m order) := by
 cases h : left used with
 | zero =>
   unfold search
   split
   · rfl
   · refine (List.findSome?_eq_none_iff.2 fun i hi => ?_).symm
     unfold tryOne
     refine if_neg fun hg => ?_
     have := left_set (mayGo_free hg).2.2
     omega
 | succ n =>
   unfold search
   split
   · rfl
   · congr 1
     funext i
     unfold tryOne
     split
     · rename_i hg
       have := left_set (mayGo_free hg).2.2
       rw [show left (used.set i true) = n by omega]
     · rfl
theorem some_next {f : Nat → Option (List Int)} {n : Nat} (h : ((List.range n).take k).findSome? f = none) (hk : k < n) (hf : f k = none) : ((List.range n).take (k + 1)).findSome? f = none := by
 rw [List.take_add_one, range_at2 hk, List.findSome?_append, h]; simp [hf]
theorem some_hit {f : Nat → Option (List Int)} {n : Nat} {r : List Int} (h : ((List.range n).take k).findSome? f = none) (hk : k < n) (hf : f k = some r) : (List.range n).findSome? f = some r := by
 have h2 : ((List.range n).take (k + 1)).findSome? f = some r := by rw [List.take_add_one, range_at2 hk, List.findSome?_append, h]; simp [hf]
 rw [← List.take_append_drop (k + 1) (List.range n), List.findSome?_append, h2]; rfl
theorem some_done {f : Nat → Option (List Int)} {n : Nat} (h : ((List.range n).take k).findSome? f = none) (hk : n ≤ k) : (List.range n).findSome? f = none := by
 rwa [List.take_of_length_le (by simpa using hk)] at h
theorem all_bad {p : Nat → Bool} {n : Nat} (h : k < n) (hp : p k = false) : (List.range n).all p = false := List.all_eq_false.2 ⟨k, by simpa using h, by simp [hp]⟩
end
theorem l20All_c {W : World} {va vb : Value} {es : List Sl.Event} {used : List Bool} (ha : eventEK.Rd W va es) (hb : boolEK.Rd W vb used) (hlen : used.length = es.length) : Calls Tryz.prog 32 #[va, vb] W (Ret fun v w' => v = .bool (allUsed es used) ∧ Below W.heap.size W w') := by
 refine cfr Tryz.func32 Tryz.ntmps32 fun a hF => ?_
 have hS := Sep.refl W
 obtain ⟨A_a, q_a, rfl, hq_a, hn_a⟩ := ha.sl; unfold maxLen at hn_a
 obtain ⟨A_b, q_b, rfl, hq_b, hn_b⟩ := hb.sl; unfold maxLen at hn_b
 refine rg hF rfl fun a hF => wp_seq_k fun K2 hK2 => rg hF rfl fun a hF => wp_block ?_
 have hL_ := (((hF.nil.keep hF (t := 4) rfl).keep hF (t := 1) rfl).keep hF (t := 0) rfl)
 refine wp_loop_r (σ := Nat) (fun k L_ => (5, vi k) :: L_) (fun k => (k ≤ es.length) ∧ (((List.range es.length).take k).all (fun i => decide ((at0 es (i : Int)).fin < 0) || at0 used (i : Int)) = true)) (fun k => es.length - k) 0 hS (hL_.keepE hF (t := 5) rfl rfl) ?_ ?_
 · exact ⟨Nat.zero_le _, rfl⟩
 rintro k a w1 ⟨hk, hn⟩ hS hF; try dsimp only at hF; try dsimp only at hS
 refine wp_seq_k fun K4 hK4 => rg hF rfl fun a hF => cx 9 hF rfl (fun c9 hF => ?_) fun c9 hF => ?_
 ·
  have hlt : k < es.length := by omega
  refine wp_skip <| hK4 _ _ <| wp_seq_k fun K6 hK6 => wp_block <| ws fun K7 hK7 => ga 2 hF rfl fun a hF => ?_
  obtain ⟨g14, o14, m14, q14, hv14, hm14, hl14, hc14⟩ := Rd.atF (hb) (a := a) (X := .tmp 13) (hF.ev rfl) (by omega) (by omega)
  refine wl hF rfl rfl rfl (r_index sl50 ((hF.ev rfl).trans hv14) (hF.ev rfl) (by omega) (by first | omega | (simp at hm14; omega))) fun a hF => ?_
  refine wl hF rfl rfl rfl (r_load1 sc4 (hF.ev rfl) (cellB hS.old (hc14 0 _ rfl))) fun a hF => ga 2 hF rfl fun a hF => ?_
  apply wa 7 17 24 hF hS
  ·
   intro hg17 a hF
   refine ga 2 hF rfl fun a hF => wl_take hF rfl rfl rfl rfl ?_
   obtain ⟨g20, o20, m20, q20, hv20, hm20, hl20, hc20⟩ := Rd.atF (ha) (a := a) (X := .tmp 19) (hF.ev rfl) (by omega) (by omega)
   refine wl hF rfl rfl rfl (r_index sl26 ((hF.ev rfl).trans hv20) (hF.ev rfl) (by omega) (by first | omega | (simp at hm20; omega))) fun a hF => ?_
   refine ga 1 hF rfl fun a hF => wl_take hF rfl rfl rfl rfl <| wl hF rfl rfl rfl (r_load1 sc3 (hF.ev rfl) (cellB hS.old (hc20 7 _ rfl))) fun a hF => ?_
   exact je 7 hF hS rfl rfl rfl rfl
  intro a w2 hF hS
  refine wl_nil <| hK7 _ _ <| cx 24 hF rfl (fun c24 hF => ?_) fun c24 hF => ?_
  ·
   have hbad : at0 used (k : Int) = false ∧ ¬ (at0 es (k : Int)).fin < 0 := ⟨by first | exact c24.1 | exact c24.2, by omega⟩
   refine rg hF rfl fun a hF => ?_
   refine xr ?_
   refine ret1 rfl hF rfl ⟨congrArg Value.bool (Eq.symm ?_), hS.old⟩
   unfold allUsed
   first
     | exact all_bad (k := k) (by omega) (by rw [hbad.1, Bool.or_false, decide_eq_false hbad.2])
     | exact all_end hn (by rw [List.length_range]; omega) (by rw [List.length_range]; omega)
  have hgood : (decide ((at0 es (k : Int)).fin < 0) || at0 used (k : Int)) = true := by
    simp only [zb3, zb7]
    rcases c24 with h | h
    · first | exact .inr h | exact .inl (by omega)
    · first | exact .inr h | exact .inl (by omega)
  refine wp_skip ?_
  refine xt ?_
  refine hK6 _ _ <| rl hF rfl fun a hF => ?_
  refine xt ?_
  refine ⟨k + 1, ⟨by omega, all_gen hn (range_at2 (by omega)) hgood⟩, hS, ((((hF.nil.keep hF (t := 4) rfl).keep hF (t := 1) rfl).keep hF (t := 0) rfl).keepE hF (t := 5) rfl (wk (by omega))), by omega⟩
 refine wp_exit ?_
 refine xt ?_
 refine hK2 _ _ <| rg hF rfl fun a hF => ?_
 refine xr ?_
 refine ret1 rfl hF rfl ⟨congrArg Value.bool (Eq.symm ?_), hS.old⟩
 unfold allUsed
 first
   | exact all_bad (k := k) (by omega) (by rw [hbad.1, Bool.or_false, decide_eq_false hbad.2])
   | exact all_end hn (by rw [List.length_range]; omega) (by rw [List.length_range]; omega)
theorem complete_c {W : World} {va vb : Value} {es : List Sl.Event} {used : List Bool} (ha : eventEK.Rd W va es) (hb : boolEK.Rd W vb used) (hlen : used.length = es.length) : Calls Tryz.prog 30 #[va, vb] W (Ret fun v w' => v = .bool (allUsed es used) ∧ Below W.heap.size W w') := by
 refine cfr Tryz.func30 Tryz.ntmps30 fun a hF => ?_
 have hS := Sep.refl W
 obtain ⟨A_a, q_a, rfl, hq_a, hn_a⟩ := ha.sl; unfold maxLen at hn_a
 obtain ⟨A_b, q_b, rfl, hq_b, hn_b⟩ := hb.sl; unfold maxLen at hn_b
 refine rg hF rfl fun a hF => wp_seq_k fun K2 hK2 => rg hF rfl fun a hF => wp_block ?_
 have hL_ := ((((hF.nil.keep hF (t := 8) rfl).keep hF (t := 7) rfl).keep hF (t := 4) rfl).keep hF (t := 1) rfl)
 refine wp_loop_r (σ := Nat) (fun k L_ => (9, vi k) :: L_) (fun k => (k ≤ es.length) ∧ (((List.range es.length).take k).all (fun i => decide ((at0 es (i : Int)).fin < 0) || at0 used (i : Int)) = true)) (fun k => es.length - k) 0 hS (hL_.keepE hF (t := 9) rfl rfl) ?_ ?_
 · exact ⟨Nat.zero_le _, rfl⟩
 rintro k a w1 ⟨hk, hn⟩ hS hF; try dsimp only at hF; try dsimp only at hS
 refine rg hF rfl fun a hF => wp_seq_k fun K5 hK5 => cx 10 hF rfl (fun c10 hF => ?_) fun c10 hF => ?_
 ·
  have hlt : k < es.length := by omega
  refine wp_skip <| hK5 _ _ <| wp_seq_k fun K6 hK6 => wp_block <| ws fun K7 hK7 => ga 1 hF rfl fun a hF => ?_
  obtain ⟨g12, o12, m12, q12, hv12, hm12, hl12, hc12⟩ := Rd.atF (ha) (a := a) (X := .tmp 9) (hF.ev rfl) (by omega) (by omega)
  refine wl hF rfl rfl rfl (r_index sl26 ((hF.ev rfl).trans hv12) (hF.ev rfl) (by omega) (by first | omega | (simp at hm12; omega))) fun a hF => ?_
  refine wl hF rfl rfl rfl (r_loadn ag46 (hF.ev rfl) (fun j_ u_ hu_ => cellB hS.old (hc12 j_ u_ hu_)) sz46) fun a hF => wl_alloc hF hS rfl zr46 fun g1 w2 a hS _ hF => ga 1 hF rfl fun a hF => ?_
  refine wl_storen (cs' := [_, _, _, _, _, _, _, _]) hF hS (i := 0) rfl (hF.ev rfl) (hF.ev rfl) sz46 ⟨rfl, rfl⟩ rfl rfl fun w3 hS => ?_; dsimp only [List.set] at hS
  refine wl_nil <| hK7 _ _ <| ws fun K8 hK8 => gB 4 0 hF hS rfl rfl rfl fun a hF => ?_
  apply wa 6 17 23 hF hS
  ·
   intro hg17 a hF
   refine ga 2 hF rfl fun a hF => wl_take hF rfl rfl rfl rfl ?_
   obtain ⟨g20, o20, m20, q20, hv20, hm20, hl20, hc20⟩ := Rd.atF (hb) (a := a) (X := .tmp 19) (hF.ev rfl) (by omega) (by omega)
   refine wl hF rfl rfl rfl (r_index sl50 ((hF.ev rfl).trans hv20) (hF.ev rfl) (by omega) (by first | omega | (simp at hm20; omega))) fun a hF => ?_
   refine wl_take hF rfl rfl rfl rfl <| wl hF rfl rfl rfl (r_load1 sc4 (hF.ev rfl) (cellB hS.old (hc20 0 _ rfl))) fun a hF => ?_
   exact je 6 hF hS rfl rfl rfl rfl
  intro a w4 hF hS
  refine wl_nil <| hK8 _ _ <| cx 23 hF rfl (fun c23 hF => ?_) fun c23 hF => ?_
  ·
   have hbad : at0 used (k : Int) = false ∧ ¬ (at0 es (k : Int)).fin < 0 := ⟨by first | exact c23.1 | exact c23.2, by omega⟩
   refine rg hF rfl fun a hF => ?_
   refine xr ?_
   refine ret1 rfl hF rfl ⟨congrArg Value.bool (Eq.symm ?_), hS.old⟩
   unfold allUsed
   first
     | exact all_bad (k := k) (by omega) (by rw [hbad.1, Bool.or_false, decide_eq_false hbad.2])
     | exact all_end hn (by rw [List.length_range]; omega) (by rw [List.length_range]; omega)
  have hgood : (decide ((at0 es (k : Int)).fin < 0) || at0 used (k : Int)) = true := by
    simp only [zb3, zb7]
    rcases c23 with h | h
    · first | exact .inr h | exact .inl (by omega)
    · first | exact .inr h | exact .inl (by omega)
  refine wp_skip ?_
  refine xt ?_
  refine hK6 _ _ <| rl hF rfl fun a hF => ?_
  refine xt ?_
  refine ⟨k + 1, ⟨by omega, all_gen hn (range_at2 (by omega)) hgood⟩, (hS.pick [] (by decide) rfl), (((((hF.nil.keep hF (t := 8) rfl).keep hF (t := 7) rfl).keep hF (t := 4) rfl).keep hF (t := 1) rfl).keepE hF (t := 9) rfl (wk (by omega))), by omega⟩
 refine wp_exit ?_
 refine xt ?_
 refine hK2 _ _ <| rg hF rfl fun a hF => ?_
 refine xr ?_
 refine ret1 rfl hF rfl ⟨congrArg Value.bool (Eq.symm ?_), hS.old⟩
 unfold allUsed
 first
   | exact all_bad (k := k) (by omega) (by rw [hbad.1, Bool.or_false, decide_eq_false hbad.2])
   | exact all_end hn (by rw [List.length_range]; omega) (by rw [List.length_range]; omega)
set_option maxRecDepth 20000
def SearchS (n : Nat) : Prop := ∀ (W : World) (c : Config) (va vb vo : Value) (es : List Sl.Event) (used : List Bool) (m : Model) (cs : List Value) (order : List Int), eventEK.Rd W va es → boolEK.Rd W vb used → modelEK.K W m cs → intEK.Rd W vo order → used.length = es.length → es.length ≤ 10 → m.values.length ≤ 100 → m.size ≤ 100 + 100 * order.length → order.length + left used ≤ 10 → left used = n →
  Calls Tryz.prog 27 #[.agg c.enc.toArray, va, vb, .agg cs.toArray, vo] W (Ret (Mk W (fun z : Slv => .tuple #[sv z, .bool (search c es (left used) used m order).isSome]) (fun z => [Own intEK (sv z) ((search c es (left used) used m order).getD [])])))
theorem explains_vals {c : Config} {m : Model} {e : Sl.Event} : (explains c m e).1.values.length = m.values.length := by
 have h : (applyModel c m e.thread e.op).1.values.length = m.values.length := by
   unfold applyModel
   repeat' split
   all_goals simp
 unfold explains
 repeat' split
 all_goals first | exact h | rfl
theorem try_none1 {c : Config} {es : List Sl.Event} {used : List Bool} {m : Model} {order : List Int} {i : Nat} (h : mayGo es used (i : Int) = false) : tryOne c es used m order i = none := if_neg (by rw [h]; decide)
theorem try_none2 {c : Config} {es : List Sl.Event} {used : List Bool} {m : Model} {order : List Int} {i : Nat} (h : (explains c m (at0 es (i : Int))).2 = false) : tryOne c es used m order i = none := by
 unfold tryOne
 split
 · exact if_neg (by rw [h]; decide)
 · rfl
theorem try_go {c : Config} {es : List Sl.Event} {used : List Bool} {m : Model} {order : List Int} {i : Nat} (h : mayGo es used (i : Int) = true) (h2 : (explains c m (at0 es (i : Int))).2 = true) : tryOne c es used m order i = search c es (left (used.set i true)) (used.set i true) (explains c m (at0 es (i : Int))).1 (order ++ [(i : Int)]) := by
 unfold tryOne; rw [if_pos h, if_pos h2]
theorem l20Search_step {W : World} {n : Nat} (ih : ∀ k, k < n → SearchS k) {c : Config} {va vb vo : Value} {es : List Sl.Event} {used : List Bool} {m : Model} {cs : List Value} {order : List Int} (ha : eventEK.Rd W va es) (hb : boolEK.Rd W vb used) (hm : modelEK.K W m cs) (ho : intEK.Rd W vo order) (hlen : used.length = es.length) (h10 : es.length ≤ 10) (hvl : m.values.length ≤ 100) (hms : m.size ≤ 100 + 100 * order.length) (hol : order.length + left used ≤ 10) (hn : left used = n) : Calls Tryz.prog 27 #[.agg c.enc.toArray, va, vb, .agg cs.toArray, vo] W (Ret (Mk W (fun z : Slv => .tuple #[sv z, .bool (search c es (left used) used m order).isSome]) (fun z => [Own intEK (sv z) ((search c es (left used) used m order).getD [])]))) := by
 refine cfr Tryz.func27 Tryz.ntmps27 fun a hF => ?_
 have hS := Sep.refl W
 have hm0 := hm
 obtain ⟨v0, v1, rfl, r0, r1⟩ := hm
 have hm : modelEK.K W m (m.encv v0 v1) := ⟨_, _, rfl, r0, r1⟩
 obtain ⟨A_e, q_e, rfl, hq_e, hn_e⟩ := ha.sl; unfold maxLen at hn_e
 obtain ⟨A_u, q_u, rfl, hq_u, hn_u⟩ := hb.sl; unfold maxLen at hn_u
 obtain ⟨A_o, q_o, rfl, hq_o, hn_o⟩ := ho.sl; unfold maxLen at hn_o
 refine ws fun K1 hK1 => wl_box (cs := [_, _, _, _, _, _]) hF hS rfl (hF.ev rfl) rfl fun g1 w1 a hS _ hF => wl_box (cs := [_, _]) hF hS rfl (hF.ev rfl) rfl fun g2 w2 a hS _ hF => ge hK1 hF rfl fun a hF => wp_seq_k fun K2 hK2 => ws fun K3 hK3 => ga 2 hF rfl fun a hF => ?_
 refine ckr hF hS rfl (l20All_c (hS.rd ha) (hS.rd hb) (by omega)) fun w3 a hS hF => wl_nil <| hK3 _ _ <| cx 20 hF rfl (fun c20 hF => ?_) fun c20 hF => ?_
 ·
  refine ws fun K4 hK4 => wl_bslice intEK [] [] rfl hF hS rfl mk29 rfl trivial rfl rfl rfl rfl fun gl_21 w4 a hS hF => ga 1 hF rfl fun a hF => ?_
  refine wl_append0 hF hS rfl (hS.rd ho) mk29 rfl (by omega) (by unfold maxLen; omega) (hF.ev rfl) (hF.ev rfl) fun s23 w5 a hS hF => ?_
  refine ge hK4 hF rfl fun a hF => ?_
  refine xr ?_
  first
    | (have hfin : search c es (left used) used m order = some order := by rw [search_eq, if_pos c20]
       refine ret2 rfl hF rfl rfl ⟨s23, by rw [hfin]; rfl, ?_⟩; rw [hfin]; exact hS.pick [0] (by decide) rfl)
    | (refine ret2 rfl hF rfl rfl ⟨s64, by rw [hfin]; rfl, ?_⟩; rw [hfin]; rw [hr_] at hS; exact hS.pick [99] (by decide) rfl)
    | (have hfin : search c es (left used) used m order = none := by rw [search_eq, if_neg (by rw [c20]; decide)]; exact some_done hf (by omega)
       refine ret2 rfl hF rfl rfl ⟨(some ⟨gl_69, 0, none⟩, 0, 0), by rw [hfin]; rfl, ?_⟩; rw [hfin]; exact hS.pick [99] (by decide) rfl)
 refine wp_skip <| hK2 _ _ <| wp_seq_k fun K5 hK5 => rg hF rfl fun a hF => wp_block ?_
 have hL_ := (((((((hF.nil.keep hF (t := 11) rfl).keep hF (t := 10) rfl).keep hF (t := 8) rfl).keep hF (t := 5) rfl).keep hF (t := 4) rfl).keep hF (t := 2) rfl).keep hF (t := 1) rfl)
 refine wp_loop_r (σ := Nat) (fun k L_ => (12, vi k) :: L_) (fun k => (k ≤ es.length) ∧ (((List.range es.length).take k).findSome? (tryOne c es used m order) = none)) (fun k => es.length - k) 0 hS (hL_.keepE hF (t := 12) rfl rfl) ?_ ?_
 · exact ⟨Nat.zero_le _, rfl⟩
 rintro k a w6 ⟨hk, hf⟩ hS hF; try dsimp only at hF; try dsimp only at hS
 refine wp_seq_k fun K7 hK7 => rg hF rfl fun a hF => cx 27 hF rfl (fun c27 hF => ?_) fun c27 hF => ?_
 ·
  have hlt : k < es.length := by omega
  refine wp_skip <| hK7 _ _ <| wp_seq_k fun K9 hK9 => wp_block <| wp_seq_k fun K10 hK10 => ws fun K11 hK11 => ga 3 hF rfl fun a hF => ?_
  refine ckr hF hS rfl (specMayGo_c (hS.rd ha) (hS.rd hb)) fun w7 a hS hF => ge hK11 hF rfl fun a hF => cx 34 hF rfl (fun c34 hF => ?_) fun c34 hF => ?_
  ·
   have hnone := try_none1 (c := c) (m := m) (order := order) c34
   refine wp_exit ?_
   refine xt ?_
   refine hK9 _ _ <| rl hF rfl fun a hF => ?_
   refine xt ?_
   refine ⟨k + 1, ⟨by omega, some_next hf hlt hnone⟩, hS, ((((((((hF.nil.keep hF (t := 11) rfl).keep hF (t := 10) rfl).keep hF (t := 8) rfl).keep hF (t := 5) rfl).keep hF (t := 4) rfl).keep hF (t := 2) rfl).keep hF (t := 1) rfl).keepE hF (t := 12) rfl (wk (by omega))), by omega⟩
  have hfree := mayGo_free c34
  have hls := left_set hfree.2.2
  have hcnt2 := (explains_cnt (c := c) (m := m) (e := (at0 es (k : Int)))).2
  refine wp_skip <| hK10 _ _ <| wp_seq_k fun K12 hK12 => ?_
  refine wp_region_todo (is := [0, 1, 2, 3, 4, 5, 6, 7, 8, 9, 11, 12]) [(10, 13, [.slice none 0 0, .slice none 0 0])] [11, 12] (by kernel_rfl) hF hS ⟨⟨⟨_, _, _, rfl, zr36⟩, trivial⟩, by decide, by decide, by decide⟩ (by kernel_rfl) ?_; intro hl_ wd hSd
  refine todo_load [6, 7, 8, 9, 11, 12] hl_ (by kernel_rfl) rfl (gw0 rfl) rfl rfl rfl (fun a w_ hF hB_ => r_loadn ag25 (hF.ev rfl) ((hSd.ext hB_).box_rd (i := 1) rfl) sz25) <| todo_load [6, 7, 8, 9, 11, 12] hl_ (by kernel_rfl) rfl (gw0 rfl) rfl rfl rfl (fun a w_ hF hB_ => r_loadn ag36 (hF.ev rfl) ((hSd.ext hB_).box_rd (i := 0) rfl) sz36) <| tp 2 hl_ rfl ?_
  obtain ⟨g40, o40, m40, q40, hv40, hm40, hl40, hc40⟩ := Rd.idxF (ha) (at0_get (i := (k : Int)) (by omega) (by omega))
  refine todo_pure hl_ (by kernel_rfl) rfl (gw0 rfl) rfl rfl rfl (fun a w_ hF => r_index sl26 ((hF.ev rfl).trans hv40) (hF.ev rfl) (by omega) (by first | omega | (simp at hm40; omega))) ?_
  refine todo_load [6, 7, 8, 9, 11, 12] hl_ (by kernel_rfl) rfl (gw0 rfl) rfl rfl rfl (fun a w_ hF hB_ => r_loadn ag46 (hF.ev rfl) (fun j_ u_ hu_ => cellB (hSd.ext hB_).old (hc40 j_ u_ hu_)) sz46) ?_
  refine todo_mk hl_ rfl (by kernel_rfl) rfl rfl rfl rfl rfl (fun a w_ hF => r_call3 en31 (hF.ev rfl) (hF.ev rfl) (hF.ev rfl)) (fun w_ hS => specExplains_c (hS.k hm) (by omega)) ?_; rintro vs42
  refine tp 3 hl_ rfl ?_
  refine todo_fin hl_ rfl (by kernel_rfl) (tl := [_, _]) rfl ?_; intro a w8 hF hA_
  obtain ⟨g3, hS, he_0⟩ := hA_.open1; clear hA_
  replace hF := hF.more he_0; clear he_0
  clear hl_; try clear hSd
  try dsimp only [List.cons_append, List.nil_append, List.set] at hS
  try clear wd
  refine ww 0 hF hS rfl rfl rfl rfl rfl rfl fun w9 hS => ga 1 hF rfl fun a hF => wl_nil ⟨rfl, ?_⟩
  refine hK12 _ _ <| wp_seq_k fun K13 hK13 => rg hF rfl fun a hF => cx 46 hF rfl (fun c46 hF => ?_) fun c46 hF => ?_
  ·
   have hnone := try_none2 (used := used) (order := order) c46
   refine wp_exit ?_
   refine xt ?_
   refine hK9 _ _ <| rl hF rfl fun a hF => ?_
   refine xt ?_
   refine ⟨k + 1, ⟨by omega, some_next hf hlt hnone⟩, (hS.pick [2, 3] (by decide) rfl), ((((((((hF.nil.keep hF (t := 11) rfl).keep hF (t := 10) rfl).keep hF (t := 8) rfl).keep hF (t := 5) rfl).keep hF (t := 4) rfl).keep hF (t := 2) rfl).keep hF (t := 1) rfl).keepE hF (t := 12) rfl (wk (by omega))), by omega⟩
  refine wp_skip <| hK13 _ _ <| ws fun K15 hK15 => wl_bslice boolEK [] [] rfl hF hS rfl mk50 rfl trivial rfl rfl rfl rfl fun gl_47 w10 a hS hF => ga 1 hF rfl fun a hF => ?_
  refine wl_append0 hF hS rfl (hS.rd hb) mk50 rfl (by omega) (by unfold maxLen; omega) (hF.ev rfl) (hF.ev rfl) fun s49 w11 a hS hF => ?_
  refine ge hK15 hF rfl fun a hF => ws fun K16 hK16 => ga 2 hF rfl fun a hF => ?_
  obtain ⟨g52, o52, m52, q52, hv52, hm52, hl52, hc52⟩ := Rd.atF ((hS.own_rd (i := 0) rfl)) (a := a) (X := .tmp 51) (hF.ev rfl) (by omega) (by omega)
  refine wl hF rfl rfl rfl (r_index sl50 ((hF.ev rfl).trans hv52) (hF.ev rfl) (by omega) (by first | omega | (simp at hm52; omega))) fun a hF => ?_
  refine wl_tstore (q := 0) hF hS rfl hv52 (by omega) (by omega) sz4 (hF.ev rfl) rfl ec fun w12 hS => ?_; dsimp only [List.set] at hS
  refine wl_nil <| hK16 _ _ <| wp_seq_k fun K17 hK17 => ?_
  refine wp_region_todo (is := [0, 1, 2, 3, 5, 7, 4, 6, 8, 9, 10, 11, 12, 13, 14, 15]) [] [] (by kernel_rfl) hF hS ⟨trivial, by decide, by decide, by decide⟩ (by kernel_rfl) ?_; intro hl_ wd hSd
  refine todo_load [10, 11, 12, 13, 14, 15] hl_ (by kernel_rfl) rfl (gw0 rfl) rfl rfl rfl (fun a w_ hF hB_ => r_loadn ag25 (hF.ev rfl) ((hSd.ext hB_).box_rd (i := 5) rfl) sz25) <| tp 2 hl_ rfl <| todo_load [10, 11, 12, 13, 14, 15] hl_ (by kernel_rfl) rfl (gw0 rfl) rfl rfl rfl (fun a w_ hF hB_ => r_loadn ag36 (hF.ev rfl) ((hSd.ext hB_).box_rd (i := 2) rfl) sz36) <| tp 2 hl_ rfl <| todo_fork [(4, [6, 8, 9, 10, 11, 12, 13, 14, 15]), (8, [4, 6, 9, 10, 11, 12, 13, 14, 15])] hl_ rfl (by kernel_rfl) (List.forall_mem_cons.2 ⟨?_, List.forall_mem_cons.2 ⟨?_, fun _ h_ => nomatch h_⟩⟩)
  ·
   refine op_op rfl rfl (gw0 rfl) rfl rfl rfl (fun a w_ hF hS => r_bslice intEK [] [] rfl mk29 rfl trivial rfl rfl rfl rfl) ?_; intro gl_58
   refine todo_fork [(6, [8, 9, 10, 11, 12, 13, 14, 15]), (8, [6, 9, 10, 11, 12, 13, 14, 15])] hl_ rfl (by kernel_rfl) (List.forall_mem_cons.2 ⟨?_, List.forall_mem_cons.2 ⟨?_, fun _ h_ => nomatch h_⟩⟩)
   ·
    refine op_opF rfl rfl (gw0 rfl) rfl rfl rfl (fun a w_ hF hS => r_append0 (hS.rd ho) mk29 rfl (by omega) (by unfold maxLen; omega) (hF.ev rfl) (hF.ev rfl)) ?_; intro s60
    refine todo_op hl_ rfl (by kernel_rfl) rfl rfl rfl rfl rfl (fun a w_ hF hS => r_bslice intEK [vi (k : Int)] [(k : Int)] rfl mk29 rfl ⟨rfl, (hF.ev rfl), trivial⟩ rfl rfl rfl rfl) ?_; intro gl_62
    refine todo_apF hl_ rfl (by kernel_rfl) rfl rfl rfl rfl (j := 1) rfl (fun w_ hS => (hS.own_rd (i := 0) rfl)) mk29 rfl (fun a hF => (hF.ev rfl)) (fun a hF => (hF.ev rfl)) (by simp; omega) (by first | (simp; omega) | (unfold maxLen; simp; omega)) ?_; intro A_63 c_63
    refine todo_mk hl_ rfl (by kernel_rfl) rfl rfl rfl rfl rfl (fun a w_ hF => r_call5 en27 (hF.ev rfl) (hF.ev rfl) (hF.ev rfl) (hF.ev rfl) (hF.ev rfl)) (fun w_ hS => ih _ (show left (used.set k true) < n by omega) _ c _ _ _ es (used.set k true) (explains c m (at0 es (k : Int))).1 _ (order ++ [(k : Int)]) (hS.rd ha) (hS.own_rd (i := 3) rfl) (hS.part_k (i := 6) rfl) (hS.above_rd (i := 1) rfl) (by simp only [List.length_set]; omega) h10 (by rw [explains_vals]; exact hvl) (by simp only [List.length_append, List.length_cons, List.length_nil]; omega) (by simp only [List.length_append, List.length_cons, List.length_nil]; omega) rfl) ?_; rintro s64
    refine tp 5 hl_ rfl ?_
    refine todo_fin hl_ rfl (by kernel_rfl) (tl := []) rfl ?_; intro a w17 hF hA_
    have hS := hA_.sep; clear hA_
    clear hl_; try clear hSd
    try dsimp only [List.cons_append, List.nil_append, List.set] at hS
    replace hS := hS.unabove (i := 2) rfl; dsimp only [List.set] at hS
    try clear wd
    refine wl_nil ⟨rfl, ?_⟩
    refine hK17 _ _ <| rg hF rfl fun a hF => cx 67 hF rfl (fun c67 hF => ?_) fun c67 hF => ?_
    ·
     obtain ⟨r_, hr_⟩ := Option.isSome_iff_exists.1 c67
     have hfin : search c es (left used) used m order = some r_ := by rw [search_eq, if_neg (by rw [c20]; decide)]; exact some_hit hf hlt ((try_go c34 c46).trans hr_)
     refine rg hF rfl fun a hF => ?_
     refine xr ?_
     first
       | (have hfin : search c es (left used) used m order = some order := by rw [search_eq, if_pos c20]
          refine ret2 rfl hF rfl rfl ⟨s23, by rw [hfin]; rfl, ?_⟩; rw [hfin]; exact hS.pick [99] (by decide) rfl)
       | (refine ret2 rfl hF rfl rfl ⟨s64, by rw [hfin]; rfl, ?_⟩; rw [hfin]; rw [hr_] at hS; exact hS.pick [0] (by decide) rfl)
       | (have hfin : search c es (left used) used m order = none := by rw [search_eq, if_neg (by rw [c20]; decide)]; exact some_done hf (by omega)
          refine ret2 rfl hF rfl rfl ⟨(some ⟨gl_69, 0, none⟩, 0, 0), by rw [hfin]; rfl, ?_⟩; rw [hfin]; exact hS.pick [99] (by decide) rfl)
    have hnone : tryOne c es used m order k = none := (try_go c34 c46).trans (Option.isNone_iff_eq_none.1 (by simpa using c67))
    refine wp_skip ?_
    refine xt ?_
    refine hK9 _ _ <| rl hF rfl fun a hF => ?_
    refine xt ?_
    refine ⟨k + 1, ⟨by omega, some_next hf hlt hnone⟩, (hS.pick [8, 9] (by decide) rfl), ((((((((hF.nil.keep hF (t := 11) rfl).keep hF (t := 10) rfl).keep hF (t := 8) rfl).keep hF (t := 5) rfl).keep hF (t := 4) rfl).keep hF (t := 2) rfl).keep hF (t := 1) rfl).keepE hF (t := 12) rfl (wk (by omega))), by omega⟩
   ·
    refine op_op rfl rfl (gw0 rfl) rfl rfl rfl (fun a w_ hF hS => r_bslice intEK [vi (k : Int)] [(k : Int)] rfl mk29 rfl ⟨rfl, (hF.ev rfl), trivial⟩ rfl rfl rfl rfl) ?_; intro gl_62
    refine todo_opF hl_ rfl (by kernel_rfl) rfl (gw0 rfl) rfl rfl rfl (fun a w_ hF hS => r_append0 (hS.rd ho) mk29 rfl (by omega) (by unfold maxLen; omega) (hF.ev rfl) (hF.ev rfl)) ?_; intro s60
    refine todo_apF hl_ rfl (by kernel_rfl) rfl rfl rfl rfl (j := 0) rfl (fun w_ hS => (hS.own_rd (i := 1) rfl)) mk29 rfl (fun a hF => (hF.ev rfl)) (fun a hF => (hF.ev rfl)) (by simp; omega) (by first | (simp; omega) | (unfold maxLen; simp; omega)) ?_; intro A_63 c_63
    refine todo_mk hl_ rfl (by kernel_rfl) rfl rfl rfl rfl rfl (fun a w_ hF => r_call5 en27 (hF.ev rfl) (hF.ev rfl) (hF.ev rfl) (hF.ev rfl) (hF.ev rfl)) (fun w_ hS => ih _ (show left (used.set k true) < n by omega) _ c _ _ _ es (used.set k true) (explains c m (at0 es (k : Int))).1 _ (order ++ [(k : Int)]) (hS.rd ha) (hS.own_rd (i := 3) rfl) (hS.part_k (i := 6) rfl) (hS.above_rd (i := 0) rfl) (by simp only [List.length_set]; omega) h10 (by rw [explains_vals]; exact hvl) (by simp only [List.length_append, List.length_cons, List.length_nil]; omega) (by simp only [List.length_append, List.length_cons, List.length_nil]; omega) rfl) ?_; rintro s64
    refine tp 5 hl_ rfl ?_
    refine todo_fin hl_ rfl (by kernel_rfl) (tl := []) rfl ?_; intro a w21 hF hA_
    have hS := hA_.sep; clear hA_
    clear hl_; try clear hSd
    try dsimp only [List.cons_append, List.nil_append, List.set] at hS
    replace hS := hS.unabove (i := 1) rfl; dsimp only [List.set] at hS
    try clear wd
    refine wl_nil ⟨rfl, ?_⟩
    refine hK17 _ _ <| rg hF rfl fun a hF => cx 67 hF rfl (fun c67 hF => ?_) fun c67 hF => ?_
    ·
     obtain ⟨r_, hr_⟩ := Option.isSome_iff_exists.1 c67
     have hfin : search c es (left used) used m order = some r_ := by rw [search_eq, if_neg (by rw [c20]; decide)]; exact some_hit hf hlt ((try_go c34 c46).trans hr_)
     refine rg hF rfl fun a hF => ?_
     refine xr ?_
     first
       | (have hfin : search c es (left used) used m order = some order := by rw [search_eq, if_pos c20]
          refine ret2 rfl hF rfl rfl ⟨s23, by rw [hfin]; rfl, ?_⟩; rw [hfin]; exact hS.pick [99] (by decide) rfl)
       | (refine ret2 rfl hF rfl rfl ⟨s64, by rw [hfin]; rfl, ?_⟩; rw [hfin]; rw [hr_] at hS; exact hS.pick [0] (by decide) rfl)
       | (have hfin : search c es (left used) used m order = none := by rw [search_eq, if_neg (by rw [c20]; decide)]; exact some_done hf (by omega)
          refine ret2 rfl hF rfl rfl ⟨(some ⟨gl_69, 0, none⟩, 0, 0), by rw [hfin]; rfl, ?_⟩; rw [hfin]; exact hS.pick [99] (by decide) rfl)
    have hnone : tryOne c es used m order k = none := (try_go c34 c46).trans (Option.isNone_iff_eq_none.1 (by simpa using c67))
    refine wp_skip ?_
    refine xt ?_
    refine hK9 _ _ <| rl hF rfl fun a hF => ?_
    refine xt ?_
    refine ⟨k + 1, ⟨by omega, some_next hf hlt hnone⟩, (hS.pick [8, 9] (by decide) rfl), ((((((((hF.nil.keep hF (t := 11) rfl).keep hF (t := 10) rfl).keep hF (t := 8) rfl).keep hF (t := 5) rfl).keep hF (t := 4) rfl).keep hF (t := 2) rfl).keep hF (t := 1) rfl).keepE hF (t := 12) rfl (wk (by omega))), by omega⟩
  ·
   refine op_op rfl rfl (gw0 rfl) rfl rfl rfl (fun a w_ hF hS => r_bslice intEK [vi (k : Int)] [(k : Int)] rfl mk29 rfl ⟨rfl, (hF.ev rfl), trivial⟩ rfl rfl rfl rfl) ?_; intro gl_62
   refine todo_op hl_ rfl (by kernel_rfl) rfl rfl rfl rfl rfl (fun a w_ hF hS => r_bslice intEK [] [] rfl mk29 rfl trivial rfl rfl rfl rfl) ?_; intro gl_58
   refine todo_opF hl_ rfl (by kernel_rfl) rfl (gw0 rfl) rfl rfl rfl (fun a w_ hF hS => r_append0 (hS.rd ho) mk29 rfl (by omega) (by unfold maxLen; omega) (hF.ev rfl) (hF.ev rfl)) ?_; intro s60
   refine todo_apF hl_ rfl (by kernel_rfl) rfl rfl rfl rfl (j := 0) rfl (fun w_ hS => (hS.own_rd (i := 2) rfl)) mk29 rfl (fun a hF => (hF.ev rfl)) (fun a hF => (hF.ev rfl)) (by simp; omega) (by first | (simp; omega) | (unfold maxLen; simp; omega)) ?_; intro A_63 c_63
   refine todo_mk hl_ rfl (by kernel_rfl) rfl rfl rfl rfl rfl (fun a w_ hF => r_call5 en27 (hF.ev rfl) (hF.ev rfl) (hF.ev rfl) (hF.ev rfl) (hF.ev rfl)) (fun w_ hS => ih _ (show left (used.set k true) < n by omega) _ c _ _ _ es (used.set k true) (explains c m (at0 es (k : Int))).1 _ (order ++ [(k : Int)]) (hS.rd ha) (hS.own_rd (i := 3) rfl) (hS.part_k (i := 6) rfl) (hS.above_rd (i := 0) rfl) (by simp only [List.length_set]; omega) h10 (by rw [explains_vals]; exact hvl) (by simp only [List.length_append, List.length_cons, List.length_nil]; omega) (by simp only [List.length_append, List.length_cons, List.length_nil]; omega) rfl) ?_; rintro s64
   refine tp 5 hl_ rfl ?_
   refine todo_fin hl_ rfl (by kernel_rfl) (tl := []) rfl ?_; intro a w26 hF hA_
   have hS := hA_.sep; clear hA_
   clear hl_; try clear hSd
   try dsimp only [List.cons_append, List.nil_append, List.set] at hS
   replace hS := hS.unabove (i := 1) rfl; dsimp only [List.set] at hS
   try clear wd
   refine wl_nil ⟨rfl, ?_⟩
   refine hK17 _ _ <| rg hF rfl fun a hF => cx 67 hF rfl (fun c67 hF => ?_) fun c67 hF => ?_
   ·
    obtain ⟨r_, hr_⟩ := Option.isSome_iff_exists.1 c67
    have hfin : search c es (left used) used m order = some r_ := by rw [search_eq, if_neg (by rw [c20]; decide)]; exact some_hit hf hlt ((try_go c34 c46).trans hr_)
    refine rg hF rfl fun a hF => ?_
    refine xr ?_
    first
      | (have hfin : search c es (left used) used m order = some order := by rw [search_eq, if_pos c20]
         refine ret2 rfl hF rfl rfl ⟨s23, by rw [hfin]; rfl, ?_⟩; rw [hfin]; exact hS.pick [99] (by decide) rfl)
      | (refine ret2 rfl hF rfl rfl ⟨s64, by rw [hfin]; rfl, ?_⟩; rw [hfin]; rw [hr_] at hS; exact hS.pick [0] (by decide) rfl)
      | (have hfin : search c es (left used) used m order = none := by rw [search_eq, if_neg (by rw [c20]; decide)]; exact some_done hf (by omega)
         refine ret2 rfl hF rfl rfl ⟨(some ⟨gl_69, 0, none⟩, 0, 0), by rw [hfin]; rfl, ?_⟩; rw [hfin]; exact hS.pick [99] (by decide) rfl)
   have hnone : tryOne c es used m order k = none := (try_go c34 c46).trans (Option.isNone_iff_eq_none.1 (by simpa using c67))
   refine wp_skip ?_
   refine xt ?_
   refine hK9 _ _ <| rl hF rfl fun a hF => ?_
   refine xt ?_
   refine ⟨k + 1, ⟨by omega, some_next hf hlt hnone⟩, (hS.pick [8, 9] (by decide) rfl), ((((((((hF.nil.keep hF (t := 11) rfl).keep hF (t := 10) rfl).keep hF (t := 8) rfl).keep hF (t := 5) rfl).keep hF (t := 4) rfl).keep hF (t := 2) rfl).keep hF (t := 1) rfl).keepE hF (t := 12) rfl (wk (by omega))), by omega⟩
 refine wp_exit ?_
 refine xt ?_
 refine hK5 _ _ <| ws fun K24 hK24 => wl_bslice intEK [] [] rfl hF hS rfl mk29 rfl trivial rfl rfl rfl rfl fun gl_69 w27 a hS hF => ge hK24 hF rfl fun a hF => ?_
 refine xr ?_
 first
   | (have hfin : search c es (left used) used m order = some order := by rw [search_eq, if_pos c20]
      refine ret2 rfl hF rfl rfl ⟨s23, by rw [hfin]; rfl, ?_⟩; rw [hfin]; exact hS.pick [99] (by decide) rfl)
   | (refine ret2 rfl hF rfl rfl ⟨s64, by rw [hfin]; rfl, ?_⟩; rw [hfin]; rw [hr_] at hS; exact hS.pick [99] (by decide) rfl)
   | (have hfin : search c es (left used) used m order = none := by rw [search_eq, if_neg (by rw [c20]; decide)]; exact some_done hf (by omega)
      refine ret2 rfl hF rfl rfl ⟨(some ⟨gl_69, 0, none⟩, 0, 0), by rw [hfin]; rfl, ?_⟩; rw [hfin]; exact hS.pick [0] (by decide) rfl)
theorem l20Search_all : ∀ n, SearchS n := fun n => Nat.strongRecOn n fun n ih => by
  intro W c va vb vo es used m cs order h1 h2 h3 h4 h5 h6 h7 h8 h9 h10
  exact l20Search_step ih h1 h2 h3 h4 h5 h6 h7 h8 h9 h10
set_option maxRecDepth 20000
theorem lin_yes {c : Config} {es : List Sl.Event} (h : c.ok ∧ (es.length : Int) ≤ 10) : linearize c es = search c es (left (List.replicate es.length false)) (List.replicate es.length false) (newModel c) [] := by
 unfold linearize; rw [if_pos h, left_rep]
theorem lin_no {c : Config} {es : List Sl.Event} (h : ¬ c.ok ∨ 10 < (es.length : Int)) : linearize c es = none := by
 unfold linearize; exact if_neg fun hh => by rcases h with h | h; exact h hh.1; omega
theorem model_vals (m : Model) : m.values.length ≤ m.size := by unfold Model.size; omega
theorem specLinearize_c {W : World} {c : Config} {va : Value} {es : List Sl.Event} (ha : eventEK.Rd W va es) : Calls Tryz.prog 7 #[.agg c.enc.toArray, va] W (Ret (Mk W (fun z : Slv => .tuple #[sv z, .bool (linearize c es).isSome]) (fun z => [Own intEK (sv z) ((linearize c es).getD [])]))) := by
 refine cfr Tryz.func7 Tryz.ntmps7 fun a hF => ?_
 have hS := Sep.refl W
 obtain ⟨A_a, q_a, rfl, hq_a, hn_a⟩ := ha.sl; unfold maxLen at hn_a
 have hnm := (newModel_cnt c).2
 have hnv := model_vals (newModel c)
 have hlr := left_rep es.length
 refine ws fun K1 hK1 => wl_box (cs := [_, _, _, _, _, _]) hF hS rfl (hF.ev rfl) rfl fun g1 w1 a hS _ hF => ge hK1 hF rfl fun a hF => wp_seq_k fun K2 hK2 => ws fun K3 hK3 => gB 1 0 hF hS rfl rfl rfl fun a hF => ckr hF hS rfl (specIsConfig_c _) fun w2 a hS hF => ?_
 refine ga 2 hF rfl fun a hF => ?_
 apply wo 4 11 15 hF hS
 ·
  intro hg11 a hF
  exact je 4 hF hS rfl rfl rfl rfl
 intro a w3 hF hS
 refine wl_nil <| hK3 _ _ <| cx 15 hF rfl (fun c15 hF => ?_) fun c15 hF => ?_
 ·
  refine ws fun K4 hK4 => wl_bslice intEK [] [] rfl hF hS rfl mk29 rfl trivial rfl rfl rfl rfl fun gl_16 w4 a hS hF => ge hK4 hF rfl fun a hF => ?_
  refine xr ?_
  first
    | (have e := lin_no c15
       refine ret2 rfl hF rfl rfl ⟨(some ⟨gl_16, 0, none⟩, 0, 0), by rw [e]; rfl, ?_⟩; rw [e]; exact hS.pick [0] (by decide) rfl)
    | (have e := lin_yes (es := es) ⟨c15.1, by omega⟩
       refine ret2 rfl hF rfl rfl ⟨s26, by rw [e]; rfl, ?_⟩; rw [e]; exact hS.pick [99] (by decide) rfl)
 refine wp_skip <| hK2 _ _ <| wp_seq_k fun K5 hK5 => ?_
 refine wp_region_todo (is := [0, 1, 2, 3, 5, 4, 6, 7, 8, 9, 10, 11, 12, 13]) [] [] (by kernel_rfl) hF hS ⟨trivial, by decide, by decide, by decide⟩ (by kernel_rfl) ?_; intro hl_ wd hSd
 refine todo_load [8, 9, 10, 11, 12, 13] hl_ (by kernel_rfl) rfl (gw0 rfl) rfl rfl rfl (fun a w_ hF hB_ => r_loadn ag25 (hF.ev rfl) ((hSd.ext hB_).box_rd (i := 0) rfl) sz25) <| tp 3 hl_ rfl <| todo_load [6, 8, 9, 10, 11, 12, 13] hl_ (by kernel_rfl) rfl (gw0 rfl) rfl rfl rfl (fun a w_ hF hB_ => r_loadn ag25 (hF.ev rfl) ((hSd.ext hB_).box_rd (i := 0) rfl) sz25) <| todo_fork [(4, [6, 7, 8, 9, 10, 11, 12, 13]), (6, [4, 7, 8, 9, 10, 11, 12, 13]), (7, [4, 6, 8, 9, 10, 11, 12, 13])] hl_ rfl (by kernel_rfl) (List.forall_mem_cons.2 ⟨?_, List.forall_mem_cons.2 ⟨?_, List.forall_mem_cons.2 ⟨?_, fun _ h_ => nomatch h_⟩⟩⟩)
 ·
  refine op_op rfl rfl (gw0 rfl) rfl rfl rfl (fun a w_ hF hS => r_make0 boolEK false [] mk50 rfl (fun _ => Sat.nil _ _) (hF.ev rfl) (by omega) (by unfold maxLen; omega)) ?_; intro gm_22
  refine todo_fork [(6, [7, 8, 9, 10, 11, 12, 13]), (7, [6, 8, 9, 10, 11, 12, 13])] hl_ rfl (by kernel_rfl) (List.forall_mem_cons.2 ⟨?_, List.forall_mem_cons.2 ⟨?_, fun _ h_ => nomatch h_⟩⟩)
  ·
   refine op_mk rfl rfl (gw0 rfl) rfl rfl rfl (fun a w_ hF => r_call1 en28 (hF.ev rfl)) (fun w_ hS => specNewModel_c _) ?_; rintro vs24
   refine todo_op hl_ rfl (by kernel_rfl) rfl rfl rfl rfl rfl (fun a w_ hF hS => r_bslice intEK [] [] rfl mk29 rfl trivial rfl rfl rfl rfl) ?_; intro gl_25
   refine todo_mk hl_ rfl (by kernel_rfl) rfl rfl rfl rfl rfl (fun a w_ hF => r_call5 en27 (hF.ev rfl) (hF.ev rfl) (hF.ev rfl) (hF.ev rfl) (hF.ev rfl)) (fun w_ hS => l20Search_all _ _ c _ _ _ es (List.replicate es.length false) (newModel c) _ [] (hS.rd ha) (hS.own_rd (i := 2) rfl) (hS.part_k (i := 1) rfl) (hS.own_rd (i := 0) rfl) (by simp) (by omega) (by omega) (by simp only [List.length_nil]; omega) (by simp only [List.length_nil]; omega) rfl) ?_; rintro s26
   refine tp 5 hl_ rfl ?_
   refine todo_fin hl_ rfl (by kernel_rfl) (tl := []) rfl ?_; intro a w7 hF hA_
   have hS := hA_.sep; clear hA_
   clear hl_; try clear hSd
   try dsimp only [List.cons_append, List.nil_append, List.set] at hS
   try clear wd
   refine wl_nil ⟨rfl, ?_⟩
   refine hK5 _ _ <| rg hF rfl fun a hF => ?_
   refine xr ?_
   first
     | (have e := lin_no c15
        refine ret2 rfl hF rfl rfl ⟨(some ⟨gl_16, 0, none⟩, 0, 0), by rw [e]; rfl, ?_⟩; rw [e]; exact hS.pick [99] (by decide) rfl)
     | (have e := lin_yes (es := es) ⟨c15.1, by omega⟩
        refine ret2 rfl hF rfl rfl ⟨s26, by rw [e]; rfl, ?_⟩; rw [e]; exact hS.pick [0] (by decide) rfl)
  ·
   refine op_op rfl rfl (gw0 rfl) rfl rfl rfl (fun a w_ hF hS => r_bslice intEK [] [] rfl mk29 rfl trivial rfl rfl rfl rfl) ?_; intro gl_25
   refine todo_mk hl_ rfl (by kernel_rfl) rfl rfl rfl rfl rfl (fun a w_ hF => r_call1 en28 (hF.ev rfl)) (fun w_ hS => specNewModel_c _) ?_; rintro vs24
   refine todo_mk hl_ rfl (by kernel_rfl) rfl rfl rfl rfl rfl (fun a w_ hF => r_call5 en27 (hF.ev rfl) (hF.ev rfl) (hF.ev rfl) (hF.ev rfl) (hF.ev rfl)) (fun w_ hS => l20Search_all _ _ c _ _ _ es (List.replicate es.length false) (newModel c) _ [] (hS.rd ha) (hS.own_rd (i := 2) rfl) (hS.part_k (i := 0) rfl) (hS.own_rd (i := 1) rfl) (by simp) (by omega) (by omega) (by simp only [List.length_nil]; omega) (by simp only [List.length_nil]; omega) rfl) ?_; rintro s26
   refine tp 5 hl_ rfl ?_
   refine todo_fin hl_ rfl (by kernel_rfl) (tl := []) rfl ?_; intro a w9 hF hA_
   have hS := hA_.sep; clear hA_
   clear hl_; try clear hSd
   try dsimp only [List.cons_append, List.nil_append, List.set] at hS
   try clear wd
   refine wl_nil ⟨rfl, ?_⟩
   refine hK5 _ _ <| rg hF rfl fun a hF => ?_
   refine xr ?_
   first
     | (have e := lin_no c15
        refine ret2 rfl hF rfl rfl ⟨(some ⟨gl_16, 0, none⟩, 0, 0), by rw [e]; rfl, ?_⟩; rw [e]; exact hS.pick [99] (by decide) rfl)
     | (have e := lin_yes (es := es) ⟨c15.1, by omega⟩
        refine ret2 rfl hF rfl rfl ⟨s26, by rw [e]; rfl, ?_⟩; rw [e]; exact hS.pick [0] (by decide) rfl)
 ·
  refine op_mk rfl rfl (gw0 rfl) rfl rfl rfl (fun a w_ hF => r_call1 en28 (hF.ev rfl)) (fun w_ hS => specNewModel_c _) ?_; rintro vs24
  refine todo_fork [(4, [7, 8, 9, 10, 11, 12, 13]), (7, [4, 8, 9, 10, 11, 12, 13])] hl_ rfl (by kernel_rfl) (List.forall_mem_cons.2 ⟨?_, List.forall_mem_cons.2 ⟨?_, fun _ h_ => nomatch h_⟩⟩)
  ·
   refine op_op rfl rfl (gw0 rfl) rfl rfl rfl (fun a w_ hF hS => r_make0 boolEK false [] mk50 rfl (fun _ => Sat.nil _ _) (hF.ev rfl) (by omega) (by unfold maxLen; omega)) ?_; intro gm_22
   refine todo_op hl_ rfl (by kernel_rfl) rfl rfl rfl rfl rfl (fun a w_ hF hS => r_bslice intEK [] [] rfl mk29 rfl trivial rfl rfl rfl rfl) ?_; intro gl_25
   refine todo_mk hl_ rfl (by kernel_rfl) rfl rfl rfl rfl rfl (fun a w_ hF => r_call5 en27 (hF.ev rfl) (hF.ev rfl) (hF.ev rfl) (hF.ev rfl) (hF.ev rfl)) (fun w_ hS => l20Search_all _ _ c _ _ _ es (List.replicate es.length false) (newModel c) _ [] (hS.rd ha) (hS.own_rd (i := 1) rfl) (hS.part_k (i := 2) rfl) (hS.own_rd (i := 0) rfl) (by simp) (by omega) (by omega) (by simp only [List.length_nil]; omega) (by simp only [List.length_nil]; omega) rfl) ?_; rintro s26
   refine tp 5 hl_ rfl ?_
   refine todo_fin hl_ rfl (by kernel_rfl) (tl := []) rfl ?_; intro a w12 hF hA_
   have hS := hA_.sep; clear hA_
   clear hl_; try clear hSd
   try dsimp only [List.cons_append, List.nil_append, List.set] at hS
   try clear wd
   refine wl_nil ⟨rfl, ?_⟩
   refine hK5 _ _ <| rg hF rfl fun a hF => ?_
   refine xr ?_
   first
     | (have e := lin_no c15
        refine ret2 rfl hF rfl rfl ⟨(some ⟨gl_16, 0, none⟩, 0, 0), by rw [e]; rfl, ?_⟩; rw [e]; exact hS.pick [99] (by decide) rfl)
     | (have e := lin_yes (es := es) ⟨c15.1, by omega⟩
        refine ret2 rfl hF rfl rfl ⟨s26, by rw [e]; rfl, ?_⟩; rw [e]; exact hS.pick [0] (by decide) rfl)
  ·
   refine op_op rfl rfl (gw0 rfl) rfl rfl rfl (fun a w_ hF hS => r_bslice intEK [] [] rfl mk29 rfl trivial rfl rfl rfl rfl) ?_; intro gl_25
   refine todo_op hl_ rfl (by kernel_rfl) rfl rfl rfl rfl rfl (fun a w_ hF hS => r_make0 boolEK false [] mk50 rfl (fun _ => Sat.nil _ _) (hF.ev rfl) (by omega) (by unfold maxLen; omega)) ?_; intro gm_22
   refine todo_mk hl_ rfl (by kernel_rfl) rfl rfl rfl rfl rfl (fun a w_ hF => r_call5 en27 (hF.ev rfl) (hF.ev rfl) (hF.ev rfl) (hF.ev rfl) (hF.ev rfl)) (fun w_ hS => l20Search_all _ _ c _ _ _ es (List.replicate es.length false) (newModel c) _ [] (hS.rd ha) (hS.own_rd (i := 0) rfl) (hS.part_k (i := 2) rfl) (hS.own_rd (i := 1) rfl) (by simp) (by omega) (by omega) (by simp only [List.length_nil]; omega) (by simp only [List.length_nil]; omega) rfl) ?_; rintro s26
   refine tp 5 hl_ rfl ?_
   refine todo_fin hl_ rfl (by kernel_rfl) (tl := []) rfl ?_; intro a w15 hF hA_
   have hS := hA_.sep; clear hA_
   clear hl_; try clear hSd
   try dsimp only [List.cons_append, List.nil_append, List.set] at hS
   try clear wd
   refine wl_nil ⟨rfl, ?_⟩
   refine hK5 _ _ <| rg hF rfl fun a hF => ?_
   refine xr ?_
   first
     | (have e := lin_no c15
        refine ret2 rfl hF rfl rfl ⟨(some ⟨gl_16, 0, none⟩, 0, 0), by rw [e]; rfl, ?_⟩; rw [e]; exact hS.pick [99] (by decide) rfl)
     | (have e := lin_yes (es := es) ⟨c15.1, by omega⟩
        refine ret2 rfl hF rfl rfl ⟨s26, by rw [e]; rfl, ?_⟩; rw [e]; exact hS.pick [0] (by decide) rfl)
 ·
  refine op_op rfl rfl (gw0 rfl) rfl rfl rfl (fun a w_ hF hS => r_bslice intEK [] [] rfl mk29 rfl trivial rfl rfl rfl rfl) ?_; intro gl_25
  refine todo_fork [(4, [6, 8, 9, 10, 11, 12, 13]), (6, [4, 8, 9, 10, 11, 12, 13])] hl_ rfl (by kernel_rfl) (List.forall_mem_cons.2 ⟨?_, List.forall_mem_cons.2 ⟨?_, fun _ h_ => nomatch h_⟩⟩)
  ·
   refine op_op rfl rfl (gw0 rfl) rfl rfl rfl (fun a w_ hF hS => r_make0 boolEK false [] mk50 rfl (fun _ => Sat.nil _ _) (hF.ev rfl) (by omega) (by unfold maxLen; omega)) ?_; intro gm_22
   refine todo_mk hl_ rfl (by kernel_rfl) rfl rfl rfl rfl rfl (fun a w_ hF => r_call1 en28 (hF.ev rfl)) (fun w_ hS => specNewModel_c _) ?_; rintro vs24
   refine todo_mk hl_ rfl (by kernel_rfl) rfl rfl rfl rfl rfl (fun a w_ hF => r_call5 en27 (hF.ev rfl) (hF.ev rfl) (hF.ev rfl) (hF.ev rfl) (hF.ev rfl)) (fun w_ hS => l20Search_all _ _ c _ _ _ es (List.replicate es.length false) (newModel c) _ [] (hS.rd ha) (hS.own_rd (i := 1) rfl) (hS.part_k (i := 0) rfl) (hS.own_rd (i := 2) rfl) (by simp) (by omega) (by omega) (by simp only [List.length_nil]; omega) (by simp only [List.length_nil]; omega) rfl) ?_; rintro s26
   refine tp 5 hl_ rfl ?_
   refine todo_fin hl_ rfl (by kernel_rfl) (tl := []) rfl ?_; intro a w18 hF hA_
   have hS := hA_.sep; clear hA_
   clear hl_; try clear hSd
   try dsimp only [List.cons_append, List.nil_append, List.set] at hS
   try clear wd
   refine wl_nil ⟨rfl, ?_⟩
   refine hK5 _ _ <| rg hF rfl fun a hF => ?_
   refine xr ?_
   first
     | (have e := lin_no c15
        refine ret2 rfl hF rfl rfl ⟨(some ⟨gl_16, 0, none⟩, 0, 0), by rw [e]; rfl, ?_⟩; rw [e]; exact hS.pick [99] (by decide) rfl)
     | (have e := lin_yes (es := es) ⟨c15.1, by omega⟩
        refine ret2 rfl hF rfl rfl ⟨s26, by rw [e]; rfl, ?_⟩; rw [e]; exact hS.pick [0] (by decide) rfl)
  ·
   refine op_mk rfl rfl (gw0 rfl) rfl rfl rfl (fun a w_ hF => r_call1 en28 (hF.ev rfl)) (fun w_ hS => specNewModel_c _) ?_; rintro vs24
   refine todo_op hl_ rfl (by kernel_rfl) rfl rfl rfl rfl rfl (fun a w_ hF hS => r_make0 boolEK false [] mk50 rfl (fun _ => Sat.nil _ _) (hF.ev rfl) (by omega) (by unfold maxLen; omega)) ?_; intro gm_22
   refine todo_mk hl_ rfl (by kernel_rfl) rfl rfl rfl rfl rfl (fun a w_ hF => r_call5 en27 (hF.ev rfl) (hF.ev rfl) (hF.ev rfl) (hF.ev rfl) (hF.ev rfl)) (fun w_ hS => l20Search_all _ _ c _ _ _ es (List.replicate es.length false) (newModel c) _ [] (hS.rd ha) (hS.own_rd (i := 0) rfl) (hS.part_k (i := 1) rfl) (hS.own_rd (i := 2) rfl) (by simp) (by omega) (by omega) (by simp only [List.length_nil]; omega) (by simp only [List.length_nil]; omega) rfl) ?_; rintro s26
   refine tp 5 hl_ rfl ?_
   refine todo_fin hl_ rfl (by kernel_rfl) (tl := []) rfl ?_; intro a w20 hF hA_
   have hS := hA_.sep; clear hA_
   clear hl_; try clear hSd
   try dsimp only [List.cons_append, List.nil_append, List.set] at hS
   try clear wd
   refine wl_nil ⟨rfl, ?_⟩
   refine hK5 _ _ <| rg hF rfl fun a hF => ?_
   refine xr ?_
   first
     | (have e := lin_no c15
        refine ret2 rfl hF rfl rfl ⟨(some ⟨gl_16, 0, none⟩, 0, 0), by rw [e]; rfl, ?_⟩; rw [e]; exact hS.pick [99] (by decide) rfl)
     | (have e := lin_yes (es := es) ⟨c15.1, by omega⟩
        refine ret2 rfl hF rfl rfl ⟨s26, by rw [e]; rfl, ?_⟩; rw [e]; exact hS.pick [0] (by decide) rfl)
theorem en7 : enterB Tryz.prog 7 = true := by kernel_rfl
set_option maxRecDepth 20000
section
variable {P : Program} {a : Act} {w w0 : World} {n : Nat} {L : List (Nat × Value)} {l : List Res}
theorem ret3ctt {fn : Func} {t t' t2 T g i : Nat} {cs : List Value} {v' v2 : Value} {R : Value → World → Prop} (hres : fn.results = #[.cell t T, .tmp t', .tmp t2]) (ht : aggB P T = true) (hF : Fr n L a) (hS : Sep w0 l w) (hi : l[i]? = some (Box g cs)) (hs : szB P T = some cs.length) (hl : lk L t = some (.pointer (some ⟨g, 0, none⟩))) (hl' : lk L t' = some v') (hl2 : lk L t2 = some v2) (hR : R (.tuple #[.agg cs.toArray, v', v2]) w) : bodyPost P fn (Ret R) .ret a w := by
 refine ⟨hF.defs, .tuple #[.agg cs.toArray, v', v2], ?_, _, rfl, hR⟩
 have h1 := hF.get _ _ hl
 have h3 := hF.get _ _ hl'
 have h4 := hF.get _ _ hl2
 have h2 := run_loadVar_agg (P := P) (w := w) (g := g) ht hs (fun j u hu => hS.box hi hu)
 simp [results, hres, Array.getD_eq_getD_getElem?, h1, h3, h4, asAddr, h2]
end
theorem drawReplayOrder_c {W : World} {vb : Value} {bs : List Int} (hb : byteEK.Rd W vb bs) (hz : bs.length ≤ 1048576) : Calls Tryz.prog 15 #[vb] W (Ret (Mk W (fun z : {z : (Config × List Sl.Event) × Slv × List Int × Slv // z.1.1.ok ∧ z.1.2.length ≤ 7} => .tuple #[.agg z.1.1.1.enc.toArray, sv z.1.2.1, sv z.1.2.2.2]) (fun z => [Own eventEK (sv z.1.2.1) z.1.1.2, Own intEK (sv z.1.2.2.2) z.1.2.2.1]))) := by
 refine cfr Tryz.func15 Tryz.ntmps15 fun a hF => ?_
 have hS := Sep.refl W
 refine ws fun K1 hK1 => wl_alloc hF hS rfl zr25 fun g1 w1 a hS _ hF => ge hK1 hF rfl fun a hF => ws fun K2 hK2 => ga 1 hF rfl fun a hF => ?_
 refine wl_mk hF hS rfl rfl rfl (r_call1 en19 (hF.ev rfl)) (l1New_c (hS.rd hb) (by omega)) ?_; rintro g12 w2 a hS_ hF; replace hS := hS_; clear hS_; dsimp only [List.cons_append, List.nil_append] at hS
 have hbs := hb
 refine ge hK2 hF rfl fun a hF => ws fun K3 hK3 => ga 1 hF rfl fun a hF => ?_
 refine ck hF rfl (l20Events_h hbs hS) ?_; rintro v w3 a ⟨⟨⟨c15, es15⟩, q15⟩, ⟨rfl, hc15, hw15, hz15⟩, hS⟩ hF
 try dsimp only at hz15
 refine ga 3 hF rfl fun a hF => wl_alloc hF hS rfl zr25 fun g2 w4 a hS _ hF => ?_
 refine wl_storen (cs' := [_, _, _, _, _, _]) hF hS (i := 0) rfl (hF.ev rfl) (hF.ev rfl) sz25 ⟨rfl, rfl⟩ rfl rfl fun w5 hS => ?_; dsimp only [List.set] at hS
 refine ge hK3 hF rfl fun a hF => ws fun K4 hK4 => gB 2 0 hF hS rfl rfl rfl fun a hF => ?_
 refine wl_mk hF hS rfl rfl rfl (r_call2 en7 (hF.ev rfl) (hF.ev rfl)) (specLinearize_c (hS.own_rd (i := 1) rfl)) ?_; rintro s21 w6 a hS_ hF; replace hS := hS_; clear hS_; dsimp only [List.cons_append, List.nil_append] at hS
 have hln21 := hS.own_len (q := 0) rfl
 refine ge hK4 hF rfl fun a hF => wp_seq_k fun K5 hK5 => ws fun K6 hK6 => ga 4 hF rfl fun a hF => ?_
 revert hF; intro hF0; refine bsplit (t := 27) hF0 rfl (fun b27 hF => ?_) (fun b27 hF => ?_)
 ·
  clear hF0
  try simp only [decide_eq_true_eq, decide_eq_false_iff_not, Bool.not_eq_true', Bool.not_eq_false'] at b27
  refine ga 1 hF rfl fun a hF => ?_
  refine ck hF rfl (l1Once_c hbs (q := 3) _ hS rfl) ?_; rintro v w7 a ⟨⟨b29, rfl⟩, hS⟩ hF
  refine ge hK6 hF rfl fun a hF => cx 30 hF rfl (fun c30 hF => ?_) fun c30 hF => ?_
  ·
   refine ws fun K7 hK7 => ga 3 hF rfl fun a hF => ?_
   refine ck hF rfl (l1Below_c hbs (q := 3) _ hS rfl) ?_; rintro v w8 a ⟨⟨x34, rfl, h34⟩, hS⟩ hF
   refine ge hK7 hF rfl fun a hF => wp_region_lit <| ga 3 hF rfl fun a hF => wl_bslice intEK [vi (-1), vi 0, vi 1, vi 9] [-1, 0, 1, 9] rfl hF hS rfl mk29 rfl ⟨rfl, ec, rfl, ec, rfl, ec, rfl, ec, trivial⟩ rfl rfl rfl rfl fun gl_38 w9 a hS hF => ?_
   refine ck hF rfl (l1PickInt_c hbs (q := 4) (fun w_ hS => (hS.own_rd (i := 0) rfl)) (by decide) hS rfl) ?_; rintro v w10 a ⟨⟨x39, rfl, h39⟩, hS⟩ hF
   obtain ⟨g40, o40, m40, q40, hv40, hm40, hl40, hc40⟩ := Rd.atF ((hS.own_rd (i := 1) rfl)) (a := a) (X := .tmp 36) (hF.ev rfl) (by omega) (by omega)
   refine wl hF rfl rfl rfl (r_index sl29 ((hF.ev rfl).trans hv40) (hF.ev rfl) (by omega) (by first | omega | (simp at hm40; omega))) fun a hF => ?_
   refine wl_istore (q := 1) hF hS rfl hv40 (by omega) (by omega) sz3 (hF.ev rfl) rfl (hF.ev rfl) fun w11 hS => ?_; dsimp only [List.set] at hS
   refine wl_nil <| hK5 _ _ <| ws fun K8 hK8 => gB 3 2 hF hS rfl rfl rfl fun a hF => ww 5 hF hS rfl rfl rfl rfl rfl rfl fun w12 hS => ge hK8 hF rfl fun a hF => ?_
   refine xr ?_
   exact ret3ctt rfl ag25 hF hS (i := 5) rfl sz25 rfl rfl rfl ⟨⟨((c15, es15), q15, ((linearize c15 es15).getD []).set x34.toNat x39, s21), hc15, hz15⟩, rfl, hS.pick [3, 1] (by decide) rfl⟩
  refine wp_skip <| hK5 _ _ <| ws fun K9 hK9 => gB 3 1 hF hS rfl rfl rfl fun a hF => ww 4 hF hS rfl rfl rfl rfl rfl rfl fun w13 hS => ge hK9 hF rfl fun a hF => ?_
  refine xr ?_
  exact ret3ctt rfl ag25 hF hS (i := 4) rfl sz25 rfl rfl rfl ⟨⟨((c15, es15), q15, (linearize c15 es15).getD [], s21), hc15, hz15⟩, rfl, hS.pick [2, 0] (by decide) rfl⟩
 clear hF0
 try simp only [decide_eq_true_eq, decide_eq_false_iff_not, Bool.not_eq_true', Bool.not_eq_false'] at b27
 refine ge hK6 hF rfl fun a hF => wc_false (hF.ev rfl) <| wp_skip <| hK5 _ _ <| ws fun K10 hK10 => gB 3 1 hF hS rfl rfl rfl fun a hF => ww 4 hF hS rfl rfl rfl rfl rfl rfl fun w14 hS => ?_
 refine ge hK10 hF rfl fun a hF => ?_
 refine xr ?_
 exact ret3ctt rfl ag25 hF hS (i := 4) rfl sz25 rfl rfl rfl ⟨⟨((c15, es15), q15, (linearize c15 es15).getD [], s21), hc15, hz15⟩, rfl, hS.pick [2, 0] (by decide) rfl⟩
theorem drawMayGoNext_c {W : World} {vb : Value} {bs : List Int} (hb : byteEK.Rd W vb bs) (hz : bs.length ≤ 1048576) : Calls Tryz.prog 16 #[vb] W (Ret (Mk W (fun z : (List Sl.Event × Slv) × (List Bool × Slv) × Int => .tuple #[sv z.1.2, sv z.2.1.2, vi z.2.2]) (fun z => [Own eventEK (sv z.1.2) z.1.1, Own boolEK (sv z.2.1.2) z.2.1.1]))) := by
 refine cfr Tryz.func16 Tryz.ntmps16 fun a hF => ?_
 have hS := Sep.refl W
 refine rg hF rfl fun a hF => ws fun K2 hK2 => ga 1 hF rfl fun a hF => ?_
 refine wl_mk hF hS rfl rfl rfl (r_call1 en19 (hF.ev rfl)) (l1New_c (hS.rd hb) (by omega)) ?_; rintro g11 w1 a hS_ hF; replace hS := hS_; clear hS_; dsimp only [List.cons_append, List.nil_append] at hS
 have hbs := hb
 refine ge hK2 hF rfl fun a hF => ws fun K3 hK3 => ga 1 hF rfl fun a hF => ?_
 refine ck hF rfl (l20Events_h hbs hS) ?_; rintro v w2 a ⟨⟨⟨c14, es14⟩, q14⟩, ⟨rfl, hc14, hw14, hz14⟩, hS⟩ hF
 try dsimp only at hz14
 have hln14 := hS.own_len (q := 0) rfl
 dsimp only at hln14 hz14
 refine ga 3 hF rfl fun a hF => wl_alloc hF hS rfl zr25 fun g1 w3 a hS _ hF => ?_
 refine wl_storen (cs' := [_, _, _, _, _, _]) hF hS (i := 0) rfl (hF.ev rfl) (hF.ev rfl) sz25 ⟨rfl, rfl⟩ rfl rfl fun w4 hS => ?_; dsimp only [List.set] at hS
 refine ge hK3 hF rfl fun a hF => ws fun K4 hK4 => wl_bslice boolEK [] [] rfl hF hS rfl mk50 rfl trivial rfl rfl rfl rfl fun gl_17 w5 a hS hF => ge hK4 hF rfl fun a hF => wp_seq_k fun K5 hK5 => rg hF rfl fun a hF => wp_block ?_
 replace hS := hS.pull (p := 0) rfl; dsimp only [List.eraseIdx] at hS
 have hL_ := (((((hF.nil.keep hF (t := 7) rfl).keep hF (t := 5) rfl).keep hF (t := 4) rfl).keep hF (t := 3) rfl).keep hF (t := 2) rfl)
 refine wp_loop_m (σ := Nat × List Bool × Slv) (fun z L_ => (9, vi z.1) :: (8, sv z.2.2) :: L_) (fun z l_ => (Own boolEK (sv z.2.2) z.2.1) :: l_) (fun z => (z.1 ≤ es14.length ∧ z.2.1.length = z.1)) (fun z => es14.length - z.1) (0, [], (some ⟨gl_17, 0, none⟩, 0, 0)) (hS) ((hL_.keepE hF (t := 8) rfl rfl).keepE hF (t := 9) rfl rfl) ?_ ?_
 · exact ⟨Nat.zero_le _, rfl⟩
 rintro ⟨k, us, q⟩ a w6 hk hS hF; try dsimp only at hF; try dsimp only at hS; try dsimp only at hk
 refine wp_seq_k fun K7 hK7 => rg hF rfl fun a hF => cx 21 hF rfl (fun c21 hF => ?_) fun c21 hF => ?_
 ·
  refine wp_skip <| hK7 _ _ <| wp_seq_k fun K9 hK9 => wp_block <| wp_region_lit <| ga 2 hF rfl fun a hF => ?_
  refine ck hF rfl (l1Once_c hbs (q := 3) _ hS rfl) ?_; rintro v w7 a ⟨⟨b26, rfl⟩, hS⟩ hF
  refine wl_bslice boolEK [.bool b26] [b26] rfl hF hS rfl mk50 rfl ⟨rfl, (hF.ev rfl), trivial⟩ rfl rfl rfl rfl fun gl_27 w8 a hS hF => ?_
  refine wl_append (q := 1) hF hS rfl rfl (hS.own_rd (i := 0) rfl) mk50 rfl (hF.ev rfl) (hF.ev rfl) (by simp; omega) (by unfold maxLen; simp; omega) ?_; intro A_28 c_28 w9 a hS_ hF; replace hS := hS_; clear hS_; dsimp only [List.set, List.length_cons, List.length_nil] at hS hF
  refine ga 1 hF rfl fun a hF => wl_nil ?_
  refine xt ?_
  refine hK9 _ _ <| rl hF rfl fun a hF => ?_
  refine xt ?_
  refine ⟨(k + 1, us ++ [_], (_, _, _)), (by dsimp only; simp; omega), (hS.pick [1, 2, 3, 4] (by decide) rfl), (((((((hF.nil.keep hF (t := 7) rfl).keep hF (t := 5) rfl).keep hF (t := 4) rfl).keep hF (t := 3) rfl).keep hF (t := 2) rfl).keepE hF (t := 8) rfl rfl).keepE hF (t := 9) rfl (wk (by omega))), by dsimp only; omega⟩
 refine wp_exit ?_
 refine xt ?_
 refine hK5 _ _ <| wp_seq_k fun K10 hK10 => ws fun K11 hK11 => ga 1 hF rfl fun a hF => ?_
 refine ck hF rfl (l1Once_c hbs (q := 3) _ hS rfl) ?_; rintro v w10 a ⟨⟨b30, rfl⟩, hS⟩ hF
 refine wl_nil <| hK11 _ _ <| cx 30 hF rfl (fun c30 hF => ?_) fun c30 hF => ?_
 ·
  refine wp_region_lit <| ga 1 hF rfl fun a hF => wl_bslice boolEK [.bool true] [true] rfl hF hS rfl mk50 rfl ⟨rfl, ec, trivial⟩ rfl rfl rfl rfl fun gl_32 w11 a hS hF => ?_
  refine wl_append (q := 1) hF hS rfl rfl (hS.own_rd (i := 0) rfl) mk50 rfl (hF.ev rfl) (hF.ev rfl) (by simp; omega) (by unfold maxLen; simp; omega) ?_; intro A_33 c_33 w12 a hS_ hF; replace hS := hS_; clear hS_; dsimp only [List.set, List.length_cons, List.length_nil] at hS hF
  refine ge hK10 hF rfl fun a hF => ws fun K12 hK12 => ga 3 hF rfl fun a hF => ?_
  refine ck hF rfl (l1Below_c hbs (q := 4) _ hS rfl) ?_; rintro v w13 a ⟨⟨x37, rfl, h37⟩, hS⟩ hF
  refine ge hK12 hF rfl fun a hF => ?_
  refine xr ?_
  exact ret3 rfl hF rfl rfl rfl ⟨((es14, q14), (us ++ [true], (_, _, _)), _), rfl, hS.pick [3, 1] (by decide) rfl⟩
 refine wp_skip <| hK10 _ _ <| ws fun K13 hK13 => ga 3 hF rfl fun a hF => ?_
 refine ck hF rfl (l1Below_c hbs (q := 3) _ hS rfl) ?_; rintro v w14 a ⟨⟨x37, rfl, h37⟩, hS⟩ hF
 refine ge hK13 hF rfl fun a hF => ?_
 refine xr ?_
 exact ret3 rfl hF rfl rfl rfl ⟨((es14, q14), (us, (_, _, _)), _), rfl, hS.pick [2, 0] (by decide) rfl⟩
set_option maxRecDepth 20000
/-- what is left of the memory that extend was given -/
def extRes (r : Option (List Int)) (z : Slv) (vb : Value) (used : List Bool) (m : Model) (vs : List Slv) (vo : Value) (order : List Int) : List Res := match r with
  | some out => [Own intEK (sv z) out]
  | none => [Own boolEK vb used, Part modelEK m vs, Own intEK vo order, Own intEK (sv z) []]
def ExtI (n : Nat) : Prop := ∀ (W w : World) (l : List Res) (c : Config) (va vb vo : Value) (es : List Sl.Event) (used : List Bool) (m : Model) (vs : List Slv) (order : List Int), eventEK.Rd W va es → Sep W (Own boolEK vb used :: Part modelEK m vs :: Own intEK vo order :: l) w → used.length = es.length → es.length ≤ 10 → m.values.length ≤ 100 → m.size ≤ 100 + 100 * order.length → order.length + left used ≤ 10 → left used = n →
  Calls Tryz.prog 24 #[.agg c.enc.toArray, va, vb, .agg (modelEK.cells m vs).toArray, vo] w (Ret fun v w' => ∃ z : Slv, v = .tuple #[sv z, .bool (search c es (left used) used m order).isSome] ∧ Sep W (extRes (search c es (left used) used m order) z vb used m vs vo order ++ l) w')
theorem set_back {used : List Bool} {k : Nat} (h : used[k]? = some false) : (used.set k true).set k false = used := by
 obtain ⟨h1, h2⟩ := List.getElem?_eq_some_iff.1 h
 rw [List.set_set]
 rw [← h2, List.set_getElem_self]
theorem extend_step {n : Nat} (ih : ∀ k, k < n → ExtI k) {W w : World} {l : List Res} {c : Config} {va vb vo : Value} {es : List Sl.Event} {used : List Bool} {m : Model} {vs : List Slv} {order : List Int} (ha : eventEK.Rd W va es) (hS : Sep W (Own boolEK vb used :: Part modelEK m vs :: Own intEK vo order :: l) w) (hlen : used.length = es.length) (h10 : es.length ≤ 10) (hvl : m.values.length ≤ 100) (hms : m.size ≤ 100 + 100 * order.length) (hol : order.length + left used ≤ 10) (hn : left used = n) : Calls Tryz.prog 24 #[.agg c.enc.toArray, va, vb, .agg (modelEK.cells m vs).toArray, vo] w (Ret fun v w' => ∃ z : Slv, v = .tuple #[sv z, .bool (search c es (left used) used m order).isSome] ∧ Sep W (extRes (search c es (left used) used m order) z vb used m vs vo order ++ l) w') := by
 refine cfr Tryz.func24 Tryz.ntmps24 fun a hF => ?_
 obtain ⟨A_e, q_e, rfl, hq_e, hn_e⟩ := ha.sl; unfold maxLen at hn_e
 obtain ⟨zu, rfl⟩ := hS.own_sv (q := 0) rfl
 obtain ⟨zo, rfl⟩ := hS.own_sv (q := 2) rfl
 have hlb := hS.own_len (q := 0) rfl
 have hlo := hS.own_len (q := 2) rfl
 refine ws fun K1 hK1 => wl_box (cs := [_, _, _, _, _, _]) hF hS rfl (hF.ev rfl) rfl fun g1 w1 a hS _ hF => wl_box (cs := [_, _]) hF hS rfl (hF.ev rfl) rfl fun g2 w2 a hS _ hF => ge hK1 hF rfl fun a hF => wp_seq_k fun K2 hK2 => ws fun K3 hK3 => ga 2 hF rfl fun a hF => ?_
 refine ckr hF hS rfl (complete_c (hS.rd ha) (hS.own_rd (i := 2) rfl) (by omega)) fun w3 a hS hF => wl_nil <| hK3 _ _ <| cx 20 hF rfl (fun c20 hF => ?_) fun c20 hF => ?_
 ·
  refine rg hF rfl fun a hF => ?_
  refine xr ?_
  first
    | (have hfin : search c es (left used) used m order = some order := by rw [search_eq, if_pos c20]
       refine ret2 rfl hF rfl rfl ⟨zo, by rw [hfin]; rfl, ?_⟩; rw [hfin]; exact hS.pm 5 [4] rfl)
    | (refine ret2 rfl hF rfl rfl ⟨z, by rw [hfin]; rfl, ?_⟩; rw [hfin]; exact hS.pm 5 [99] rfl)
    | (have hfin : search c es (left used) used m order = none := by rw [search_eq, if_neg (by rw [c20]; decide)]; exact some_done hf (by omega)
       refine ret2 rfl hF rfl rfl ⟨(none, 0, 0), by rw [hfin]; rfl, ?_⟩; rw [hfin]; exact Sep.headp (A := [_, _, _, _, _, _]) (B := [_, _, _, _]) (hS.own_nil intEK) [2 + 1, 3 + 1, 4 + 1, 0] (by decide) rfl rfl)
 refine wp_skip <| hK2 _ _ <| wp_seq_k fun K5 hK5 => rg hF rfl fun a hF => wp_block ?_
 have hL_ := (((((((((hF.nil.keep hF (t := 23) rfl).keep hF (t := 22) rfl).keep hF (t := 11) rfl).keep hF (t := 10) rfl).keep hF (t := 8) rfl).keep hF (t := 5) rfl).keep hF (t := 4) rfl).keep hF (t := 2) rfl).keep hF (t := 1) rfl)
 refine wp_loop_r (σ := Nat) (fun k L_ => (24, vi k) :: L_) (fun k => (k ≤ es.length) ∧ (((List.range es.length).take k).findSome? (tryOne c es used m order) = none)) (fun k => es.length - k) 0 hS (hL_.keepE hF (t := 24) rfl rfl) ?_ ?_
 · exact ⟨Nat.zero_le _, rfl⟩
 rintro k a w4 ⟨hk, hf⟩ hS hF; try dsimp only at hF; try dsimp only at hS
 refine rg hF rfl fun a hF => wp_seq_k fun K8 hK8 => cx 25 hF rfl (fun c25 hF => ?_) fun c25 hF => ?_
 ·
  have hlt : k < es.length := by omega
  refine wp_skip <| hK8 _ _ <| wp_seq_k fun K9 hK9 => wp_block <| ws fun K10 hK10 => ga 1 hF rfl fun a hF => ?_
  obtain ⟨g27, o27, m27, q27, hv27, hm27, hl27, hc27⟩ := Rd.atF (ha) (a := a) (X := .tmp 24) (hF.ev rfl) (by omega) (by omega)
  refine wl hF rfl rfl rfl (r_index sl26 ((hF.ev rfl).trans hv27) (hF.ev rfl) (by omega) (by first | omega | (simp at hm27; omega))) fun a hF => ?_
  refine wl hF rfl rfl rfl (r_loadn ag46 (hF.ev rfl) (fun j_ u_ hu_ => cellB hS.old (hc27 j_ u_ hu_)) sz46) fun a hF => wl_alloc hF hS rfl zr46 fun g3 w5 a hS _ hF => ga 1 hF rfl fun a hF => ?_
  refine wl_storen (cs' := [_, _, _, _, _, _, _, _]) hF hS (i := 0) rfl (hF.ev rfl) (hF.ev rfl) sz46 ⟨rfl, rfl⟩ rfl rfl fun w6 hS => ?_; dsimp only [List.set] at hS
  refine wl_nil <| hK10 _ _ <| wp_seq_k fun K11 hK11 => ws fun K12 hK12 => ga 3 hF rfl fun a hF => ckr hF hS rfl (implMayGo_c (hS.rd ha) (hS.own_rd (i := 3) rfl)) fun w7 a hS hF => ge hK12 hF rfl fun a hF => cx 33 hF rfl (fun c33 hF => ?_) fun c33 hF => ?_
  ·
   have hnone := try_none1 (c := c) (m := m) (order := order) c33
   refine wp_exit ?_
   refine xt ?_
   refine hK9 _ _ <| rl hF rfl fun a hF => ?_
   refine xt ?_
   refine ⟨k + 1, ⟨by omega, some_next hf hlt hnone⟩, (hS.pm 6 [1, 2, 3, 4, 5] rfl), ((((((((((hF.nil.keep hF (t := 23) rfl).keep hF (t := 22) rfl).keep hF (t := 11) rfl).keep hF (t := 10) rfl).keep hF (t := 8) rfl).keep hF (t := 5) rfl).keep hF (t := 4) rfl).keep hF (t := 2) rfl).keep hF (t := 1) rfl).keepE hF (t := 24) rfl (wk (by omega))), by omega⟩
  have hfree := mayGo_free c33
  have hls := left_set hfree.2.2
  have hcnt2 := (explains_cnt (c := c) (m := m) (e := (at0 es (k : Int)))).2
  refine wp_skip <| hK11 _ _ <| ws fun K13 hK13 => gB 1 2 hF hS rfl rfl rfl fun a hF => gB 1 1 hF hS rfl rfl rfl fun a hF => gB 1 0 hF hS rfl rfl rfl fun a hF => ?_
  refine wl_mk hF hS rfl rfl rfl (r_call3 en29 (hF.ev rfl) (hF.ev rfl) (hF.ev rfl)) (implExplains_c (hS.part_k (i := 4) rfl) (by omega)) ?_; rintro vs38 w8 a hS_ hF; replace hS := hS_; clear hS_; dsimp only [List.cons_append, List.nil_append] at hS
  refine ga 3 hF rfl fun a hF => wl_alloc hF hS rfl zr36 fun g4 w9 a hS _ hF => ww 0 hF hS rfl rfl rfl rfl rfl rfl fun w10 hS => ge hK13 hF rfl fun a hF => wp_seq_k fun K14 hK14 => rg hF rfl fun a hF => cx 42 hF rfl (fun c42 hF => ?_) fun c42 hF => ?_
  ·
   have hnone := try_none2 (used := used) (order := order) c42
   refine wp_exit ?_
   refine xt ?_
   refine hK9 _ _ <| rl hF rfl fun a hF => ?_
   refine xt ?_
   refine ⟨k + 1, ⟨by omega, some_next hf hlt hnone⟩, (hS.pm 8 [3, 4, 5, 6, 7] rfl), ((((((((((hF.nil.keep hF (t := 23) rfl).keep hF (t := 22) rfl).keep hF (t := 11) rfl).keep hF (t := 10) rfl).keep hF (t := 8) rfl).keep hF (t := 5) rfl).keep hF (t := 4) rfl).keep hF (t := 2) rfl).keep hF (t := 1) rfl).keepE hF (t := 24) rfl (wk (by omega))), by omega⟩
  refine wp_skip <| hK14 _ _ <| ws fun K16 hK16 => ga 2 hF rfl fun a hF => ?_
  obtain ⟨g45, o45, m45, q45, hv45, hm45, hl45, hc45⟩ := Rd.atF ((hS.own_rd (i := 5) rfl)) (a := a) (X := .tmp 44) (hF.ev rfl) (by omega) (by omega)
  refine wl hF rfl rfl rfl (r_index sl50 ((hF.ev rfl).trans hv45) (hF.ev rfl) (by omega) (by first | omega | (simp at hm45; omega))) fun a hF => ?_
  refine wl_tstore (q := 5) hF hS rfl hv45 (by omega) (by omega) sz4 (hF.ev rfl) rfl ec fun w11 hS => ?_; dsimp only [List.set] at hS
  refine wl_nil <| hK16 _ _ <| wp_seq_k fun K17 hK17 => wp_seq_k fun K18 hK18 => ?_
  refine wp_region_todo (is := [0, 1, 2, 3, 4, 6, 5, 7, 8, 9, 10, 11, 12, 13, 14]) [] [9] (by kernel_rfl) hF hS ⟨trivial, by decide, by decide, by decide⟩ (by kernel_rfl) ?_; intro hl_ wd hSd
  refine todo_load [9, 10, 11, 12, 13, 14] hl_ (by kernel_rfl) rfl (gw0 rfl) rfl rfl rfl (fun a w_ hF hB_ => r_loadn ag25 (hF.ev rfl) ((hSd.ext hB_).box_rd (i := 4) rfl) sz25) <| tp 2 hl_ rfl <| todo_load [9, 10, 11, 12, 13, 14] hl_ (by kernel_rfl) rfl (gw0 rfl) rfl rfl rfl (fun a w_ hF hB_ => r_loadn ag36 (hF.ev rfl) ((hSd.ext hB_).box_rd (i := 0) rfl) sz36) <| tp 2 hl_ rfl <| todo_fork [(5, [7, 8, 9, 10, 11, 12, 13, 14]), (7, [5, 8, 9, 10, 11, 12, 13, 14])] hl_ rfl (by kernel_rfl) (List.forall_mem_cons.2 ⟨?_, List.forall_mem_cons.2 ⟨?_, fun _ h_ => nomatch h_⟩⟩)
  ·
   refine op_mkF rfl rfl (gw0 rfl) rfl rfl rfl (fun a w_ hF => r_call1 en47 (hF.ev rfl)) (fun w_ hS => cloneI_c (hS.own_rd (i := 7) rfl) (by omega)) ?_; rintro s52
   refine todo_op hl_ rfl (by kernel_rfl) rfl rfl rfl rfl rfl (fun a w_ hF hS => r_bslice intEK [vi (k : Int)] [(k : Int)] rfl mk29 rfl ⟨rfl, (hF.ev rfl), trivial⟩ rfl rfl rfl rfl) ?_; intro gl_54
   refine todo_apF hl_ rfl (by kernel_rfl) rfl rfl rfl rfl (j := 1) rfl (fun w_ hS => (hS.own_rd (i := 0) rfl)) mk29 rfl (fun a hF => (hF.ev rfl)) (fun a hF => (hF.ev rfl)) (by simp; omega) (by first | (simp; omega) | (unfold maxLen; simp; omega)) ?_; intro A_55 c_55
   refine todo_fork [(9, [10, 11, 12, 13, 14])] hl_ rfl (by kernel_rfl) (List.forall_mem_cons.2 ⟨?_, fun _ h_ => nomatch h_⟩)
   ·
    refine op_mc (m' := []) rfl (gw0 rfl) rfl rfl rfl (fun a w_ hF => r_call5 en24 (hF.ev rfl) (hF.ev rfl) (hF.ev rfl) (hF.ev rfl) (hF.ev rfl)) (fun w_ hS => ih _ (show left (used.set k true) < n by omega) _ _ _ c _ _ _ es (used.set k true) (explains c m (at0 es (k : Int))).1 _ (order ++ [(k : Int)]) ha (Sep.headp (A := [_, _, _, _, _, _, _, _, _, _]) (B := [_, _, _, _, _, _, _, _, _, _]) (hS.unabove (i := 1) rfl) [7, 3, 1, 0, 2, 4, 5, 6, 8, 9] (by decide) rfl rfl) (by simp only [List.length_set]; omega) h10 (by rw [explains_vals]; exact hvl) (by simp only [List.length_append, List.length_cons, List.length_nil]; omega) (by simp only [List.length_append, List.length_cons, List.length_nil]; omega) rfl) ?_; intro z; try clear hSd; try clear wd; intro wd hSd
    refine tp 5 hl_ rfl ?_
    refine todo_fin hl_ rfl (by kernel_rfl) (tl := []) rfl ?_; intro a w14 hF hA_
    have hS := hA_.sep; clear hA_
    clear hl_; try clear hSd
    try dsimp only [List.cons_append, List.nil_append, List.set] at hS
    try clear wd
    refine wl_nil ⟨rfl, ?_⟩
    refine hK18 _ _ <| rg hF rfl fun a hF => cx 59 hF rfl (fun c59 hF => ?_) fun c59 hF => ?_
    ·
     obtain ⟨r_, hr_⟩ := Option.isSome_iff_exists.1 c59
     have hfin : search c es (left used) used m order = some r_ := by rw [search_eq, if_neg (by rw [c20]; decide)]; exact some_hit hf hlt ((try_go c33 c42).trans hr_)
     rw [hr_] at hS; dsimp only [extRes, List.cons_append, List.nil_append] at hS
     refine rg hF rfl fun a hF => ?_
     refine xr ?_
     first
       | (have hfin : search c es (left used) used m order = some order := by rw [search_eq, if_pos c20]
          refine ret2 rfl hF rfl rfl ⟨zo, by rw [hfin]; rfl, ?_⟩; rw [hfin]; exact hS.pm 8 [7] rfl)
       | (refine ret2 rfl hF rfl rfl ⟨z, by rw [hfin]; rfl, ?_⟩; rw [hfin]; exact hS.pm 8 [0] rfl)
       | (have hfin : search c es (left used) used m order = none := by rw [search_eq, if_neg (by rw [c20]; decide)]; exact some_done hf (by omega)
          refine ret2 rfl hF rfl rfl ⟨(none, 0, 0), by rw [hfin]; rfl, ?_⟩; rw [hfin]; exact Sep.headp (A := [_, _, _, _, _, _, _, _, _]) (B := [_, _, _, _]) (hS.own_nil intEK) [99 + 1, 6 + 1, 7 + 1, 0] (by decide) rfl rfl)
    have hno_ : search c es (left (used.set k true)) (used.set k true) (explains c m (at0 es (k : Int))).1 (order ++ [(k : Int)]) = none := Option.isNone_iff_eq_none.1 (by simpa using c59)
    have hnone : tryOne c es used m order k = none := (try_go c33 c42).trans hno_
    rw [hno_] at hS; dsimp only [extRes, List.cons_append, List.nil_append] at hS
    refine wp_skip <| hK17 _ _ <| wp_region_lit <| ga 2 hF rfl fun a hF => ?_
    obtain ⟨g63, o63, m63, q63, hv63, hm63, hl63, hc63⟩ := Rd.atF ((hS.own_rd (i := 0) rfl)) (a := a) (X := .tmp 62) (hF.ev rfl) (by omega) (by simp only [List.length_set]; omega)
    refine wl hF rfl rfl rfl (r_index sl50 ((hF.ev rfl).trans hv63) (hF.ev rfl) (by omega) (by first | omega | (simp at hm63; omega))) fun a hF => ?_
    refine wl_tstore (q := 0) hF hS rfl hv63 (by omega) (by omega) sz4 (hF.ev rfl) rfl ec fun w15 hS => ?_; dsimp only [List.set] at hS
    refine wl_nil ?_
    refine xt ?_
    refine hK9 _ _ <| rl hF rfl fun a hF => ?_
    refine xt ?_
    rw [Int.toNat_natCast, set_back hfree.2.2] at hS
    refine ⟨k + 1, ⟨by omega, some_next hf hlt hnone⟩, (hS.pm 11 [7, 8, 0, 9, 10] rfl), ((((((((((hF.nil.keep hF (t := 23) rfl).keep hF (t := 22) rfl).keep hF (t := 11) rfl).keep hF (t := 10) rfl).keep hF (t := 8) rfl).keep hF (t := 5) rfl).keep hF (t := 4) rfl).keep hF (t := 2) rfl).keep hF (t := 1) rfl).keepE hF (t := 24) rfl (wk (by omega))), by omega⟩
  ·
   refine op_op rfl rfl (gw0 rfl) rfl rfl rfl (fun a w_ hF hS => r_bslice intEK [vi (k : Int)] [(k : Int)] rfl mk29 rfl ⟨rfl, (hF.ev rfl), trivial⟩ rfl rfl rfl rfl) ?_; intro gl_54
   refine todo_mkF hl_ rfl (by kernel_rfl) rfl (gw0 rfl) rfl rfl rfl (fun a w_ hF => r_call1 en47 (hF.ev rfl)) (fun w_ hS => cloneI_c (hS.own_rd (i := 8) rfl) (by omega)) ?_; rintro s52
   refine todo_apF hl_ rfl (by kernel_rfl) rfl rfl rfl rfl (j := 0) rfl (fun w_ hS => (hS.own_rd (i := 1) rfl)) mk29 rfl (fun a hF => (hF.ev rfl)) (fun a hF => (hF.ev rfl)) (by simp; omega) (by first | (simp; omega) | (unfold maxLen; simp; omega)) ?_; intro A_55 c_55
   refine todo_fork [(9, [10, 11, 12, 13, 14])] hl_ rfl (by kernel_rfl) (List.forall_mem_cons.2 ⟨?_, fun _ h_ => nomatch h_⟩)
   ·
    refine op_mc (m' := []) rfl (gw0 rfl) rfl rfl rfl (fun a w_ hF => r_call5 en24 (hF.ev rfl) (hF.ev rfl) (hF.ev rfl) (hF.ev rfl) (hF.ev rfl)) (fun w_ hS => ih _ (show left (used.set k true) < n by omega) _ _ _ c _ _ _ es (used.set k true) (explains c m (at0 es (k : Int))).1 _ (order ++ [(k : Int)]) ha (Sep.headp (A := [_, _, _, _, _, _, _, _, _, _]) (B := [_, _, _, _, _, _, _, _, _, _]) (hS.unabove (i := 0) rfl) [7, 3, 0, 1, 2, 4, 5, 6, 8, 9] (by decide) rfl rfl) (by simp only [List.length_set]; omega) h10 (by rw [explains_vals]; exact hvl) (by simp only [List.length_append, List.length_cons, List.length_nil]; omega) (by simp only [List.length_append, List.length_cons, List.length_nil]; omega) rfl) ?_; intro z; try clear hSd; try clear wd; intro wd hSd
    refine tp 5 hl_ rfl ?_
    refine todo_fin hl_ rfl (by kernel_rfl) (tl := []) rfl ?_; intro a w18 hF hA_
    have hS := hA_.sep; clear hA_
    clear hl_; try clear hSd
    try dsimp only [List.cons_append, List.nil_append, List.set] at hS
    try clear wd
    refine wl_nil ⟨rfl, ?_⟩
    refine hK18 _ _ <| rg hF rfl fun a hF => cx 59 hF rfl (fun c59 hF => ?_) fun c59 hF => ?_
    ·
     obtain ⟨r_, hr_⟩ := Option.isSome_iff_exists.1 c59
     have hfin : search c es (left used) used m order = some r_ := by rw [search_eq, if_neg (by rw [c20]; decide)]; exact some_hit hf hlt ((try_go c33 c42).trans hr_)
     rw [hr_] at hS; dsimp only [extRes, List.cons_append, List.nil_append] at hS
     refine rg hF rfl fun a hF => ?_
     refine xr ?_
     first
       | (have hfin : search c es (left used) used m order = some order := by rw [search_eq, if_pos c20]
          refine ret2 rfl hF rfl rfl ⟨zo, by rw [hfin]; rfl, ?_⟩; rw [hfin]; exact hS.pm 8 [7] rfl)
       | (refine ret2 rfl hF rfl rfl ⟨z, by rw [hfin]; rfl, ?_⟩; rw [hfin]; exact hS.pm 8 [0] rfl)
       | (have hfin : search c es (left used) used m order = none := by rw [search_eq, if_neg (by rw [c20]; decide)]; exact some_done hf (by omega)
          refine ret2 rfl hF rfl rfl ⟨(none, 0, 0), by rw [hfin]; rfl, ?_⟩; rw [hfin]; exact Sep.headp (A := [_, _, _, _, _, _, _, _, _]) (B := [_, _, _, _]) (hS.own_nil intEK) [99 + 1, 6 + 1, 7 + 1, 0] (by decide) rfl rfl)
    have hno_ : search c es (left (used.set k true)) (used.set k true) (explains c m (at0 es (k : Int))).1 (order ++ [(k : Int)]) = none := Option.isNone_iff_eq_none.1 (by simpa using c59)
    have hnone : tryOne c es used m order k = none := (try_go c33 c42).trans hno_
    rw [hno_] at hS; dsimp only [extRes, List.cons_append, List.nil_append] at hS
    refine wp_skip <| hK17 _ _ <| wp_region_lit <| ga 2 hF rfl fun a hF => ?_
    obtain ⟨g63, o63, m63, q63, hv63, hm63, hl63, hc63⟩ := Rd.atF ((hS.own_rd (i := 0) rfl)) (a := a) (X := .tmp 62) (hF.ev rfl) (by omega) (by simp only [List.length_set]; omega)
    refine wl hF rfl rfl rfl (r_index sl50 ((hF.ev rfl).trans hv63) (hF.ev rfl) (by omega) (by first | omega | (simp at hm63; omega))) fun a hF => ?_
    refine wl_tstore (q := 0) hF hS rfl hv63 (by omega) (by omega) sz4 (hF.ev rfl) rfl ec fun w19 hS => ?_; dsimp only [List.set] at hS
    refine wl_nil ?_
    refine xt ?_
    refine hK9 _ _ <| rl hF rfl fun a hF => ?_
    refine xt ?_
    rw [Int.toNat_natCast, set_back hfree.2.2] at hS
    refine ⟨k + 1, ⟨by omega, some_next hf hlt hnone⟩, (hS.pm 11 [7, 8, 0, 9, 10] rfl), ((((((((((hF.nil.keep hF (t := 23) rfl).keep hF (t := 22) rfl).keep hF (t := 11) rfl).keep hF (t := 10) rfl).keep hF (t := 8) rfl).keep hF (t := 5) rfl).keep hF (t := 4) rfl).keep hF (t := 2) rfl).keep hF (t := 1) rfl).keepE hF (t := 24) rfl (wk (by omega))), by omega⟩
 refine wp_exit ?_
 refine xt ?_
 refine hK5 _ _ <| rg hF rfl fun a hF => ?_
 refine xr ?_
 first
   | (have hfin : search c es (left used) used m order = some order := by rw [search_eq, if_pos c20]
      refine ret2 rfl hF rfl rfl ⟨zo, by rw [hfin]; rfl, ?_⟩; rw [hfin]; exact hS.pm 5 [4] rfl)
   | (refine ret2 rfl hF rfl rfl ⟨z, by rw [hfin]; rfl, ?_⟩; rw [hfin]; exact hS.pm 5 [99] rfl)
   | (have hfin : search c es (left used) used m order = none := by rw [search_eq, if_neg (by rw [c20]; decide)]; exact some_done hf (by omega)
      refine ret2 rfl hF rfl rfl ⟨(none, 0, 0), by rw [hfin]; rfl, ?_⟩; rw [hfin]; exact Sep.headp (A := [_, _, _, _, _, _]) (B := [_, _, _, _]) (hS.own_nil intEK) [2 + 1, 3 + 1, 4 + 1, 0] (by decide) rfl rfl)
theorem extend_all : ∀ n, ExtI n := fun n => Nat.strongRecOn n fun n ih => by
  intro W w l c va vb vo es used m vs order h1 h2 h3 h4 h5 h6 h7 h8
  exact extend_step ih h1 h2 h3 h4 h5 h6 h7 h8
set_option maxRecDepth 20000
theorem implLinearize_c {W : World} {c : Config} {va : Value} {es : List Sl.Event} (ha : eventEK.Rd W va es) : Calls Tryz.prog 6 #[.agg c.enc.toArray, va] W (Ret (Mk W (fun z : Slv => .tuple #[sv z, .bool (linearize c es).isSome]) (fun z => [Own intEK (sv z) ((linearize c es).getD [])]))) := by
 refine cfr Tryz.func6 Tryz.ntmps6 fun a hF => ?_
 have hS := Sep.refl W
 obtain ⟨A_a, q_a, rfl, hq_a, hn_a⟩ := ha.sl; unfold maxLen at hn_a
 have hnm := (newModel_cnt c).2
 have hnv := model_vals (newModel c)
 have hlr := left_rep es.length
 refine ws fun K1 hK1 => wl_box (cs := [_, _, _, _, _, _]) hF hS rfl (hF.ev rfl) rfl fun g1 w1 a hS _ hF => ge hK1 hF rfl fun a hF => wp_seq_k fun K2 hK2 => ws fun K3 hK3 => gB 1 0 hF hS rfl rfl rfl fun a hF => ckr hF hS rfl (implIsConfig_c _) fun w2 a hS hF => ?_
 refine ga 2 hF rfl fun a hF => ?_
 apply wo 4 9 13 hF hS
 ·
  intro hg9 a hF
  exact je 4 hF hS rfl rfl rfl rfl
 intro a w3 hF hS
 refine wl_nil <| hK3 _ _ <| cx 13 hF rfl (fun c13 hF => ?_) fun c13 hF => ?_
 ·
  refine rg hF rfl fun a hF => ?_
  refine xr ?_
  first
    | (have e := lin_no c13
       refine ret2 rfl hF rfl rfl ⟨(none, 0, 0), by rw [e]; rfl, ?_⟩; rw [e]; exact (hS.own_nil intEK).pick [0] (by decide) rfl)
    | (have e := lin_yes (es := es) ⟨c13.1, by omega⟩
       refine ret2 rfl hF rfl rfl ⟨z, by rw [e]; rfl, ?_⟩
       rw [e]
       cases hr_ : search c es (left (List.replicate es.length false)) (List.replicate es.length false) (newModel c) [] with
       | none => rw [hr_] at hS; exact hS.pick [3] (by decide) rfl
       | some out => rw [hr_] at hS; exact hS.pick [0] (by decide) rfl)
 replace hS := hS.own_nil intEK
 refine wp_skip <| hK2 _ _ <| wp_seq_k fun K5 hK5 => ?_
 refine wp_region_todo (is := [0, 1, 2, 3, 5, 4, 6, 7, 8, 9, 10, 11]) [] [7] (by kernel_rfl) hF hS ⟨trivial, by decide, by decide, by decide⟩ (by kernel_rfl) ?_; intro hl_ wd hSd
 refine todo_load [7, 8, 9, 10, 11] hl_ (by kernel_rfl) rfl (gw0 rfl) rfl rfl rfl (fun a w_ hF hB_ => r_loadn ag25 (hF.ev rfl) ((hSd.ext hB_).box_rd (i := 1) rfl) sz25) <| tp 3 hl_ rfl <| todo_load [6, 7, 8, 9, 10, 11] hl_ (by kernel_rfl) rfl (gw0 rfl) rfl rfl rfl (fun a w_ hF hB_ => r_loadn ag25 (hF.ev rfl) ((hSd.ext hB_).box_rd (i := 1) rfl) sz25) <| todo_fork [(4, [6, 7, 8, 9, 10, 11]), (6, [4, 7, 8, 9, 10, 11])] hl_ rfl (by kernel_rfl) (List.forall_mem_cons.2 ⟨?_, List.forall_mem_cons.2 ⟨?_, fun _ h_ => nomatch h_⟩⟩)
 ·
  refine op_op rfl rfl (gw0 rfl) rfl rfl rfl (fun a w_ hF hS => r_make0 boolEK false [] mk50 rfl (fun _ => Sat.nil _ _) (hF.ev rfl) (by omega) (by unfold maxLen; omega)) ?_; intro gm_18
  refine todo_mk hl_ rfl (by kernel_rfl) rfl rfl rfl rfl rfl (fun a w_ hF => r_call1 en25 (hF.ev rfl)) (fun w_ hS => implNewModel_c _) ?_; rintro vs20
  refine todo_fork [(7, [8, 9, 10, 11])] hl_ rfl (by kernel_rfl) (List.forall_mem_cons.2 ⟨?_, fun _ h_ => nomatch h_⟩)
  ·
   refine op_mc (m' := []) rfl (gw0 rfl) rfl rfl rfl (fun a w_ hF => r_call5 en24 (hF.ev rfl) (hF.ev rfl) (hF.ev rfl) (hF.ev rfl) ec) (fun w_ hS => extend_all _ _ _ _ c _ _ _ es (List.replicate es.length false) (newModel c) _ [] ha (Sep.headp (A := [_, _, _, _]) (B := [_, _, _, _]) (l := []) hS [1, 0, 2, 3] (by decide) rfl rfl) (by simp) (by omega) (by omega) (by simp only [List.length_nil]; omega) (by simp only [List.length_nil]; omega) rfl) ?_; intro z; try clear hSd; try clear wd; intro wd hSd
   refine tp 4 hl_ rfl ?_
   refine todo_fin hl_ rfl (by kernel_rfl) (tl := []) rfl ?_; intro a w5 hF hA_
   have hS := hA_.sep; clear hA_
   clear hl_; try clear hSd
   try dsimp only [List.cons_append, List.nil_append, List.set] at hS
   try clear wd
   refine wl_nil ⟨rfl, ?_⟩
   refine hK5 _ _ ?_
   refine xr ?_
   first
     | (have e := lin_no c13
        refine ret2 rfl hF rfl rfl ⟨(none, 0, 0), by rw [e]; rfl, ?_⟩; rw [e]; exact (hS.own_nil intEK).pick [0] (by decide) rfl)
     | (have e := lin_yes (es := es) ⟨c13.1, by omega⟩
        refine ret2 rfl hF rfl rfl ⟨z, by rw [e]; rfl, ?_⟩
        rw [e]
        cases hr_ : search c es (left (List.replicate es.length false)) (List.replicate es.length false) (newModel c) [] with
        | none => rw [hr_] at hS; exact hS.pick [3] (by decide) rfl
        | some out => rw [hr_] at hS; exact hS.pick [0] (by decide) rfl)
 ·
  refine op_mk rfl rfl (gw0 rfl) rfl rfl rfl (fun a w_ hF => r_call1 en25 (hF.ev rfl)) (fun w_ hS => implNewModel_c _) ?_; rintro vs20
  refine todo_op hl_ rfl (by kernel_rfl) rfl rfl rfl rfl rfl (fun a w_ hF hS => r_make0 boolEK false [] mk50 rfl (fun _ => Sat.nil _ _) (hF.ev rfl) (by omega) (by unfold maxLen; omega)) ?_; intro gm_18
  refine todo_fork [(7, [8, 9, 10, 11])] hl_ rfl (by kernel_rfl) (List.forall_mem_cons.2 ⟨?_, fun _ h_ => nomatch h_⟩)
  ·
   refine op_mc (m' := []) rfl (gw0 rfl) rfl rfl rfl (fun a w_ hF => r_call5 en24 (hF.ev rfl) (hF.ev rfl) (hF.ev rfl) (hF.ev rfl) ec) (fun w_ hS => extend_all _ _ _ _ c _ _ _ es (List.replicate es.length false) (newModel c) _ [] ha (Sep.headp (A := [_, _, _, _]) (B := [_, _, _, _]) (l := []) hS [0, 1, 2, 3] (by decide) rfl rfl) (by simp) (by omega) (by omega) (by simp only [List.length_nil]; omega) (by simp only [List.length_nil]; omega) rfl) ?_; intro z; try clear hSd; try clear wd; intro wd hSd
   refine tp 4 hl_ rfl ?_
   refine todo_fin hl_ rfl (by kernel_rfl) (tl := []) rfl ?_; intro a w7 hF hA_
   have hS := hA_.sep; clear hA_
   clear hl_; try clear hSd
   try dsimp only [List.cons_append, List.nil_append, List.set] at hS
   try clear wd
   refine wl_nil ⟨rfl, ?_⟩
   refine hK5 _ _ ?_
   refine xr ?_
   first
     | (have e := lin_no c13
        refine ret2 rfl hF rfl rfl ⟨(none, 0, 0), by rw [e]; rfl, ?_⟩; rw [e]; exact (hS.own_nil intEK).pick [0] (by decide) rfl)
     | (have e := lin_yes (es := es) ⟨c13.1, by omega⟩
        refine ret2 rfl hF rfl rfl ⟨z, by rw [e]; rfl, ?_⟩
        rw [e]
        cases hr_ : search c es (left (List.replicate es.length false)) (List.replicate es.length false) (newModel c) [] with
        | none => rw [hr_] at hS; exact hS.pick [3] (by decide) rfl
        | some out => rw [hr_] at hS; exact hS.pick [0] (by decide) rfl)
theorem implIsLin_c {W : World} {c : Config} {va : Value} {es : List Sl.Event} (ha : eventEK.Rd W va es) : Calls Tryz.prog 9 #[.agg c.enc.toArray, va] W (Ret fun v w' => v = .bool (linearize c es).isSome ∧ Below W.heap.size W w') := by
 refine cfr Tryz.func9 Tryz.ntmps9 fun a hF => ?_
 have hS := Sep.refl W
 refine ws fun K1 hK1 => wl_box (cs := [_, _, _, _, _, _]) hF hS rfl (hF.ev rfl) rfl fun g1 w1 a hS _ hF => ge hK1 hF rfl fun a hF => ws fun K2 hK2 => gB 2 0 hF hS rfl rfl rfl fun a hF => ?_
 refine wl_mk hF hS rfl rfl rfl (r_call2 en6 (hF.ev rfl) (hF.ev rfl)) (implLinearize_c (hS.rd ha)) ?_; rintro s10 w2 a hS_ hF; replace hS := hS_; clear hS_; dsimp only [List.cons_append, List.nil_append] at hS
 refine ge hK2 hF rfl fun a hF => rg hF rfl fun a hF => ?_
 refine xr ?_
 exact ret1 rfl hF rfl ⟨rfl, hS.old⟩
end Go.Proofs.YtbgacfdnmbhloaaGreat.Wk
