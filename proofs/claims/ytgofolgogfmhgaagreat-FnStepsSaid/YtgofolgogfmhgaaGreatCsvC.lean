/- Lemmas for the row of RwSs2. -/
import Derived.Test.YtgofolgogfmhgaaGreatCsvB
set_option maxHeartbeats 4000000
set_option maxRecDepth 20000
namespace Go.Proofs.YtgofolgogfmhgaaGreat.Wk
open Go Go.RowKit Sl
set_option linter.unusedVariables false
set_option linter.unusedSimpArgs false
set_option maxRecDepth 20000
theorem specIsState_c {W : World} {s : Sl.State} {cs : List Value} (hm : stateEK.K W s cs) (hw : s.wf) (hz : (s.size : Int) ≤ 1048576) : Calls Tryz.prog 45 #[.agg cs.toArray] W (Ret fun v w' => v = .bool (stateOk s) ∧ Below W.heap.size W w') := by
 refine cfr Tryz.func45 Tryz.ntmps45 fun a hF => ?_
 have hS := Sep.refl W
 obtain ⟨v0, v1, v2, rfl, r0, r1, r2⟩ := hm
 obtain ⟨A_a, q_a, rfl, hq_a, hn_a⟩ := r0.sl; unfold maxLen at hn_a
 obtain ⟨A_b, q_b, rfl, hq_b, hn_b⟩ := r1.sl; unfold maxLen at hn_b
 obtain ⟨A_c, q_c, rfl, hq_c, hn_c⟩ := r2.sl; unfold maxLen at hn_c
 obtain ⟨wcfg, wcells, wgens, wthr, wsteps, wchanges, wretries, wfaults⟩ := hw
 have hz1 := hz; unfold Sl.State.size at hz1
 refine ws fun K1 hK1 => wl_box (cs := [_, _, _, _, _, _, _, _, _, _, _, _, _]) hF hS rfl (hF.ev rfl) rfl fun g1 w1 a hS _ hF => ge hK1 hF rfl fun a hF => wp_seq_k fun K2 hK2 => wp_seq_k fun K3 hK3 => wp_region_calm (by kernel_rfl) (by kernel_rfl) <| qa 1 hF tk rfl fun a hF => ?_
 refine wq hF rfl rfl rfl (fun w_ hB_ => r_loadn ag25 (hF.ev rfl) ((hS.ext hB_).boxn (vs := [_, _, _, _, _, _]) (i := 0) (m := 6) rfl rfl) sz25) fun a hF => qk hF rfl (fun w_ hB_ => specIsConfig_c _) fun a hF => qa 2 hF tk rfl fun a hF => ?_
 apply wq_or (A := [_, _, _, _, _, _, _, _]) (pk := 20) hF (tc := 12) rfl
 ·
  intro hg12 a hF; try simp only [zb] at hg12
  refine qb 4 0 hF tk hS rfl rfl rfl fun a hF => wq_take hF rfl rfl rfl rfl <| wq hF rfl rfl rfl (fun w_ hB_ => r_loadn ag25 (hF.ev rfl) ((hS.ext hB_).boxn (vs := [_, _, _, _, _, _]) (i := 0) (m := 6) rfl rfl) sz25) fun a hF => qk hF rfl (fun w_ hB_ => specCellCount_c _) fun a hF => qa 2 hF tk rfl fun a hF => ?_
  exact wpQuiet_nil ((Fr.pre (A := [_, _, _, _, _, _, _, _]) hF rfl).keep hF (t := 20) rfl)
 ·
  intro hg12 a hF; try simp only [zb] at hg12
  refine qa 8 hF tk rfl fun a hF => ?_
  exact wpQuiet_nil ((Fr.pre (A := [_, _, _, _, _, _, _, _]) hF rfl).keep hF (t := 20) rfl)
 intro a hF
 refine qa 1 hF tk rfl fun a hF => ?_
 apply wq_or (A := [_, _, _, _, _, _, _, _]) (pk := 29) hF (tc := 21) rfl
 ·
  intro hg21 a hF; try simp only [zb] at hg21
  refine qb 8 0 hF tk hS rfl rfl rfl fun a hF => ?_
  exact wpQuiet_nil ((Fr.pre (A := [_, _, _, _, _, _, _, _]) hF rfl).keep hF (t := 29) rfl)
 ·
  intro hg21 a hF; try simp only [zb] at hg21
  refine qa 8 hF tk rfl fun a hF => ?_
  exact wpQuiet_nil ((Fr.pre (A := [_, _, _, _, _, _, _, _]) hF rfl).keep hF (t := 29) rfl)
 intro a hF
 refine qa 1 hF tk rfl fun a hF => ?_
 apply wq_or (A := [_, _, _, _, _, _, _, _]) (pk := 38) hF (tc := 30) rfl
 ·
  intro hg30 a hF; try simp only [zb] at hg30
  refine qb 8 0 hF tk hS rfl rfl rfl fun a hF => ?_
  exact wpQuiet_nil ((Fr.pre (A := [_, _, _, _, _, _, _, _]) hF rfl).keep hF (t := 38) rfl)
 ·
  intro hg30 a hF; try simp only [zb] at hg30
  refine qa 8 hF tk rfl fun a hF => ?_
  exact wpQuiet_nil ((Fr.pre (A := [_, _, _, _, _, _, _, _]) hF rfl).keep hF (t := 38) rfl)
 intro a hF
 refine wpQuiet_nil ?_; intro w5 hB_; have hS := hS.ext hB_
 refine hK3 _ _ <| cx 38 hF rfl (fun c38 hF => ?_) fun c38 hF => ?_
 ·
  refine rg hF rfl fun a hF => ?_
  refine xr ?_
  refine ret1 rfl hF rfl ⟨congrArg Value.bool (Eq.symm ?_), hS.old⟩
  first
    | exact st_gens (range_no (by omega) (decide_eq_false c52))
    | exact st_threads (all_no hx c68)
    | exact st_heads (range_no (k := k) (by omega) (isLink_zero.trans (Bool.and_eq_false_iff.2 (c92.imp_right (fun e => by rw [e]; rfl)))))
    | exact st_nodes (range_no (k := k) (by omega) (Bool.and_eq_false_iff.2 (c123.imp_right (fun e => decide_eq_false e))))
    | exact st_shape fun h => by
        unfold shapeOk at h
        rcases c38 with ((c | c) | c) | c
        · exact c h.1
        · exact c h.2.1
        · exact c h.2.2.1
        · exact c h.2.2.2
    | (rw [st_yes ⟨hok, hl1, hl2, hl3⟩ (all_done hg (by rw [List.length_range]; omega)) (all_done hn (by rw [List.length_range]; omega)) (all_done hv (by rw [List.length_range]; omega)), all_done ht (by omega), Bool.true_and, Bool.eq_iff_iff]
       simp only [Bool.and_eq_true, decide_eq_true_eq]
       unfold countsOk
       simp only [and_assoc])
 obtain ⟨⟨⟨hok, hl1⟩, hl2⟩, hl3⟩ := c38
 have hb := hok; unfold Config.ok at hb
 have hcc := cellCount_eq hok
 refine wp_skip <| hK2 _ _ <| wp_seq_k fun K5 hK5 => rg hF rfl fun a hF => wp_block ?_
 have hL_ := ((hF.nil.keep hF (t := 2) rfl).keep hF (t := 1) rfl)
 refine wp_loop_r (σ := Nat) (fun k L_ => (3, vi k) :: L_) (fun k => (k ≤ s.generations.length) ∧ (((List.range s.config.capacity.toNat).take k).all (fun k => decide (0 ≤ at0 s.generations (k : Int) ∧ at0 s.generations (k : Int) ≤ 9998)) = true)) (fun k => s.generations.length - k) 0 hS (hL_.keepE hF (t := 3) rfl rfl) ?_ ?_
 · exact ⟨Nat.zero_le _, rfl⟩
 rintro k a w6 ⟨hk, hg⟩ hS hF; try dsimp only at hF; try dsimp only at hS
 refine wp_seq_k fun K7 hK7 => rh 0 hF hS rfl rfl rfl fun a hF => cx 43 hF rfl (fun c43 hF => ?_) fun c43 hF => ?_
 ·
  refine wp_skip <| hK7 _ _ <| wp_seq_k fun K9 hK9 => wp_block <| ws fun K10 hK10 => gb 3 0 hF hS rfl rfl rfl fun a hF => ?_
  obtain ⟨g49, o49, m49, q49, hv49, hm49, hl49, hc49⟩ := Rd.atF (r1) (a := a) (X := .tmp 48) (hF.ev rfl) (by omega) (by omega)
  refine wl hF rfl rfl rfl (r_index sl26 ((hF.ev rfl).trans hv49) (hF.ev rfl) (by omega) (by first | omega | (simp at hm49; omega))) fun a hF => ?_
  refine wl hF rfl rfl rfl (r_load1 sc3 (hF.ev rfl) (cellB hS.old (hc49 0 _ rfl))) fun a hF => ckr hF hS rfl (l1In_c _ _ _) fun w7 a hS hF => ge hK10 hF rfl fun a hF => cx 52 hF rfl (fun c52 hF => ?_) fun c52 hF => ?_
  ·
   refine rg hF rfl fun a hF => ?_
   refine xr ?_
   refine ret1 rfl hF rfl ⟨congrArg Value.bool (Eq.symm ?_), hS.old⟩
   first
     | exact st_gens (range_no (by omega) (decide_eq_false c52))
     | exact st_threads (all_no hx c68)
     | exact st_heads (range_no (k := k) (by omega) (isLink_zero.trans (Bool.and_eq_false_iff.2 (c92.imp_right (fun e => by rw [e]; rfl)))))
     | exact st_nodes (range_no (k := k) (by omega) (Bool.and_eq_false_iff.2 (c123.imp_right (fun e => decide_eq_false e))))
     | exact st_shape fun h => by
         unfold shapeOk at h
         rcases c38 with ((c | c) | c) | c
         · exact c h.1
         · exact c h.2.1
         · exact c h.2.2.1
         · exact c h.2.2.2
     | (rw [st_yes ⟨hok, hl1, hl2, hl3⟩ (all_done hg (by rw [List.length_range]; omega)) (all_done hn (by rw [List.length_range]; omega)) (all_done hv (by rw [List.length_range]; omega)), all_done ht (by omega), Bool.true_and, Bool.eq_iff_iff]
        simp only [Bool.and_eq_true, decide_eq_true_eq]
        unfold countsOk
        simp only [and_assoc])
  refine wp_skip ?_
  refine xt ?_
  refine hK9 _ _ <| rl hF rfl fun a hF => ?_
  refine xt ?_
  refine ⟨k + 1, ⟨by omega, all_nxt hg (range_at (by omega)) (decide_eq_true c52)⟩, hS, (((hF.nil.keep hF (t := 2) rfl).keep hF (t := 1) rfl).keepE hF (t := 3) rfl (wk (by omega))), by omega⟩
 refine wp_exit ?_
 refine xt ?_
 refine hK5 _ _ <| wp_seq_k fun K12 hK12 => rg hF rfl fun a hF => wp_block ?_
 have hL_ := ((hF.nil.keep hF (t := 2) rfl).keep hF (t := 1) rfl)
 refine wp_loop_r (σ := Nat) (fun k L_ => (4, vi k) :: L_) (fun k => (k ≤ s.threads.length) ∧ ((s.threads.take k).all (threadOk s.config) = true)) (fun k => s.threads.length - k) 0 hS (hL_.keepE hF (t := 4) rfl rfl) ?_ ?_
 · exact ⟨Nat.zero_le _, rfl⟩
 rintro k a w8 ⟨hk, ht⟩ hS hF; try dsimp only at hF; try dsimp only at hS
 refine wp_seq_k fun K14 hK14 => rh 0 hF hS rfl rfl rfl fun a hF => cx 57 hF rfl (fun c57 hF => ?_) fun c57 hF => ?_
 ·
  have hlt : k < s.threads.length := by omega
  have hx := at0_nat hlt
  have hc1 := crow_le1 (c := Sl.Thread.size) hx
  refine wp_skip <| hK14 _ _ <| wp_seq_k fun K16 hK16 => wp_block <| wp_seq_k fun K17 hK17 => wp_region_calm (by kernel_rfl) (by kernel_rfl) <| qa 1 hF tk rfl fun a hF => ?_
  refine wq hF rfl rfl rfl (fun w_ hB_ => r_loadn ag25 (hF.ev rfl) ((hS.ext hB_).boxn (vs := [_, _, _, _, _, _]) (i := 0) (m := 6) rfl rfl) sz25) fun a hF => qb 3 0 hF tk hS rfl rfl rfl fun a hF => ?_
  obtain ⟨g65, o65, m65, q65, cs65, hv65, hm65, hl65, hk65, hz65, hc65⟩ := Rd.at (r2) (a := a) (X := .tmp 64) (hF.ev rfl) (by omega) (by omega)
  have hkk65 := hk65; obtain ⟨v65_0, v65_1, v65_2, v65_3, v65_4, rfl, r65_0, r65_1, r65_2, r65_3, r65_4⟩ := hk65
  refine wq hF rfl rfl rfl (fun w_ hB_ => r_index sl27 ((hF.ev rfl).trans hv65) (hF.ev rfl) (by omega) (by first | omega | (simp at hm65; omega))) fun a hF => ?_
  refine wq hF rfl rfl rfl (fun w_ hB_ => r_loadn ag42 (hF.ev rfl) (fun j_ u_ hu_ => cellB (hS.ext hB_).old (hc65 j_ u_ hu_)) sz42) fun a hF => qk hF rfl (fun w_ hB_ => l8Thread_c ((hS.ext hB_).k hkk65) (wthr _ (at0_mem (by omega) (by omega))) hok (by omega)) fun a hF => qa 1 hF tk rfl fun a hF => ?_
  refine wpQuiet_nil ?_; intro w9 hB_; have hS := hS.ext hB_
  refine hK17 _ _ <| cx 68 hF rfl (fun c68 hF => ?_) fun c68 hF => ?_
  ·
   refine rg hF rfl fun a hF => ?_
   refine xr ?_
   refine ret1 rfl hF rfl ⟨congrArg Value.bool (Eq.symm ?_), hS.old⟩
   first
     | exact st_gens (range_no (by omega) (decide_eq_false c52))
     | exact st_threads (all_no hx c68)
     | exact st_heads (range_no (k := k) (by omega) (isLink_zero.trans (Bool.and_eq_false_iff.2 (c92.imp_right (fun e => by rw [e]; rfl)))))
     | exact st_nodes (range_no (k := k) (by omega) (Bool.and_eq_false_iff.2 (c123.imp_right (fun e => decide_eq_false e))))
     | exact st_shape fun h => by
         unfold shapeOk at h
         rcases c38 with ((c | c) | c) | c
         · exact c h.1
         · exact c h.2.1
         · exact c h.2.2.1
         · exact c h.2.2.2
     | (rw [st_yes ⟨hok, hl1, hl2, hl3⟩ (all_done hg (by rw [List.length_range]; omega)) (all_done hn (by rw [List.length_range]; omega)) (all_done hv (by rw [List.length_range]; omega)), all_done ht (by omega), Bool.true_and, Bool.eq_iff_iff]
        simp only [Bool.and_eq_true, decide_eq_true_eq]
        unfold countsOk
        simp only [and_assoc])
  refine wp_skip ?_
  refine xt ?_
  refine hK16 _ _ <| rl hF rfl fun a hF => ?_
  refine xt ?_
  refine ⟨k + 1, ⟨by omega, all_nxt ht hx c68⟩, hS, (((hF.nil.keep hF (t := 2) rfl).keep hF (t := 1) rfl).keepE hF (t := 4) rfl (wk (by omega))), by omega⟩
 refine wp_exit ?_
 refine xt ?_
 refine hK12 _ _ <| wp_seq_k fun K19 hK19 => rg hF rfl fun a hF => wp_block ?_
 have hL_ := ((hF.nil.keep hF (t := 2) rfl).keep hF (t := 1) rfl)
 refine wp_loop_r (σ := Nat) (fun k L_ => (5, vi k) :: L_) (fun k => (k ≤ s.config.keys.toNat) ∧ (((List.range s.config.keys.toNat).take k).all (fun k => isLink s.config (at0 s.cells (headCell s.config (k : Int)))) = true)) (fun k => s.config.keys.toNat - k) 0 hS (hL_.keepE hF (t := 5) rfl rfl) ?_ ?_
 · exact ⟨Nat.zero_le _, rfl⟩
 rintro k a w10 ⟨hk, hn⟩ hS hF; try dsimp only at hF; try dsimp only at hS
 refine wp_seq_k fun K21 hK21 => rh 0 hF hS rfl rfl rfl fun a hF => cx 73 hF rfl (fun c73 hF => ?_) fun c73 hF => ?_
 ·
  have hd := headCell_eq hok (k := (k : Int)) (by omega) (by omega)
  have h1 : int64 (at0 s.cells (headCell s.config (k : Int))) := wcells _ (at0_mem (by omega) (by omega))
  refine wp_skip <| hK21 _ _ <| wp_seq_k fun K23 hK23 => wp_block <| wp_seq_k fun K24 hK24 => wp_region_calm (by kernel_rfl) (by kernel_rfl) <| qb 3 0 hF tk hS rfl rfl rfl fun a hF => ?_
  refine wq hF rfl rfl rfl (fun w_ hB_ => r_loadn ag25 (hF.ev rfl) ((hS.ext hB_).boxn (vs := [_, _, _, _, _, _]) (i := 0) (m := 6) rfl rfl) sz25) fun a hF => qa 1 hF tk rfl fun a hF => qk hF rfl (fun w_ hB_ => specHeadCell_c _ _) fun a hF => ?_
  obtain ⟨g82, o82, m82, q82, hv82, hm82, hl82, hc82⟩ := Rd.atF (r0) (a := a) (X := .tmp 81) (hF.ev rfl) (by omega) (by omega)
  refine wq hF rfl rfl rfl (fun w_ hB_ => r_index sl26 ((hF.ev rfl).trans hv82) (hF.ev rfl) (by omega) (by first | omega | (simp at hm82; omega))) fun a hF => ?_
  refine wq hF rfl rfl rfl (fun w_ hB_ => r_load1 sc3 (hF.ev rfl) (cellB (hS.ext hB_).old (hc82 0 _ rfl))) fun a hF => qa 1 hF tk rfl fun a hF => ?_
  refine wpQuiet_nil ?_; intro w11 hB_; have hS := hS.ext hB_
  refine hK24 _ _ <| ws fun K25 hK25 => ga 1 hF rfl fun a hF => wl hF rfl rfl rfl (r_loadn ag25 (hF.ev rfl) (hS.boxn (vs := [_, _, _, _, _, _]) (i := 0) (m := 6) rfl rfl) sz25) fun a hF => ga 1 hF rfl fun a hF => ckr hF hS rfl (l8Zero_c h1) fun w12 a hS hF => ga 2 hF rfl fun a hF => ?_
  apply wo 3 89 92 hF hS
  ·
   intro hg89 a hF
   refine ga 1 hF rfl fun a hF => ckr hF hS rfl (specIsMarked_c h1) fun w13 a hS hF => ?_
   exact je 3 hF hS rfl rfl rfl rfl
  intro a w14 hF hS
  refine wl_nil <| hK25 _ _ <| cx 92 hF rfl (fun c92 hF => ?_) fun c92 hF => ?_
  ·
   refine rg hF rfl fun a hF => ?_
   refine xr ?_
   refine ret1 rfl hF rfl ⟨congrArg Value.bool (Eq.symm ?_), hS.old⟩
   first
     | exact st_gens (range_no (by omega) (decide_eq_false c52))
     | exact st_threads (all_no hx c68)
     | exact st_heads (range_no (k := k) (by omega) (isLink_zero.trans (Bool.and_eq_false_iff.2 (c92.imp_right (fun e => by rw [e]; rfl)))))
     | exact st_nodes (range_no (k := k) (by omega) (Bool.and_eq_false_iff.2 (c123.imp_right (fun e => decide_eq_false e))))
     | exact st_shape fun h => by
         unfold shapeOk at h
         rcases c38 with ((c | c) | c) | c
         · exact c h.1
         · exact c h.2.1
         · exact c h.2.2.1
         · exact c h.2.2.2
     | (rw [st_yes ⟨hok, hl1, hl2, hl3⟩ (all_done hg (by rw [List.length_range]; omega)) (all_done hn (by rw [List.length_range]; omega)) (all_done hv (by rw [List.length_range]; omega)), all_done ht (by omega), Bool.true_and, Bool.eq_iff_iff]
        simp only [Bool.and_eq_true, decide_eq_true_eq]
        unfold countsOk
        simp only [and_assoc])
  refine wp_skip ?_
  refine xt ?_
  refine hK23 _ _ <| rl hF rfl fun a hF => ?_
  refine xt ?_
  refine ⟨k + 1, ⟨by omega, all_nxt hn (range_at (by omega)) (by rw [isLink_zero, c92.1, c92.2]; rfl)⟩, hS, (((hF.nil.keep hF (t := 2) rfl).keep hF (t := 1) rfl).keepE hF (t := 5) rfl (wk (by omega))), by omega⟩
 refine wp_exit ?_
 refine xt ?_
 refine hK19 _ _ <| wp_seq_k fun K27 hK27 => rg hF rfl fun a hF => wp_block ?_
 have hL_ := ((hF.nil.keep hF (t := 2) rfl).keep hF (t := 1) rfl)
 refine wp_loop_r (σ := Nat) (fun k L_ => (7, vi k) :: L_) (fun k => (k ≤ s.config.capacity.toNat) ∧ (((List.range s.config.capacity.toNat).take k).all (fun k => zeroOk s.config (at0 s.cells (nodeCell s.config (k : Int) 2)) && decide (0 ≤ at0 s.cells (nodeCell s.config (k : Int) 0) ∧ at0 s.cells (nodeCell s.config (k : Int) 0) ≤ 99)) = true)) (fun k => s.config.capacity.toNat - k) 0 hS (hL_.keepE hF (t := 7) rfl rfl) ?_ ?_
 · exact ⟨Nat.zero_le _, rfl⟩
 rintro k a w15 ⟨hk, hv⟩ hS hF; try dsimp only at hF; try dsimp only at hS
 refine wp_seq_k fun K29 hK29 => rh 0 hF hS rfl rfl rfl fun a hF => cx 97 hF rfl (fun c97 hF => ?_) fun c97 hF => ?_
 ·
  have hn0 := nodeCell_eq hok (i := (k : Int)) (f := 0) (by omega) (by omega) (by omega) (by omega)
  have hn2 := nodeCell_eq hok (i := (k : Int)) (f := 2) (by omega) (by omega) (by omega) (by omega)
  have h1 : int64 (at0 s.cells (nodeCell s.config (k : Int) 2)) := wcells _ (at0_mem (by omega) (by omega))
  refine wp_skip <| hK29 _ _ <| wp_seq_k fun K31 hK31 => wp_block <| wp_seq_k fun K32 hK32 => wp_region_calm (by kernel_rfl) (by kernel_rfl) <| qa 1 hF tk rfl fun a hF => ?_
  refine wq hF rfl rfl rfl (fun w_ hB_ => r_loadn ag25 (hF.ev rfl) ((hS.ext hB_).boxn (vs := [_, _, _, _, _, _]) (i := 0) (m := 6) rfl rfl) sz25) fun a hF => qb 3 0 hF tk hS rfl rfl rfl fun a hF => wq hF rfl rfl rfl (fun w_ hB_ => r_loadn ag25 (hF.ev rfl) ((hS.ext hB_).boxn (vs := [_, _, _, _, _, _]) (i := 0) (m := 6) rfl rfl) sz25) fun a hF => qa 1 hF tk rfl fun a hF => qk hF rfl (fun w_ hB_ => specNodeCell_c _ _ _) fun a hF => ?_
  obtain ⟨g108, o108, m108, q108, hv108, hm108, hl108, hc108⟩ := Rd.atF (r0) (a := a) (X := .tmp 107) (hF.ev rfl) (by omega) (by omega)
  refine wq hF rfl rfl rfl (fun w_ hB_ => r_index sl26 ((hF.ev rfl).trans hv108) (hF.ev rfl) (by omega) (by first | omega | (simp at hm108; omega))) fun a hF => ?_
  refine wq hF rfl rfl rfl (fun w_ hB_ => r_load1 sc3 (hF.ev rfl) (cellB (hS.ext hB_).old (hc108 0 _ rfl))) fun a hF => qk hF rfl (fun w_ hB_ => l8Zero_c h1) fun a hF => qa 2 hF tk rfl fun a hF => ?_
  apply wq_or (A := [_, _, _, _, _, _, _, _, _, _, _]) (pk := 123) hF (tc := 112) rfl
  ·
   intro hg112 a hF; try simp only [zb] at hg112
   refine qb 3 0 hF tk hS rfl rfl rfl fun a hF => wq_take hF rfl rfl rfl rfl <| wq hF rfl rfl rfl (fun w_ hB_ => r_loadn ag25 (hF.ev rfl) ((hS.ext hB_).boxn (vs := [_, _, _, _, _, _]) (i := 0) (m := 6) rfl rfl) sz25) fun a hF => qa 1 hF tk rfl fun a hF => qk hF rfl (fun w_ hB_ => specNodeCell_c _ _ _) fun a hF => wq_take hF rfl rfl rfl rfl ?_
   obtain ⟨g119, o119, m119, q119, hv119, hm119, hl119, hc119⟩ := Rd.atF (r0) (a := a) (X := .tmp 118) (hF.ev rfl) (by omega) (by omega)
   refine wq hF rfl rfl rfl (fun w_ hB_ => r_index sl26 ((hF.ev rfl).trans hv119) (hF.ev rfl) (by omega) (by first | omega | (simp at hm119; omega))) fun a hF => ?_
   refine wq_take hF rfl rfl rfl rfl <| wq hF rfl rfl rfl (fun w_ hB_ => r_load1 sc3 (hF.ev rfl) (cellB (hS.ext hB_).old (hc119 0 _ rfl))) fun a hF => qk hF rfl (fun w_ hB_ => l1In_c _ _ _) fun a hF => qa 2 hF tk rfl fun a hF => ?_
   exact wpQuiet_nil ((Fr.pre (A := [_, _, _, _, _, _, _, _, _, _, _]) hF rfl).keep hF (t := 123) rfl)
  ·
   intro hg112 a hF; try simp only [zb] at hg112
   refine qa 11 hF tk rfl fun a hF => ?_
   exact wpQuiet_nil ((Fr.pre (A := [_, _, _, _, _, _, _, _, _, _, _]) hF rfl).keep hF (t := 123) rfl)
  intro a hF
  refine wpQuiet_nil ?_; intro w17 hB_; have hS := hS.ext hB_
  refine hK32 _ _ <| cx 123 hF rfl (fun c123 hF => ?_) fun c123 hF => ?_
  ·
   refine rg hF rfl fun a hF => ?_
   refine xr ?_
   refine ret1 rfl hF rfl ⟨congrArg Value.bool (Eq.symm ?_), hS.old⟩
   first
     | exact st_gens (range_no (by omega) (decide_eq_false c52))
     | exact st_threads (all_no hx c68)
     | exact st_heads (range_no (k := k) (by omega) (isLink_zero.trans (Bool.and_eq_false_iff.2 (c92.imp_right (fun e => by rw [e]; rfl)))))
     | exact st_nodes (range_no (k := k) (by omega) (Bool.and_eq_false_iff.2 (c123.imp_right (fun e => decide_eq_false e))))
     | exact st_shape fun h => by
         unfold shapeOk at h
         rcases c38 with ((c | c) | c) | c
         · exact c h.1
         · exact c h.2.1
         · exact c h.2.2.1
         · exact c h.2.2.2
     | (rw [st_yes ⟨hok, hl1, hl2, hl3⟩ (all_done hg (by rw [List.length_range]; omega)) (all_done hn (by rw [List.length_range]; omega)) (all_done hv (by rw [List.length_range]; omega)), all_done ht (by omega), Bool.true_and, Bool.eq_iff_iff]
        simp only [Bool.and_eq_true, decide_eq_true_eq]
        unfold countsOk
        simp only [and_assoc])
  refine wp_skip ?_
  refine xt ?_
  refine hK31 _ _ <| rl hF rfl fun a hF => ?_
  refine xt ?_
  refine ⟨k + 1, ⟨by omega, all_nxt hv (range_at (by omega)) (by rw [c123.1, decide_eq_true c123.2]; rfl)⟩, hS, (((hF.nil.keep hF (t := 2) rfl).keep hF (t := 1) rfl).keepE hF (t := 7) rfl (wk (by omega))), by omega⟩
 refine wp_exit ?_
 refine xt ?_
 refine hK27 _ _ <| wp_seq_k fun K34 hK34 => wp_region_calm (by kernel_rfl) (by kernel_rfl) <| qb 2 0 hF tk hS rfl rfl rfl fun a hF => ?_
 obtain ⟨g126, o126, m126, q126, hv126, hm126, hl126, hc126⟩ := Rd.atF (r0) (a := a) (X := .const (.int .i64 0)) ec (by omega) (by omega)
 refine wq hF rfl rfl rfl (fun w_ hB_ => r_index sl26 ((hF.ev rfl).trans hv126) ec (by omega) (by first | omega | (simp at hm126; omega))) fun a hF => ?_
 refine wq hF rfl rfl rfl (fun w_ hB_ => r_load1 sc3 (hF.ev rfl) (cellB (hS.ext hB_).old (hc126 0 _ rfl))) fun a hF => qb 3 0 hF tk hS rfl rfl rfl fun a hF => qk hF rfl (fun w_ hB_ => l1In_c _ _ _) fun a hF => qa 1 hF tk rfl fun a hF => ?_
 apply wq_and (A := [_, _, _, _, _, _, _, _, _]) (pk := 141) hF (tc := 132) rfl
 ·
  intro hg132 a hF; try simp only [zb] at hg132
  refine qb 2 0 hF tk hS rfl rfl rfl fun a hF => wq_take hF rfl rfl rfl rfl ?_
  obtain ⟨g135, o135, m135, q135, hv135, hm135, hl135, hc135⟩ := Rd.atF (r0) (a := a) (X := .const (.int .i64 1)) ec (by omega) (by omega)
  refine wq hF rfl rfl rfl (fun w_ hB_ => r_index sl26 ((hF.ev rfl).trans hv135) ec (by omega) (by first | omega | (simp at hm135; omega))) fun a hF => ?_
  refine wq_take hF rfl rfl rfl rfl <| wq hF rfl rfl rfl (fun w_ hB_ => r_load1 sc3 (hF.ev rfl) (cellB (hS.ext hB_).old (hc135 0 _ rfl))) fun a hF => qb 3 0 hF tk hS rfl rfl rfl fun a hF => qk hF rfl (fun w_ hB_ => l1In_c _ _ _) fun a hF => qa 1 hF tk rfl fun a hF => ?_
  exact wpQuiet_nil ((Fr.pre (A := [_, _, _, _, _, _, _, _, _]) hF rfl).keep hF (t := 141) rfl)
 ·
  intro hg132 a hF; try simp only [zb] at hg132
  refine qa 9 hF tk rfl fun a hF => ?_
  exact wpQuiet_nil ((Fr.pre (A := [_, _, _, _, _, _, _, _, _]) hF rfl).keep hF (t := 141) rfl)
 intro a hF
 refine qa 1 hF tk rfl fun a hF => ?_
 apply wq_and (A := [_, _, _, _]) (pk := 146) hF (tc := 142) rfl
 ·
  intro hg142 a hF; try simp only [zb] at hg142
  refine qb 2 0 hF tk hS rfl rfl rfl fun a hF => qk hF rfl (fun w_ hB_ => l1In_c _ _ _) fun a hF => qa 1 hF tk rfl fun a hF => ?_
  exact wpQuiet_nil ((Fr.pre (A := [_, _, _, _]) hF rfl).keep hF (t := 146) rfl)
 ·
  intro hg142 a hF; try simp only [zb] at hg142
  refine qa 4 hF tk rfl fun a hF => ?_
  exact wpQuiet_nil ((Fr.pre (A := [_, _, _, _]) hF rfl).keep hF (t := 146) rfl)
 intro a hF
 refine qa 1 hF tk rfl fun a hF => ?_
 apply wq_and (A := [_, _, _, _]) (pk := 151) hF (tc := 147) rfl
 ·
  intro hg147 a hF; try simp only [zb] at hg147
  refine qb 2 0 hF tk hS rfl rfl rfl fun a hF => qk hF rfl (fun w_ hB_ => l1In_c _ _ _) fun a hF => qa 1 hF tk rfl fun a hF => ?_
  exact wpQuiet_nil ((Fr.pre (A := [_, _, _, _]) hF rfl).keep hF (t := 151) rfl)
 ·
  intro hg147 a hF; try simp only [zb] at hg147
  refine qa 4 hF tk rfl fun a hF => ?_
  exact wpQuiet_nil ((Fr.pre (A := [_, _, _, _]) hF rfl).keep hF (t := 151) rfl)
 intro a hF
 refine qa 1 hF tk rfl fun a hF => ?_
 apply wq_and (A := [_, _, _, _]) (pk := 156) hF (tc := 152) rfl
 ·
  intro hg152 a hF; try simp only [zb] at hg152
  refine qb 2 0 hF tk hS rfl rfl rfl fun a hF => qk hF rfl (fun w_ hB_ => l1In_c _ _ _) fun a hF => qa 1 hF tk rfl fun a hF => ?_
  exact wpQuiet_nil ((Fr.pre (A := [_, _, _, _]) hF rfl).keep hF (t := 156) rfl)
 ·
  intro hg152 a hF; try simp only [zb] at hg152
  refine qa 4 hF tk rfl fun a hF => ?_
  exact wpQuiet_nil ((Fr.pre (A := [_, _, _, _]) hF rfl).keep hF (t := 156) rfl)
 intro a hF
 refine qa 1 hF tk rfl fun a hF => ?_
 apply wq_and (A := [_, _, _, _]) (pk := 161) hF (tc := 157) rfl
 ·
  intro hg157 a hF; try simp only [zb] at hg157
  refine qb 2 0 hF tk hS rfl rfl rfl fun a hF => qk hF rfl (fun w_ hB_ => l1In_c _ _ _) fun a hF => qa 1 hF tk rfl fun a hF => ?_
  exact wpQuiet_nil ((Fr.pre (A := [_, _, _, _]) hF rfl).keep hF (t := 161) rfl)
 ·
  intro hg157 a hF; try simp only [zb] at hg157
  refine qa 4 hF tk rfl fun a hF => ?_
  exact wpQuiet_nil ((Fr.pre (A := [_, _, _, _]) hF rfl).keep hF (t := 161) rfl)
 intro a hF
 refine qa 1 hF tk rfl fun a hF => ?_
 refine wpQuiet_nil ?_; intro w23 hB_; have hS := hS.ext hB_
 refine hK34 _ _ ?_
 refine xr ?_
 refine ret1 rfl hF rfl ⟨congrArg Value.bool (Eq.symm ?_), hS.old⟩
 first
   | exact st_gens (range_no (by omega) (decide_eq_false c52))
   | exact st_threads (all_no hx c68)
   | exact st_heads (range_no (k := k) (by omega) (isLink_zero.trans (Bool.and_eq_false_iff.2 (c92.imp_right (fun e => by rw [e]; rfl)))))
   | exact st_nodes (range_no (k := k) (by omega) (Bool.and_eq_false_iff.2 (c123.imp_right (fun e => decide_eq_false e))))
   | exact st_shape fun h => by
       unfold shapeOk at h
       rcases c38 with ((c | c) | c) | c
       · exact c h.1
       · exact c h.2.1
       · exact c h.2.2.1
       · exact c h.2.2.2
   | (rw [st_yes ⟨hok, hl1, hl2, hl3⟩ (all_done hg (by rw [List.length_range]; omega)) (all_done hn (by rw [List.length_range]; omega)) (all_done hv (by rw [List.length_range]; omega)), all_done ht (by omega), Bool.true_and, Bool.eq_iff_iff]
      simp only [Bool.and_eq_true, decide_eq_true_eq]
      unfold countsOk
      simp only [and_assoc])
set_option maxRecDepth 20000
section
variable {s : State} {k : Int}
theorem stateOk_shape (h : stateOk s = true) : shapeOk s := by
 unfold stateOk at h; simp only [Bool.and_eq_true, decide_eq_true_eq] at h; exact h.1.1.1.1.1
theorem app_0 (a : Value) : #[a] ++ #[] = #[a] := by simp
def isRunning (s : State) (p : Int) : Bool := stateOk s && decide (0 ≤ p ∧ p ≤ s.threads.length - 1) && !decide ((at0 s.threads p).pc = 0)
end
theorem specIsRunning_c {W : World} {s : Sl.State} {cs : List Value} (hm : stateEK.K W s cs) (hw : s.wf) (hz : (s.size : Int) ≤ 1048576) {p : Int} (hp : int64 p) : Calls Tryz.prog 48 #[.agg cs.toArray, vi p] W (Ret fun v w' => v = .bool (isRunning s p) ∧ Below W.heap.size W w') := by
 refine cfr Tryz.func48 Tryz.ntmps48 fun a hF => ?_
 have hS := Sep.refl W
 obtain ⟨v0, v1, v2, rfl, r0, r1, r2⟩ := hm
 have hm : stateEK.K W s (s.encv v0 v1 v2) := ⟨_, _, _, rfl, r0, r1, r2⟩
 obtain ⟨A_a, q_a, rfl, hq_a, hn_a⟩ := r0.sl; unfold maxLen at hn_a
 obtain ⟨A_b, q_b, rfl, hq_b, hn_b⟩ := r1.sl; unfold maxLen at hn_b
 obtain ⟨A_c, q_c, rfl, hq_c, hn_c⟩ := r2.sl; unfold maxLen at hn_c
 have hwl : IntKind.i64.wrap ((s.threads.length : Int) - 1) = s.threads.length - 1 := w64_id (by omega) (by omega)
 refine ws fun K1 hK1 => wl_box (cs := [_, _, _, _, _, _, _, _, _, _, _, _, _]) hF hS rfl (hF.ev rfl) rfl fun g1 w1 a hS _ hF => ge hK1 hF rfl fun a hF => ws fun K2 hK2 => gb 1 0 hF hS rfl rfl rfl fun a hF => ckr hF hS rfl (specIsState_c (hS.k hm) hw (by omega)) fun w2 a hS hF => ga 1 hF rfl fun a hF => ?_
 apply wa 7 7 14 hF hS
 ·
  intro hg7 a hF
  refine gb 5 0 hF hS rfl rfl rfl fun a hF => ckr hF hS rfl (l1In_c _ _ _) fun w3 a hS hF => ?_
  exact je 7 hF hS rfl rfl rfl rfl
 intro a w4 hF hS
 refine ga 1 hF rfl fun a hF => ?_
 apply wa 8 15 23 hF hS
 ·
  intro hg15 a hF
  rw [hwl] at hg15
  refine gb 3 0 hF hS rfl rfl rfl fun a hF => wl_take hF rfl rfl rfl rfl ?_
  obtain ⟨g19, o19, m19, q19, cs19, hv19, hm19, hl19, hk19, hz19, hc19⟩ := Rd.at (r2) (a := a) (X := .tmp 18) (hF.ev rfl) (by omega) (by omega)
  have hkk19 := hk19; obtain ⟨v19_0, v19_1, v19_2, v19_3, v19_4, rfl, r19_0, r19_1, r19_2, r19_3, r19_4⟩ := hk19
  refine wl hF rfl rfl rfl (r_index sl27 ((hF.ev rfl).trans hv19) (hF.ev rfl) (by omega) (by first | omega | (simp at hm19; omega))) fun a hF => ?_
  refine ga 1 hF rfl fun a hF => wl_take hF rfl rfl rfl rfl <| wl hF rfl rfl rfl (r_load1 sc3 (hF.ev rfl) (cellB hS.old (hc19 0 _ rfl))) fun a hF => ?_
  exact je 8 hF hS rfl rfl rfl rfl
 intro a w5 hF hS
 refine ge hK2 hF rfl fun a hF => ?_
 refine xr ?_
 refine ret1 rfl hF rfl ⟨congrArg Value.bool ?_, hS.old⟩
 unfold isRunning; first | rfl | (rw [hwl])
theorem hasThread_c {W : World} {s : Sl.State} {cs : List Value} (hm : stateEK.K W s cs) (hw : s.wf) (hz : (s.size : Int) ≤ 1048576) {p : Int} (hp : int64 p) : Calls Tryz.prog 40 #[.agg cs.toArray, vi p] W (Ret fun v w' => v = .bool (stateOk s && decide (0 ≤ p ∧ p ≤ s.threads.length - 1)) ∧ Below W.heap.size W w') := by
 refine cfr Tryz.func40 Tryz.ntmps40 fun a hF => ?_
 have hS := Sep.refl W
 obtain ⟨v0, v1, v2, rfl, r0, r1, r2⟩ := hm
 have hm : stateEK.K W s (s.encv v0 v1 v2) := ⟨_, _, _, rfl, r0, r1, r2⟩
 obtain ⟨A_a, q_a, rfl, hq_a, hn_a⟩ := r0.sl; unfold maxLen at hn_a
 obtain ⟨A_b, q_b, rfl, hq_b, hn_b⟩ := r1.sl; unfold maxLen at hn_b
 obtain ⟨A_c, q_c, rfl, hq_c, hn_c⟩ := r2.sl; unfold maxLen at hn_c
 have hwl : IntKind.i64.wrap ((s.threads.length : Int) - 1) = s.threads.length - 1 := w64_id (by omega) (by omega)
 refine ws fun K1 hK1 => wl_box (cs := [_, _, _, _, _, _, _, _, _, _, _, _, _]) hF hS rfl (hF.ev rfl) rfl fun g1 w1 a hS _ hF => ge hK1 hF rfl fun a hF => ws fun K2 hK2 => gb 1 0 hF hS rfl rfl rfl fun a hF => ckr hF hS rfl (implIsState_c (hS.k hm) hw (by omega)) fun w2 a hS hF => ga 1 hF rfl fun a hF => ?_
 apply wa 7 7 14 hF hS
 ·
  intro hg7 a hF
  refine gb 5 0 hF hS rfl rfl rfl fun a hF => ckr hF hS rfl (in_c _ _ _) fun w3 a hS hF => ?_
  exact je 7 hF hS rfl rfl rfl rfl
 intro a w4 hF hS
 refine ge hK2 hF rfl fun a hF => ?_
 refine xr ?_
 refine ret1 rfl hF rfl ⟨congrArg Value.bool ?_, hS.old⟩
 rw [hwl]
theorem implIsRunning_c {W : World} {s : Sl.State} {cs : List Value} (hm : stateEK.K W s cs) (hw : s.wf) (hz : (s.size : Int) ≤ 1048576) {p : Int} (hp : int64 p) : Calls Tryz.prog 14 #[.agg cs.toArray, vi p] W (Ret fun v w' => v = .bool (isRunning s p) ∧ Below W.heap.size W w') := by
 refine cfr Tryz.func14 Tryz.ntmps14 fun a hF => ?_
 have hS := Sep.refl W
 obtain ⟨v0, v1, v2, rfl, r0, r1, r2⟩ := hm
 have hm : stateEK.K W s (s.encv v0 v1 v2) := ⟨_, _, _, rfl, r0, r1, r2⟩
 obtain ⟨A_a, q_a, rfl, hq_a, hn_a⟩ := r0.sl; unfold maxLen at hn_a
 obtain ⟨A_b, q_b, rfl, hq_b, hn_b⟩ := r1.sl; unfold maxLen at hn_b
 obtain ⟨A_c, q_c, rfl, hq_c, hn_c⟩ := r2.sl; unfold maxLen at hn_c
 have hwl : IntKind.i64.wrap ((s.threads.length : Int) - 1) = s.threads.length - 1 := w64_id (by omega) (by omega)
 refine ws fun K1 hK1 => wl_box (cs := [_, _, _, _, _, _, _, _, _, _, _, _, _]) hF hS rfl (hF.ev rfl) rfl fun g1 w1 a hS _ hF => ge hK1 hF rfl fun a hF => ws fun K2 hK2 => gb 2 0 hF hS rfl rfl rfl fun a hF => ckr hF hS rfl (hasThread_c (hS.k hm) hw hz hp) fun w2 a hS hF => ga 1 hF rfl fun a hF => ?_
 apply wa 8 8 16 hF hS
 ·
  intro hg8 a hF
  refine gb 3 0 hF hS rfl rfl rfl fun a hF => wl_take hF rfl rfl rfl rfl ?_
  obtain ⟨g12, o12, m12, q12, cs12, hv12, hm12, hl12, hk12, hz12, hc12⟩ := Rd.at (r2) (a := a) (X := .tmp 11) (hF.ev rfl) (by omega) (by omega)
  have hkk12 := hk12; obtain ⟨v12_0, v12_1, v12_2, v12_3, v12_4, rfl, r12_0, r12_1, r12_2, r12_3, r12_4⟩ := hk12
  refine wl hF rfl rfl rfl (r_index sl27 ((hF.ev rfl).trans hv12) (hF.ev rfl) (by omega) (by first | omega | (simp at hm12; omega))) fun a hF => ?_
  refine ga 1 hF rfl fun a hF => wl_take hF rfl rfl rfl rfl <| wl hF rfl rfl rfl (r_load1 sc3 (hF.ev rfl) (cellB hS.old (hc12 0 _ rfl))) fun a hF => ?_
  exact je 8 hF hS rfl rfl rfl rfl
 intro a w3 hF hS
 refine ge hK2 hF rfl fun a hF => ?_
 refine xr ?_
 refine ret1 rfl hF rfl ⟨congrArg Value.bool ?_, hS.old⟩
 unfold isRunning; first | rfl | (rw [hwl])
set_option maxRecDepth 20000
theorem r_nilCheck {P : Program} {ρ : Operand → Value} {w : World} {D : Option Tmp} {ty : TypeId} {ps : String} {af : Array Edge} {gd : Option (Nat × Bool)} {x : Operand} {g o : Nat} (hx : ρ x = .pointer (some ⟨g, o, none⟩)) :
    (execOp ρ ⟨D, .nilCheck x, ty, ps, af, gd⟩).run P w = .ok (.value (.pointer (some ⟨g, o, none⟩))) w := by simp [execOp, hx, go_sem]
section
variable {s : State} {h : Int}
theorem indexOf_pos (hi : isHandle h = true) : 0 ≤ indexOf h := by
 have := isHandle_iff.1 hi
 unfold indexOf; rw [if_pos hi]; omega
theorem state_thread {p : Int} (hs : stateOk s = true) (h0 : 0 ≤ p) (h1 : p < s.threads.length) : threadOk s.config (at0 s.threads p) = true := by
 unfold stateOk at hs; simp only [Bool.and_eq_true] at hs
 exact List.all_eq_true.1 hs.1.1.1.2 _ (at0_mem h0 h1)
theorem thread_snap {c : Config} {t : Thread} (h : threadOk c t = true) : 0 ≤ t.snapshot := by
 unfold threadOk at h; simp only [Bool.and_eq_true, decide_eq_true_eq] at h
 have := h.2.1; omega
def refusalOf (s : State) (p : Int) (o : Sl.Op) : Int :=
  if stateOk s = true ∧ (0 ≤ p ∧ p ≤ s.threads.length - 1) ∧ o.ok then
    if s.config.keys ≤ o.key then 4 else if o.kind = 1 ∧ ¬ (at0 s.threads p).snapshot = 0 then 6
    else if (o.kind = 2 ∨ o.kind = 4) ∧ (at0 s.threads p).snapshot = 0 then 3 else 0
  else 0
def walkKey (t : Thread) : Int := if t.op.kind = 2 ∨ (t.work.length : Int) = 0 then t.op.key else (at0 t.work 0).key
end
theorem ag39 : aggB Tryz.prog 39 = true := by kernel_rfl
theorem ag76 : aggB Tryz.prog 76 = true := by kernel_rfl
theorem bd39 : Tryz.prog.built 39 [] = some [.int .i64 0, .int .i64 0].toArray := by kernel_rfl
theorem bd39_0 (x0) : Tryz.prog.built 39 [(0, .int .i64 x0)] = some [.int .i64 x0, .int .i64 0].toArray := by kernel_rfl
theorem bd39_0_1 (x0) (x1) : Tryz.prog.built 39 [(0, .int .i64 x0), (1, .int .i64 x1)] = some [.int .i64 x0, .int .i64 x1].toArray := by kernel_rfl
theorem bd39_1 (x0) : Tryz.prog.built 39 [(1, .int .i64 x0)] = some [.int .i64 0, .int .i64 x0].toArray := by kernel_rfl
theorem bd76_0_1_2 (x0) (x1) (x2) : Tryz.prog.built 76 [(0, .pointer x0), (1, .pointer x1), (2, .int .i64 x2)] = some [.pointer x0, .pointer x1, .int .i64 x2].toArray := by kernel_rfl
theorem en18 : enterB Tryz.prog 18 = true := by kernel_rfl
theorem en19 : enterB Tryz.prog 19 = true := by kernel_rfl
theorem en39 : enterB Tryz.prog 39 = true := by kernel_rfl
theorem en43 : enterB Tryz.prog 43 = true := by kernel_rfl
theorem en44 : enterB Tryz.prog 44 = true := by kernel_rfl
theorem en50 : enterB Tryz.prog 50 = true := by kernel_rfl
theorem en58 : enterB Tryz.prog 58 = true := by kernel_rfl
theorem en67 : enterB Tryz.prog 67 = true := by kernel_rfl
theorem en68 : enterB Tryz.prog 68 = true := by kernel_rfl
theorem en86 : enterB Tryz.prog 86 = true := by kernel_rfl
theorem en87 : enterB Tryz.prog 87 = true := by kernel_rfl
theorem en90 : enterB Tryz.prog 90 = true := by kernel_rfl
theorem en105 : enterB Tryz.prog 105 = true := by kernel_rfl
theorem en106 : enterB Tryz.prog 106 = true := by kernel_rfl
theorem en108 : enterB Tryz.prog 108 = true := by kernel_rfl
theorem en109 : enterB Tryz.prog 109 = true := by kernel_rfl
theorem en126 : enterB Tryz.prog 126 = true := by kernel_rfl
theorem en128 : enterB Tryz.prog 128 = true := by kernel_rfl
theorem en132 : enterB Tryz.prog 132 = true := by kernel_rfl
theorem en135 : enterB Tryz.prog 135 = true := by kernel_rfl
theorem en136 : enterB Tryz.prog 136 = true := by kernel_rfl
theorem en141 : enterB Tryz.prog 141 = true := by kernel_rfl
theorem en143 : enterB Tryz.prog 143 = true := by kernel_rfl
theorem en146 : enterB Tryz.prog 146 = true := by kernel_rfl
theorem en163 : enterB Tryz.prog 163 = true := by kernel_rfl
theorem en164 : enterB Tryz.prog 164 = true := by kernel_rfl
theorem en166 : enterB Tryz.prog 166 = true := by kernel_rfl
theorem en170 : enterB Tryz.prog 170 = true := by kernel_rfl
theorem en190 : enterB Tryz.prog 190 = true := by kernel_rfl
theorem mk27 : mkB Tryz.prog 27 = some ([.int .i64 0, .int .i64 0, .int .i64 0, .int .i64 0, .int .i64 0, .int .i64 0, .int .i64 0, .int .i64 0, .int .i64 0, .int .i64 0, .int .i64 0, .int .i64 0, .int .i64 0, .int .i64 0, .slice none 0 0, .slice none 0 0, .slice none 0 0, .slice none 0 0, .slice none 0 0], 19, 232) := by kernel_rfl
theorem mk40 : mkB Tryz.prog 40 = some ([.int .i64 0, .int .i64 0, .int .i64 0, .int .i64 0], 4, 32) := by kernel_rfl
theorem sc62 : scalB Tryz.prog 62 = true := by kernel_rfl
theorem sc67 : scalB Tryz.prog 67 = true := by kernel_rfl
theorem sz3 : szB Tryz.prog 3 = some 1 := by kernel_rfl
theorem sz26 : szB Tryz.prog 26 = some 1 := by kernel_rfl
theorem sz39 : szB Tryz.prog 39 = some 2 := by kernel_rfl
theorem sz40 : szB Tryz.prog 40 = some 1 := by kernel_rfl
theorem sz76 : szB Tryz.prog 76 = some 3 := by kernel_rfl
theorem zr29 : zeroOf Tryz.prog 29 = some [.int .i64 0, .int .i64 0, .int .i64 0, .int .i64 0, .int .i64 0, .int .i64 0, .slice none 0 0, .slice none 0 0, .slice none 0 0, .int .i64 0, .int .i64 0, .int .i64 0, .int .i64 0] := by kernel_rfl
set_option maxRecDepth 20000
def putC (xs : List Int) (a v : Int) : List Int := if 0 ≤ a ∧ a < xs.length then xs.set a.toNat v else xs
def putN (xs : List Int) (a v n : Int) : Int := if (0 ≤ a ∧ a < xs.length) ∧ ¬ at0 xs a = v then IntKind.i64.wrap (n + 1) else n
def putS (s : Sl.State) (a v : Int) : Sl.State := { s with cells := putC s.cells a v, changes := putN s.cells a v s.changes }
def hitB (xs : List Int) (a u : Int) : Bool := decide (0 ≤ a ∧ a < xs.length) && decide (at0 xs a = u)
def swapS (s : Sl.State) (a u v : Int) : Sl.State := { s with cells := if hitB s.cells a u = true then putC s.cells a v else s.cells, changes := if hitB s.cells a u = true then putN s.cells a v s.changes else s.changes }
def loadC (xs : List Int) (a : Int) : Int := if 0 ≤ a ∧ a < xs.length then at0 xs a else 0
def curB (c : Config) (gs : List Int) (h : Int) : Bool := isNode c (unmarked h) && decide (at0 gs (indexOf (unmarked h)) = genOf (unmarked h))
def faultS (s : Sl.State) (h : Int) : Sl.State := { s with faults := if curB s.config s.generations h = true then s.faults else IntKind.i64.wrap (s.faults + 1) }
def cellOf (s : Sl.State) (h f : Int) : Int := if curB s.config s.generations h = true then nodeCell s.config (indexOf (unmarked h)) f else -1
def clearT (t : Sl.Thread) : Sl.Thread := { t with node := 0, prev := 0, curr := 0, next := 0, seen := 0, stamp := 0, at_ := 0, found := [] }
def endT (t : Sl.Thread) (code value : Int) : Sl.Thread := { clearT t with pc := 0, result := ⟨code, value⟩ }
theorem l9Put_c {W w : World} {l : List Res} {g : Nat} {v0 v1 v2 : Value} {s : Sl.State} {a_ v : Int} (hS : Sep W (Box g (s.encv v0 v1 v2) :: Own intEK v0 s.cells :: l) w) : Calls Tryz.prog 123 #[.pointer (some ⟨g, 0, none⟩), vi a_, vi v] w (Ret fun u w' => u = .tuple #[] ∧ Sep W (Box g ((putS s a_ v).encv v0 v1 v2) :: Own intEK v0 (putS s a_ v).cells :: l) w') := by
 refine cfr Tryz.func123 Tryz.ntmps123 fun a hF => ?_
 obtain ⟨z0, rfl⟩ := hS.own_sv (q := 1) rfl
 have hl0 := hS.own_len (q := 1) rfl
 refine wp_seq_k fun K1 hK1 => ws fun K2 hK2 => ga 3 hF rfl fun a hF => ?_
 apply wo 8 8 16 hF hS
 ·
  intro hg8 a hF
  exact jf 8 0 hF hS rfl rfl rfl rfl rfl rfl
 intro a w1 hF hS
 refine wl_nil <| hK2 _ _ <| cx 16 hF rfl (fun c16 hF => ?_) fun c16 hF => ?_
 ·
  refine xr ?_
  first
    | (have e1 : putC s.cells a_ v = s.cells := if_neg (by omega); have e2 : putN s.cells a_ v s.changes = s.changes := if_neg (by omega); refine ret0 rfl hF ⟨rfl, ?_⟩; unfold putS; rw [e1, e2]; exact hS)
    | (have e1 : putC s.cells a_ v = _ := if_pos (by omega); have e2 : putN s.cells a_ v s.changes = s.changes := if_neg (fun h => h.2 c25); refine ret0 rfl hF ⟨rfl, ?_⟩; unfold putS; rw [e1, e2]; exact hS)
    | (have e1 : putC s.cells a_ v = _ := if_pos (by omega); have e2 : putN s.cells a_ v s.changes = _ := if_pos ⟨by omega, c25⟩; refine ret0 rfl hF ⟨rfl, ?_⟩; unfold putS; rw [e1, e2]; exact hS)
 refine wp_skip <| hK1 _ _ <| wp_seq_k fun K3 hK3 => ws fun K4 hK4 => gb 5 0 hF hS rfl rfl rfl fun a hF => ?_
 obtain ⟨g22, o22, m22, q22, hv22, hm22, hl22, hc22⟩ := Rd.atF ((hS.own_rd (i := 1) rfl)) (a := a) (X := .tmp 21) (hF.ev rfl) (by omega) (by omega)
 refine wl hF rfl rfl rfl (r_index sl26 ((hF.ev rfl).trans hv22) (hF.ev rfl) (by omega) (by first | omega | (simp at hm22; omega))) fun a hF => ?_
 refine wl hF rfl rfl rfl (r_load1 sc3 (hF.ev rfl) (hc22 0 _ rfl)) fun a hF => ge hK4 hF rfl fun a hF => cx 25 hF rfl (fun c25 hF => ?_) fun c25 hF => ?_
 ·
  refine wp_region_lit <| gb 8 0 hF hS rfl rfl rfl fun a hF => wv 0 hF hS rfl rfl rfl rfl rfl rfl fun w2 hS => wl_nil <| hK3 _ _ <| wp_region_lit <| gb 6 0 hF hS rfl rfl rfl fun a hF => ?_
  obtain ⟨g40, o40, m40, q40, hv40, hm40, hl40, hc40⟩ := Rd.atF ((hS.own_rd (i := 1) rfl)) (a := a) (X := .tmp 38) (hF.ev rfl) (by omega) (by omega)
  refine wl hF rfl rfl rfl (r_index sl26 ((hF.ev rfl).trans hv40) (hF.ev rfl) (by omega) (by first | omega | (simp at hm40; omega))) fun a hF => ?_
  refine wl_istore (q := 1) hF hS rfl hv40 (by omega) (by omega) sz3 (hF.ev rfl) rfl (hF.ev rfl) fun w3 hS => ?_; dsimp only [List.set] at hS
  refine wl_nil ?_
  refine xt ?_
  first
    | (have e1 : putC s.cells a_ v = s.cells := if_neg (by omega); have e2 : putN s.cells a_ v s.changes = s.changes := if_neg (by omega); refine ret0n rfl hF ⟨rfl, ?_⟩; unfold putS; rw [e1, e2]; exact hS)
    | (have e1 : putC s.cells a_ v = _ := if_pos (by omega); have e2 : putN s.cells a_ v s.changes = s.changes := if_neg (fun h => h.2 c25); refine ret0n rfl hF ⟨rfl, ?_⟩; unfold putS; rw [e1, e2]; exact hS)
    | (have e1 : putC s.cells a_ v = _ := if_pos (by omega); have e2 : putN s.cells a_ v s.changes = _ := if_pos ⟨by omega, c25⟩; refine ret0n rfl hF ⟨rfl, ?_⟩; unfold putS; rw [e1, e2]; exact hS)
 refine wp_skip <| hK3 _ _ <| wp_region_lit <| gb 6 0 hF hS rfl rfl rfl fun a hF => ?_
 obtain ⟨g40, o40, m40, q40, hv40, hm40, hl40, hc40⟩ := Rd.atF ((hS.own_rd (i := 1) rfl)) (a := a) (X := .tmp 38) (hF.ev rfl) (by omega) (by omega)
 refine wl hF rfl rfl rfl (r_index sl26 ((hF.ev rfl).trans hv40) (hF.ev rfl) (by omega) (by first | omega | (simp at hm40; omega))) fun a hF => ?_
 refine wl_istore (q := 1) hF hS rfl hv40 (by omega) (by omega) sz3 (hF.ev rfl) rfl (hF.ev rfl) fun w4 hS => ?_; dsimp only [List.set] at hS
 refine wl_nil ?_
 refine xt ?_
 first
   | (have e1 : putC s.cells a_ v = s.cells := if_neg (by omega); have e2 : putN s.cells a_ v s.changes = s.changes := if_neg (by omega); refine ret0n rfl hF ⟨rfl, ?_⟩; unfold putS; rw [e1, e2]; exact hS)
   | (have e1 : putC s.cells a_ v = _ := if_pos (by omega); have e2 : putN s.cells a_ v s.changes = s.changes := if_neg (fun h => h.2 c25); refine ret0n rfl hF ⟨rfl, ?_⟩; unfold putS; rw [e1, e2]; exact hS)
   | (have e1 : putC s.cells a_ v = _ := if_pos (by omega); have e2 : putN s.cells a_ v s.changes = _ := if_pos ⟨by omega, c25⟩; refine ret0n rfl hF ⟨rfl, ?_⟩; unfold putS; rw [e1, e2]; exact hS)
theorem l9Swap_c {W w : World} {l : List Res} {g : Nat} {v0 v1 v2 : Value} {s : Sl.State} {a_ u_ v : Int} (hS : Sep W (Box g (s.encv v0 v1 v2) :: Own intEK v0 s.cells :: l) w) : Calls Tryz.prog 163 #[.pointer (some ⟨g, 0, none⟩), vi a_, vi u_, vi v] w (Ret fun r w' => r = .bool (hitB s.cells a_ u_) ∧ Sep W (Box g ((swapS s a_ u_ v).encv v0 v1 v2) :: Own intEK v0 (swapS s a_ u_ v).cells :: l) w') := by
 refine cfr Tryz.func163 Tryz.ntmps163 fun a hF => ?_
 obtain ⟨z0, rfl⟩ := hS.own_sv (q := 1) rfl
 have hl0 := hS.own_len (q := 1) rfl
 refine rg hF rfl fun a hF => wp_seq_k fun K2 hK2 => ws fun K3 hK3 => ga 3 hF rfl fun a hF => ?_
 apply wo 8 11 19 hF hS
 ·
  intro hg11 a hF
  exact jf 8 0 hF hS rfl rfl rfl rfl rfl rfl
 intro a w1 hF hS
 refine ga 1 hF rfl fun a hF => ?_
 apply wo 10 20 30 hF hS
 ·
  intro hg20 a hF
  refine gb 5 0 hF hS rfl rfl rfl fun a hF => wl_take hF rfl rfl rfl rfl ?_
  obtain ⟨g26, o26, m26, q26, hv26, hm26, hl26, hc26⟩ := Rd.atF ((hS.own_rd (i := 1) rfl)) (a := a) (X := .tmp 25) (hF.ev rfl) (by omega) (by omega)
  refine wl hF rfl rfl rfl (r_index sl26 ((hF.ev rfl).trans hv26) (hF.ev rfl) (by omega) (by first | omega | (simp at hm26; omega))) fun a hF => ?_
  refine wl_take hF rfl rfl rfl rfl <| wl hF rfl rfl rfl (r_load1 sc3 (hF.ev rfl) (hc26 0 _ rfl)) fun a hF => ?_
  exact je 10 hF hS rfl rfl rfl rfl
 intro a w2 hF hS
 refine wl_nil <| hK3 _ _ <| cx 30 hF rfl (fun c30 hF => ?_) fun c30 hF => ?_
 ·
  refine rg hF rfl fun a hF => ?_
  refine xr ?_
  first
    | (have e : ¬ hitB s.cells a_ u_ = true := fun h => by unfold hitB at h; simp only [Bool.and_eq_true, decide_eq_true_eq] at h; rcases c30 with c | c; omega; exact c h.2
       refine ret1 rfl hF rfl ⟨congrArg Value.bool (Eq.symm (by simpa using e)), ?_⟩; unfold swapS; rw [if_neg e, if_neg e]; exact hS)
    | (have e : hitB s.cells a_ u_ = true := by unfold hitB; simp only [Bool.and_eq_true, decide_eq_true_eq]; exact ⟨by omega, c30.2⟩
       refine ret1 rfl hF rfl ⟨congrArg Value.bool e.symm, ?_⟩; unfold swapS; rw [if_pos e, if_pos e]; exact hS)
 refine wp_skip <| hK2 _ _ <| ws fun K5 hK5 => ga 3 hF rfl fun a hF => ?_
 refine ck hF rfl (l9Put_c hS) ?_; rintro v w3 a ⟨rfl, hS⟩ hF
 refine wl_nil <| hK5 _ _ <| rg hF rfl fun a hF => ?_
 refine xr ?_
 first
   | (have e : ¬ hitB s.cells a_ u_ = true := fun h => by unfold hitB at h; simp only [Bool.and_eq_true, decide_eq_true_eq] at h; rcases c30 with c | c; omega; exact c h.2
      refine ret1 rfl hF rfl ⟨congrArg Value.bool (Eq.symm (by simpa using e)), ?_⟩; unfold swapS; rw [if_neg e, if_neg e]; exact hS)
   | (have e : hitB s.cells a_ u_ = true := by unfold hitB; simp only [Bool.and_eq_true, decide_eq_true_eq]; exact ⟨by omega, c30.2⟩
      refine ret1 rfl hF rfl ⟨congrArg Value.bool e.symm, ?_⟩; unfold swapS; rw [if_pos e, if_pos e]; exact hS)
theorem l9Cell_c {W w : World} {l : List Res} {g : Nat} {v0 v1 v2 : Value} {s : Sl.State} {h f : Int} (hh : int64 h) (hg : (s.generations.length : Int) = s.config.capacity) (hS : Sep W (Box g ((s).encv v0 v1 v2) :: Own intEK v1 s.generations :: l) w) : Calls Tryz.prog 166 #[.pointer (some ⟨g, 0, none⟩), vi h, vi f] w (Ret fun r w' => r = vi (cellOf s h f) ∧ Sep W (Box g ((faultS s h).encv v0 v1 v2) :: Own intEK v1 s.generations :: l) w') := by
 refine cfr Tryz.func166 Tryz.ntmps166 fun a hF => ?_
 have hu := int64_unmarked hh
 obtain ⟨z1, rfl⟩ := hS.own_sv (q := 1) rfl
 have hl1 := hS.own_len (q := 1) rfl
 refine rg hF rfl fun a hF => ws fun K2 hK2 => ga 1 hF rfl fun a hF => ckr hF hS rfl (specUnmarked_c hh) fun w1 a hS hF => ge hK2 hF rfl fun a hF => wp_seq_k fun K3 hK3 => wp_seq_k fun K4 hK4 => ?_
 refine wp_region_calm (by kernel_rfl) (by kernel_rfl) <| qa 1 hF tk rfl fun a hF => qk hF rfl (fun w_ hB_ => specIsHandle_c hu) fun a hF => qa 2 hF tk rfl fun a hF => ?_
 apply wq_or (A := [_, _, _, _, _, _, _, _, _]) (pk := 22) hF (tc := 13) rfl
 ·
  intro hg13 a hF; try simp only [zb] at hg13
  refine qa 1 hF tk rfl fun a hF => qk hF rfl (fun w_ hB_ => specIndexOf_c hu) fun a hF => qb 7 0 hF tk hS rfl rfl rfl fun a hF => ?_
  exact wpQuiet_nil ((Fr.pre (A := [_, _, _, _, _, _, _, _, _]) hF rfl).keep hF (t := 22) rfl)
 ·
  intro hg13 a hF; try simp only [zb] at hg13
  refine qa 9 hF tk rfl fun a hF => ?_
  exact wpQuiet_nil ((Fr.pre (A := [_, _, _, _, _, _, _, _, _]) hF rfl).keep hF (t := 22) rfl)
 intro a hF
 refine qa 1 hF tk rfl fun a hF => ?_
 apply wq_or (A := [_, _, _, _, _, _, _, _, _, _, _, _]) (pk := 35) hF (tc := 23) rfl
 ·
  intro hg23 a hF; try simp only [zb] at hg23
  have hi0 := indexOf_pos hg23.1
  refine qb 5 0 hF tk hS rfl rfl rfl fun a hF => qk hF rfl (fun w_ hB_ => specIndexOf_c hu) fun a hF => wq_take hF rfl rfl rfl rfl ?_
  obtain ⟨g30, o30, m30, q30, hv30, hm30, hl30, hc30⟩ := Rd.atF ((hS.own_rd (i := 1) rfl)) (a := a) (X := .tmp 29) (hF.ev rfl) (by omega) (by omega)
  refine wq hF rfl rfl rfl (fun w_ hB_ => r_index sl26 ((hF.ev rfl).trans hv30) (hF.ev rfl) (by omega) (by first | omega | (simp at hm30; omega))) fun a hF => ?_
  refine wq_take hF rfl rfl rfl rfl <| wq hF rfl rfl rfl (fun w_ hB_ => r_load1 sc3 (hF.ev rfl) (cellB hB_ (hc30 0 _ rfl))) fun a hF => qa 1 hF tk rfl fun a hF => qk hF rfl (fun w_ hB_ => specGenOf_c hu) fun a hF => qa 2 hF tk rfl fun a hF => ?_
  exact wpQuiet_nil ((Fr.pre (A := [_, _, _, _, _, _, _, _, _, _, _, _]) hF rfl).keep hF (t := 35) rfl)
 ·
  intro hg23 a hF; try simp only [zb] at hg23
  refine qa 12 hF tk rfl fun a hF => ?_
  exact wpQuiet_nil ((Fr.pre (A := [_, _, _, _, _, _, _, _, _, _, _, _]) hF rfl).keep hF (t := 35) rfl)
 intro a hF
 refine wpQuiet_nil ?_; intro w4 hB_; have hS := hS.ext hB_
 refine hK4 _ _ <| cx 35 hF rfl (fun c35 hF => ?_) fun c35 hF => ?_
 ·
  refine ws fun K5 hK5 => gb 8 0 hF hS rfl rfl rfl fun a hF => wv 0 hF hS rfl rfl rfl rfl rfl rfl fun w5 hS => wl_nil <| hK5 _ _ <| rg hF rfl fun a hF => ?_
  refine xr ?_
  first
    | (have e : ¬ curB s.config s.generations h = true := fun h' => by unfold curB isNode at h'; simp only [Bool.and_eq_true, decide_eq_true_eq] at h'; rcases c35 with (c | c) | c; (rw [h'.1.1] at c; cases c); omega; exact c h'.2
       refine ret1 rfl hF rfl ⟨congrArg vi (Eq.symm (if_neg e)), ?_⟩; unfold faultS; rw [if_neg e]; exact hS)
    | (have e : curB s.config s.generations h = true := by unfold curB isNode; simp only [Bool.and_eq_true, decide_eq_true_eq]; exact ⟨⟨c35.1.1, by omega⟩, c35.2⟩
       refine ret1 rfl hF rfl ⟨congrArg vi (Eq.symm (if_pos e)), ?_⟩; unfold faultS; rw [if_pos e]; exact hS)
 refine wp_skip <| hK3 _ _ <| wp_seq_k fun K7 hK7 => wp_region_calm (by kernel_rfl) (by kernel_rfl) <| qa 3 hF tk rfl fun a hF => wq hF rfl rfl rfl (fun w_ hB_ => r_loadn ag25 (hF.ev rfl) ((hS.ext hB_).boxn (vs := [_, _, _, _, _, _]) (i := 0) (m := 6) rfl rfl) sz25) fun a hF => qa 1 hF tk rfl fun a hF => ?_
 refine qk hF rfl (fun w_ hB_ => specIndexOf_c hu) fun a hF => qa 1 hF tk rfl fun a hF => qk hF rfl (fun w_ hB_ => specNodeCell_c _ _ _) fun a hF => qa 1 hF tk rfl fun a hF => ?_
 refine wpQuiet_nil ?_; intro w6 hB_; have hS := hS.ext hB_
 refine hK7 _ _ ?_
 refine xr ?_
 first
   | (have e : ¬ curB s.config s.generations h = true := fun h' => by unfold curB isNode at h'; simp only [Bool.and_eq_true, decide_eq_true_eq] at h'; rcases c35 with (c | c) | c; (rw [h'.1.1] at c; cases c); omega; exact c h'.2
      refine ret1 rfl hF rfl ⟨congrArg vi (Eq.symm (if_neg e)), ?_⟩; unfold faultS; rw [if_neg e]; exact hS)
   | (have e : curB s.config s.generations h = true := by unfold curB isNode; simp only [Bool.and_eq_true, decide_eq_true_eq]; exact ⟨⟨c35.1.1, by omega⟩, c35.2⟩
      refine ret1 rfl hF rfl ⟨congrArg vi (Eq.symm (if_pos e)), ?_⟩; unfold faultS; rw [if_pos e]; exact hS)
theorem l10Clear_c {W w : World} {l : List Res} {gt ot mt ct p : Nat} {ts : List Sl.Thread} {t : Sl.Thread} (hp : p < ts.length) (hS : Sep W (Own threadEK (.slice (some ⟨gt, ot, none⟩) mt ct) (ts.set p (t)) :: l) w) : Calls Tryz.prog 98 #[.pointer (some ⟨gt, ot + p * 19, none⟩)] w (Ret fun u w' => u = .tuple #[] ∧ Sep W (Own threadEK (.slice (some ⟨gt, ot, none⟩) mt ct) (ts.set p (clearT t)) :: l) w') := by
 refine cfr Tryz.func98 Tryz.ntmps98 fun a hF => ?_
 refine ws fun K1 hK1 => ga 3 hF rfl fun a hF => ?_
 refine es 0 7 hF hS hp rfl rfl rfl rfl rfl rfl fun w1 hS => ?_
 refine wl_nil <| hK1 _ _ <| ws fun K2 hK2 => ga 3 hF rfl fun a hF => ?_
 refine es 0 8 hF hS hp rfl rfl rfl rfl rfl rfl fun w2 hS => ?_
 refine wl_nil <| hK2 _ _ <| ws fun K3 hK3 => ga 3 hF rfl fun a hF => ?_
 refine es 0 9 hF hS hp rfl rfl rfl rfl rfl rfl fun w3 hS => ?_
 refine wl_nil <| hK3 _ _ <| ws fun K4 hK4 => ga 3 hF rfl fun a hF => ?_
 refine es 0 10 hF hS hp rfl rfl rfl rfl rfl rfl fun w4 hS => ?_
 refine wl_nil <| hK4 _ _ <| ws fun K5 hK5 => ga 3 hF rfl fun a hF => ?_
 refine es 0 11 hF hS hp rfl rfl rfl rfl rfl rfl fun w5 hS => ?_
 refine wl_nil <| hK5 _ _ <| ws fun K6 hK6 => ga 3 hF rfl fun a hF => ?_
 refine es 0 12 hF hS hp rfl rfl rfl rfl rfl rfl fun w6 hS => ?_
 refine wl_nil <| hK6 _ _ <| ws fun K7 hK7 => ga 3 hF rfl fun a hF => ?_
 refine es 0 13 hF hS hp rfl rfl rfl rfl rfl rfl fun w7 hS => ?_
 refine wl_nil <| hK7 _ _ <| wp_region_lit <| ga 1 hF rfl fun a hF => wl_bslice intEK [] [] rfl hF hS rfl mk26 rfl trivial rfl rfl rfl rfl fun gl_24 w8 a hS hF => ga 2 hF rfl fun a hF => ?_
 replace hS := hS.pull (p := 0) rfl; dsimp only [List.eraseIdx] at hS
 refine wl_eslice (s := (_, _, _)) (k' := 0) (q := 0) (j := 14) (⟨_, ⟨_, _, _⟩, ⟨_, _⟩, _, _, _, _, _, _, _, _, _, _, _, _, _⟩ : Sl.Thread) (fun vs => [(_, _, _), vs.getD 1 (none, 0, 0), vs.getD 2 (none, 0, 0), vs.getD 3 (none, 0, 0), vs.getD 4 (none, 0, 0)]) hF hS hp rfl sz26 (hF.ev rfl) rfl (hF.ev rfl) (fun _ => rfl) (fun _ => by dsimp only [threadEK, Thread.encv, List.set] <;> rfl) (by intro _; rfl) (by intro _; rfl) fun w9 hS => ?_; dsimp only [List.set] at hS
 refine wl_nil ?_
 refine xt ?_
 exact ret0n rfl hF ⟨rfl, hS⟩
theorem l10Finish_c {W w : World} {l : List Res} {g gt ot mt ct p : Nat} {v0 v1 : Value} {s : Sl.State} {ts : List Sl.Thread} {t : Sl.Thread} (hp : p < ts.length) {c x : Int} (hS : Sep W (Box g ((s).encv v0 v1 (.slice (some ⟨gt, ot, none⟩) mt ct)) :: Own threadEK (.slice (some ⟨gt, ot, none⟩) mt ct) (ts.set p (t)) :: l) w) : Calls Tryz.prog 49 #[.pointer (some ⟨g, 0, none⟩), vi (p : Int), vi c, vi x] w (Ret fun u w' => u = .tuple #[] ∧ Sep W (Box g ((s).encv v0 v1 (.slice (some ⟨gt, ot, none⟩) mt ct)) :: Own threadEK (.slice (some ⟨gt, ot, none⟩) mt ct) (ts.set p (endT t c x)) :: l) w') := by
 refine cfr Tryz.func49 Tryz.ntmps49 fun a hF => ?_
 have hmt := hS.own_len (s := (some ⟨gt, ot, none⟩, mt, ct)) (q := 1) rfl
 simp only [List.length_set] at hmt
 refine ws fun K1 hK1 => gb 5 0 hF hS rfl rfl rfl fun a hF => ?_
 refine wl hF rfl rfl rfl (r_index sl27 (hF.ev rfl) (hF.ev rfl) (by omega) (by first | omega | (dsimp only; omega))) fun a hF => ?_
 replace hS := hS.pm 2 [1, 0] rfl
 refine ck hF rfl (l10Clear_c hp hS) ?_; rintro v w1 a ⟨rfl, hS⟩ hF
 refine wl_nil <| hK1 _ _ <| ws fun K2 hK2 => gb 5 1 hF hS rfl rfl rfl fun a hF => ?_
 refine wl hF rfl rfl rfl (r_index sl27 (hF.ev rfl) (hF.ev rfl) (by omega) (by first | omega | (dsimp only; omega))) fun a hF => ?_
 refine ga 1 hF rfl fun a hF => ?_
 refine es 0 0 hF hS hp rfl rfl rfl rfl rfl rfl fun w2 hS => ?_
 refine wl_nil <| hK2 _ _ <| wp_region_lit <| gb 7 1 hF hS rfl rfl rfl fun a hF => wl hF rfl rfl rfl (r_build (bd39_0_1 _ _) ⟨rfl, (hF.ev rfl), rfl, (hF.ev rfl), trivial⟩) fun a hF => ?_
 refine wl hF rfl rfl rfl (r_index sl27 (hF.ev rfl) (hF.ev rfl) (by omega) (by first | omega | (dsimp only; omega))) fun a hF => ?_
 refine ga 1 hF rfl fun a hF => ?_
 refine wl_estoren (us := [_, _]) (q := 0) (j := 4) (⟨_, ⟨_, _, _⟩, ⟨_, _⟩, _, _, _, _, _, _, _, _, _, _, _, _, _⟩ : Sl.Thread) hF hS hp rfl sz39 (hF.ev rfl) rfl ((hF.ev rfl).trans rfl) rfl (fun _ => ⟨rfl, rfl⟩) (fun _ => by dsimp only [threadEK, Thread.encv, List.take, List.drop, List.cons_append, List.nil_append, List.length_cons, List.length_nil, Nat.reduceAdd] <;> rfl) (by intro _; rfl) fun w3 hS => ?_; dsimp only [List.set] at hS
 refine wl_nil ?_
 refine xt ?_
 exact ret0n rfl hF ⟨rfl, (hS.pm 2 [1, 0] rfl)⟩
set_option maxRecDepth 20000
theorem cloneI_c {W : World} {va : Value} {xs : List Int} (ha : intEK.Rd W va xs) (hz : xs.length ≤ 1099511627776) : Calls Tryz.prog 86 #[va] W (Ret (Mk W (fun s : Slv => sv s) (fun s => [Own intEK (sv s) xs]))) := by
 refine cfr Tryz.func86 Tryz.ntmps86 fun a hF => ?_
 have hS := Sep.refl W
 obtain ⟨A_a, q_a, rfl, hq_a, hn_a⟩ := ha.sl; unfold maxLen at hn_a
 refine rg hF rfl fun a hF => wp_seq_k fun K2 hK2 => ws fun K3 hK3 => ga 1 hF rfl fun a hF => wl hF rfl rfl rfl (r_eqnil ul26 (hF.ev rfl) ec) fun a hF => wl_nil <| hK3 _ _ <| cx 4 hF rfl (fun c4 hF => ?_) fun c4 hF => ?_
 ·
  refine rg hF rfl fun a hF => ?_
  refine xr ?_
  first
    | (obtain rfl : xs = [] := Rd.none_nil ha c4; refine ret1 rfl hF rfl ?_; exact Sep.mkS ((Sep.refl W).ext hS.old |>.own_nil _) rfl)
    | (refine ret1 rfl hF rfl ?_; exact Sep.mkS (hS.pick [99] (by decide) rfl) rfl)
 refine wp_skip <| hK2 _ _ <| ws fun K5 hK5 => wl_bslice intEK [] [] rfl hF hS rfl mk26 rfl trivial rfl rfl rfl rfl fun gl_5 w1 a hS hF => ga 1 hF rfl fun a hF => ?_
 refine wl_append0 hF hS rfl (hS.rd ha) mk26 rfl (by omega) (by unfold maxLen; omega) (hF.ev rfl) (hF.ev rfl) fun s7 w2 a hS hF => ?_
 refine ge hK5 hF rfl fun a hF => ?_
 refine xr ?_
 first
   | (obtain rfl : xs = [] := Rd.none_nil ha c4; refine ret1 rfl hF rfl ?_; exact Sep.mkS ((Sep.refl W).ext hS.old |>.own_nil _) rfl)
   | (refine ret1 rfl hF rfl ?_; exact Sep.mkS (hS.pick [0] (by decide) rfl) rfl)
theorem cloneE_c {W : World} {va : Value} {xs : List Entry} (ha : entryEK.Rd W va xs) (hz : xs.length ≤ 1099511627776) : Calls Tryz.prog 146 #[va] W (Ret (Mk W (fun s : Slv => sv s) (fun s => [Own entryEK (sv s) xs]))) := by
 refine cfr Tryz.func146 Tryz.ntmps146 fun a hF => ?_
 have hS := Sep.refl W
 obtain ⟨A_a, q_a, rfl, hq_a, hn_a⟩ := ha.sl; unfold maxLen at hn_a
 refine rg hF rfl fun a hF => wp_seq_k fun K2 hK2 => ws fun K3 hK3 => ga 1 hF rfl fun a hF => wl hF rfl rfl rfl (r_eqnil ul40 (hF.ev rfl) ec) fun a hF => wl_nil <| hK3 _ _ <| cx 4 hF rfl (fun c4 hF => ?_) fun c4 hF => ?_
 ·
  refine rg hF rfl fun a hF => ?_
  refine xr ?_
  first
    | (obtain rfl : xs = [] := Rd.none_nil ha c4; refine ret1 rfl hF rfl ?_; exact Sep.mkS ((Sep.refl W).ext hS.old |>.own_nil _) rfl)
    | (refine ret1 rfl hF rfl ?_; exact Sep.mkS (hS.pick [99] (by decide) rfl) rfl)
 refine wp_skip <| hK2 _ _ <| ws fun K5 hK5 => wl_bslice entryEK [] [] rfl hF hS rfl mk40 rfl trivial rfl rfl rfl rfl fun gl_5 w1 a hS hF => ga 1 hF rfl fun a hF => ?_
 refine wl_append0 hF hS rfl (hS.rd ha) mk40 rfl (by omega) (by unfold maxLen; omega) (hF.ev rfl) (hF.ev rfl) fun s7 w2 a hS hF => ?_
 refine ge hK5 hF rfl fun a hF => ?_
 refine xr ?_
 first
   | (obtain rfl : xs = [] := Rd.none_nil ha c4; refine ret1 rfl hF rfl ?_; exact Sep.mkS ((Sep.refl W).ext hS.old |>.own_nil _) rfl)
   | (refine ret1 rfl hF rfl ?_; exact Sep.mkS (hS.pick [0] (by decide) rfl) rfl)
theorem copyThread_c {W : World} {t : Sl.Thread} {cs : List Value} (hm : threadEK.K W t cs) (hz : t.size ≤ 1048576) : Calls Tryz.prog 87 #[.agg cs.toArray] W (Ret (Mk W (fun vs => .agg (threadEK.cells t vs).toArray) (fun vs => [Part threadEK t vs]))) := by
 refine cfr Tryz.func87 Tryz.ntmps87 fun a hF => ?_
 have hS := Sep.refl W
 obtain ⟨v0, v1, v2, v3, v4, rfl, r0, r1, r2, r3, r4⟩ := hm
 obtain ⟨A_a, q_a, rfl, hq_a, hn_a⟩ := r0.sl; unfold maxLen at hn_a
 obtain ⟨A_b, q_b, rfl, hq_b, hn_b⟩ := r1.sl; unfold maxLen at hn_b
 obtain ⟨A_c, q_c, rfl, hq_c, hn_c⟩ := r2.sl; unfold maxLen at hn_c
 obtain ⟨A_d, q_d, rfl, hq_d, hn_d⟩ := r3.sl; unfold maxLen at hn_d
 obtain ⟨A_e, q_e, rfl, hq_e, hn_e⟩ := r4.sl; unfold maxLen at hn_e
 have hz1 := hz; unfold Sl.Thread.size at hz1
 refine ws fun K1 hK1 => wl_box (cs := [_, _, _, _, _, _, _, _, _, _, _, _, _, _, _, _, _, _, _]) hF hS rfl (hF.ev rfl) rfl fun g1 w1 a hS _ hF => wl_alloc hF hS rfl zr42 fun g2 w2 a hS _ hF => wl_nil <| hK1 _ _ <| wp_seq_k fun K2 hK2 => ?_
 refine wp_region_todo (is := [0, 1, 3, 4, 6, 7, 2, 9, 5, 8, 10, 11, 12, 13, 14]) [] [10, 11, 12, 13, 14] (by kernel_rfl) hF hS ⟨trivial, by decide, by decide, by decide⟩ (by kernel_rfl) ?_; intro hl_ wd hSd
 refine tp 1 hl_ rfl <| todo_load [2, 5, 8, 9, 10, 11, 12, 13, 14] hl_ (by kernel_rfl) rfl (gw0 rfl) rfl rfl rfl (fun a w_ hF hB_ => r_load1 sc26 (hF.ev rfl) ((hSd.ext hB_).box (i := 1) rfl rfl)) <| tp 1 hl_ rfl <| todo_load [5, 8, 9, 10, 11, 12, 13, 14] hl_ (by kernel_rfl) rfl (gw0 rfl) rfl rfl rfl (fun a w_ hF hB_ => r_load1 sc26 (hF.ev rfl) ((hSd.ext hB_).box (i := 1) rfl rfl)) <| tp 1 hl_ rfl <| todo_load [8, 9, 10, 11, 12, 13, 14] hl_ (by kernel_rfl) rfl (gw0 rfl) rfl rfl rfl (fun a w_ hF hB_ => r_load1 sc26 (hF.ev rfl) ((hSd.ext hB_).box (i := 1) rfl rfl)) ?_
 refine todo_mk hl_ rfl (by kernel_rfl) rfl rfl rfl rfl rfl (fun a w_ hF => r_call1 en86 (hF.ev rfl)) (fun w_ hS => cloneI_c (hS.rd r0) (by omega)) ?_; rintro s5
 refine tp 1 hl_ rfl ?_
 refine todo_mk hl_ rfl (by kernel_rfl) rfl rfl rfl rfl rfl (fun a w_ hF => r_call1 en86 (hF.ev rfl)) (fun w_ hS => cloneI_c (hS.rd r1) (by omega)) ?_; rintro s8
 refine todo_mk hl_ rfl (by kernel_rfl) rfl rfl rfl rfl rfl (fun a w_ hF => r_call1 en86 (hF.ev rfl)) (fun w_ hS => cloneI_c (hS.rd r4) (by omega)) ?_; rintro s11
 refine todo_fin hl_ rfl (by kernel_rfl) (tl := [_, _, _, _, _]) rfl ?_; intro a w3 hF hA_
 have hS := hA_.sep; clear hA_
 clear hl_; try clear hSd
 try dsimp only [List.cons_append, List.nil_append, List.set] at hS
 try clear wd
 refine wv 4 hF hS rfl rfl rfl rfl rfl rfl fun w4 hS => ga 1 hF rfl fun a hF => wv 4 hF hS rfl rfl rfl rfl rfl rfl fun w5 hS => ga 1 hF rfl fun a hF => wv 4 hF hS rfl rfl rfl rfl rfl rfl fun w6 hS => wl_nil ⟨rfl, ?_⟩
 refine hK2 _ _ <| wp_seq_k fun K3 hK3 => ?_
 refine wp_region_todo (is := [0, 1, 3, 4, 2, 6, 5, 7, 8, 9]) [] [7, 8, 9] (by kernel_rfl) hF hS ⟨trivial, by decide, by decide, by decide⟩ (by kernel_rfl) ?_; intro hl_ wd hSd
 refine tp 1 hl_ rfl <| todo_load [2, 5, 6, 7, 8, 9] hl_ (by kernel_rfl) rfl (gw0 rfl) rfl rfl rfl (fun a w_ hF hB_ => r_load1 sc40 (hF.ev rfl) ((hSd.ext hB_).box (i := 4) rfl rfl)) <| tp 1 hl_ rfl <| todo_load [5, 6, 7, 8, 9] hl_ (by kernel_rfl) rfl (gw0 rfl) rfl rfl rfl (fun a w_ hF hB_ => r_load1 sc40 (hF.ev rfl) ((hSd.ext hB_).box (i := 4) rfl rfl)) ?_
 refine todo_mk hl_ rfl (by kernel_rfl) rfl rfl rfl rfl rfl (fun a w_ hF => r_call1 en146 (hF.ev rfl)) (fun w_ hS => cloneE_c (hS.rd r2) (by omega)) ?_; rintro s17
 refine tp 1 hl_ rfl ?_
 refine todo_mk hl_ rfl (by kernel_rfl) rfl rfl rfl rfl rfl (fun a w_ hF => r_call1 en146 (hF.ev rfl)) (fun w_ hS => cloneE_c (hS.rd r3) (by omega)) ?_; rintro s20
 refine todo_fin hl_ rfl (by kernel_rfl) (tl := [_, _, _]) rfl ?_; intro a w7 hF hA_
 have hS := hA_.sep; clear hA_
 clear hl_; try clear hSd
 try dsimp only [List.cons_append, List.nil_append, List.set] at hS
 try clear wd
 refine wv 6 hF hS rfl rfl rfl rfl rfl rfl fun w8 hS => ga 1 hF rfl fun a hF => wv 6 hF hS rfl rfl rfl rfl rfl rfl fun w9 hS => wl_nil ⟨rfl, ?_⟩
 refine hK3 _ _ <| ws fun K4 hK4 => gb 1 6 hF hS rfl rfl rfl fun a hF => ww 5 hF hS rfl rfl rfl rfl rfl rfl fun w10 hS => wl_nil (hK4 _ _ ?_)
 refine xr ?_
 exact ret1c rfl ag42 hF hS (i := 5) rfl sz42 rfl ⟨[s5, s8, s17, s20, s11], rfl, hS.part_of [4, 3, 1, 0, 2] (by decide) rfl⟩
theorem copyState_c {W : World} {s : Sl.State} {cs : List Value} (hm : stateEK.K W s cs) (hz : (s.size : Int) ≤ 1048576) : Calls Tryz.prog 39 #[.agg cs.toArray] W (Ret (Mk W (fun vs => .agg (stateEK.cells s vs).toArray) (fun vs => [Part stateEK s vs]))) := by
 refine cfr Tryz.func39 Tryz.ntmps39 fun a hF => ?_
 have hS := Sep.refl W
 obtain ⟨v0, v1, v2, rfl, r0, r1, r2⟩ := hm
 obtain ⟨A_a, q_a, rfl, hq_a, hn_a⟩ := r0.sl; unfold maxLen at hn_a
 obtain ⟨A_b, q_b, rfl, hq_b, hn_b⟩ := r1.sl; unfold maxLen at hn_b
 obtain ⟨A_c, q_c, rfl, hq_c, hn_c⟩ := r2.sl; unfold maxLen at hn_c
 have hz1 := hz; unfold Sl.State.size at hz1
 refine ws fun K1 hK1 => wl_box (cs := [_, _, _, _, _, _, _, _, _, _, _, _, _]) hF hS rfl (hF.ev rfl) rfl fun g1 w1 a hS _ hF => wl_alloc hF hS rfl zr29 fun g2 w2 a hS _ hF => wl_nil <| hK1 _ _ <| ws fun K2 hK2 => gb 1 1 hF hS rfl rfl rfl fun a hF => wl_alloc hF hS rfl zr29 fun g3 w3 a hS _ hF => ?_
 refine ww 0 hF hS rfl rfl rfl rfl rfl rfl fun w4 hS => wl_nil <| hK2 _ _ <| wp_seq_k fun K3 hK3 => ?_
 refine wp_region_todo (is := [0, 1, 3, 4, 2, 6, 5, 7, 8, 9, 10, 11]) [] [7, 8, 9, 10, 11] (by kernel_rfl) hF hS ⟨trivial, by decide, by decide, by decide⟩ (by kernel_rfl) ?_; intro hl_ wd hSd
 refine tp 1 hl_ rfl <| todo_load [2, 5, 6, 7, 8, 9, 10, 11] hl_ (by kernel_rfl) rfl (gw0 rfl) rfl rfl rfl (fun a w_ hF hB_ => r_load1 sc26 (hF.ev rfl) ((hSd.ext hB_).box (i := 2) rfl rfl)) <| tp 1 hl_ rfl <| todo_load [5, 7, 8, 9, 10, 11] hl_ (by kernel_rfl) rfl (gw0 rfl) rfl rfl rfl (fun a w_ hF hB_ => r_load1 sc26 (hF.ev rfl) ((hSd.ext hB_).box (i := 2) rfl rfl)) ?_
 refine todo_mk hl_ rfl (by kernel_rfl) rfl rfl rfl rfl rfl (fun a w_ hF => r_call1 en86 (hF.ev rfl)) (fun w_ hS => cloneI_c (hS.rd r0) (by omega)) ?_; rintro s9
 refine tp 1 hl_ rfl ?_
 refine todo_mk hl_ rfl (by kernel_rfl) rfl rfl rfl rfl rfl (fun a w_ hF => r_call1 en86 (hF.ev rfl)) (fun w_ hS => cloneI_c (hS.rd r1) (by omega)) ?_; rintro s12
 refine todo_fin hl_ rfl (by kernel_rfl) (tl := [_, _, _, _, _]) rfl ?_; intro a w5 hF hA_
 have hS := hA_.sep; clear hA_
 clear hl_; try clear hSd
 try dsimp only [List.cons_append, List.nil_append, List.set] at hS
 try clear wd
 refine wv 2 hF hS rfl rfl rfl rfl rfl rfl fun w6 hS => ga 1 hF rfl fun a hF => wv 2 hF hS rfl rfl rfl rfl rfl rfl fun w7 hS => ga 1 hF rfl fun a hF => wv 2 hF hS rfl rfl rfl rfl rfl rfl fun w8 hS => wl_nil ⟨rfl, ?_⟩
 refine hK3 _ _ <| wp_seq_k fun K4 hK4 => rh 4 hF hS rfl rfl rfl fun a hF => wp_block ?_
 replace hS := hS.own_nil threadEK
 replace hS := hS.pull (p := 3) rfl; dsimp only [List.eraseIdx] at hS
 replace hS := hS.pull (p := 1) rfl; dsimp only [List.eraseIdx] at hS
 have hL_ := ((((hF.nil.keep hF (t := 18) rfl).keep hF (t := 17) rfl).keep hF (t := 3) rfl).keep hF (t := 2) rfl)
 refine wp_loop_m (σ := Nat × Slv) (fun z L_ => (19, vi z.1) :: L_) (fun z l_ => (Own threadEK (sv z.2) (s.threads.take z.1)) :: (Box g3 (s.encv (sv s9) (sv s12) (sv z.2))) :: l_) (fun z => (z.1 ≤ s.threads.length)) (fun z => s.threads.length - z.1) (0, (none, 0, 0)) (hS) (hL_.keepE hF (t := 19) rfl rfl) ?_ ?_
 · exact Nat.zero_le _
 rintro ⟨k, q⟩ a w9 hk hS hF; try dsimp only at hF; try dsimp only at hS; try dsimp only at hk
 dsimp only [Sl.State.encv] at hS
 refine rg hF rfl fun a hF => wp_seq_k fun K7 hK7 => cx 20 hF rfl (fun c20 hF => ?_) fun c20 hF => ?_
 ·
  have hlt : k < s.threads.length := by omega
  have hx := at0_nat hlt
  have hc1 := crow_le1 (c := Sl.Thread.size) hx
  refine wp_skip <| hK7 _ _ <| wp_seq_k fun K8 hK8 => wp_block <| ws fun K9 hK9 => ?_
  obtain ⟨g21, o21, m21, q21, cs21, hv21, hm21, hl21, hk21, hz21, hc21⟩ := Rd.at (r2) (a := a) (X := .tmp 19) (hF.ev rfl) (by omega) (by omega)
  have hkk21 := hk21; obtain ⟨v21_0, v21_1, v21_2, v21_3, v21_4, rfl, r21_0, r21_1, r21_2, r21_3, r21_4⟩ := hk21
  obtain ⟨A21_0, q21_0, rfl, hq21_0, hn21_0⟩ := r21_0.sl; unfold maxLen at hn21_0
  obtain ⟨A21_1, q21_1, rfl, hq21_1, hn21_1⟩ := r21_1.sl; unfold maxLen at hn21_1
  obtain ⟨A21_2, q21_2, rfl, hq21_2, hn21_2⟩ := r21_2.sl; unfold maxLen at hn21_2
  obtain ⟨A21_3, q21_3, rfl, hq21_3, hn21_3⟩ := r21_3.sl; unfold maxLen at hn21_3
  obtain ⟨A21_4, q21_4, rfl, hq21_4, hn21_4⟩ := r21_4.sl; unfold maxLen at hn21_4
  refine wl hF rfl rfl rfl (r_index sl27 ((hF.ev rfl).trans hv21) (hF.ev rfl) (by omega) (by first | omega | (simp at hm21; omega))) fun a hF => ?_
  refine wl hF rfl rfl rfl (r_loadn ag42 (hF.ev rfl) (fun j_ u_ hu_ => cellB hS.old (hc21 j_ u_ hu_)) sz42) fun a hF => wl_alloc hF hS rfl zr42 fun g4 w10 a hS _ hF => ww 0 hF hS rfl rfl rfl rfl rfl rfl fun w11 hS => wl_nil (hK9 _ _ ?_)
  refine wp_region_todo (is := [0, 1, 2, 3, 4, 5, 6, 7]) [] [5, 6, 7] (by kernel_rfl) hF hS ⟨trivial, by decide, by decide, by decide⟩ (by kernel_rfl) ?_; intro hl_ wd hSd
  refine tp 1 hl_ rfl <| todo_load [5, 6, 7] hl_ (by kernel_rfl) rfl (gw0 rfl) rfl rfl rfl (fun a w_ hF hB_ => r_load1 sc27 (hF.ev rfl) ((hSd.ext hB_).box (i := 2) rfl rfl)) <| todo_load [3, 4, 5, 6, 7] hl_ (by kernel_rfl) rfl (gw0 rfl) rfl rfl rfl (fun a w_ hF hB_ => r_loadn ag42 (hF.ev rfl) ((hSd.ext hB_).box_rd (i := 0) rfl) sz42) ?_
  refine todo_mk hl_ rfl (by kernel_rfl) rfl rfl rfl rfl rfl (fun a w_ hF => r_call1 en87 (hF.ev rfl)) (fun w_ hS => copyThread_c (hS.k hkk21) (by omega)) ?_; rintro vs26
  refine todo_op hl_ rfl (by kernel_rfl) rfl rfl rfl rfl rfl (fun a w_ hF hS => r_bslice (rawEK threadEK.sz) [.agg (threadEK.cells (at0 s.threads (k : Int)) vs26).toArray] [raw threadEK (at0 s.threads (k : Int)) vs26] rfl mk27 rfl ⟨rfl, (hF.ev rfl), trivial⟩ rfl rfl rfl rfl) ?_; intro gl_27
  refine todo_fin hl_ rfl (by kernel_rfl) (tl := [_, _, _]) rfl ?_; intro a w13 hF hA_
  have hS := hA_.sep; clear hA_
  clear hl_; try clear hSd
  try dsimp only [List.cons_append, List.nil_append, List.set] at hS
  try clear wd
  have hu_ := hS.own_rd (i := 0) rfl
  replace hS := hS.pull (p := 1) rfl; dsimp only [List.eraseIdx] at hS
  replace hS := hS.pull (p := 3) rfl; dsimp only [List.eraseIdx] at hS
  refine wl_appendn (ek := threadEK) hF hS rfl hu_ mk27 rfl (hF.ev rfl) (hF.ev rfl) (by simp; omega) (by unfold maxLen; simp; omega) ?_; clear hF a hu_; intro A_28 c_28 w14 a hS_ hF; replace hS := hS_; clear hS_
  refine ga 1 hF rfl fun a hF => wv 3 hF hS rfl rfl rfl rfl rfl rfl fun w15 hS => wl_nil ⟨rfl, ?_⟩
  refine xt ?_
  refine hK8 _ _ <| rl hF rfl fun a hF => ?_
  refine xt ?_
  rw [← take_at0 (by omega)] at hS
  refine ⟨(k + 1, (_, _, _)), (by dsimp only; omega), (hS.pick [0, 3, 4, 5, 6, 7] (by decide) rfl), (((((hF.nil.keep hF (t := 18) rfl).keep hF (t := 17) rfl).keep hF (t := 3) rfl).keep hF (t := 2) rfl).keepE hF (t := 19) rfl (wk (by omega))), by dsimp only; omega⟩
 refine wp_exit ?_
 refine xt ?_
 refine hK4 _ _ <| ws fun K10 hK10 => gb 1 1 hF hS rfl rfl rfl fun a hF => ww 4 hF hS rfl rfl rfl rfl rfl rfl fun w16 hS => wl_nil (hK10 _ _ ?_)
 refine xr ?_
 obtain rfl : k = s.threads.length := by omega
 rw [List.take_length] at hS
 exact ret1c rfl ag29 hF hS (i := 4) rfl sz29 rfl ⟨[s9, s12, q], rfl, hS.part_of [3, 2, 0] (by decide) rfl⟩
set_option maxRecDepth 20000
theorem stpStore_c {W w : World} {l : List Res} {g gt ot p : Nat} {v0 v1 v2 : Value} {s : Sl.State} {a_ v : Int} (hS : Sep W (Box g (s.encv v0 v1 v2) :: Own intEK v0 s.cells :: l) w) : Calls Tryz.prog 67 #[.agg #[.pointer (some ⟨g, 0, none⟩), .pointer (some ⟨gt, ot + p * 19, none⟩), vi (p : Int)], vi a_, vi v] w (Ret fun u w' => u = .tuple #[] ∧ Sep W (Box g ((putS s a_ v).encv v0 v1 v2) :: Own intEK v0 (putS s a_ v).cells :: l) w') := by
 refine cfr Tryz.func67 Tryz.ntmps67 fun a hF => ?_
 obtain ⟨z0, rfl⟩ := hS.own_sv (q := 1) rfl
 have hl0 := hS.own_len (q := 1) rfl
 obtain ⟨A0, q0, e0, h0, hn0⟩ := (hS.own_rd (i := 1) rfl).sl; unfold maxLen at hn0
 refine ws fun K1 hK1 => wl_box (cs := [_, _, _]) hF hS rfl (hF.ev rfl) rfl fun g1 w1 a hS _ hF => wl_nil <| hK1 _ _ <| ws fun K2 hK2 => gb 5 0 hF hS rfl rfl rfl fun a hF => gb 3 1 hF hS rfl rfl rfl fun a hF => ckr hF hS rfl (in_c _ _ _) fun w2 a hS hF => ?_
 refine wl_nil <| hK2 _ _ <| cx 14 hF rfl (fun c14 hF => ?_) fun c14 hF => ?_
 ·
  rw [w64_id (by omega) (by omega)] at c14
  refine wp_seq_k fun K3 hK3 => ws fun K4 hK4 => gb 4 0 hF hS rfl rfl rfl fun a hF => gb 2 1 hF hS rfl rfl rfl fun a hF => ?_
  obtain ⟨g21, o21, m21, q21, hv21, hm21, hl21, hc21⟩ := Rd.atF ((hS.own_rd (i := 2) rfl)) (a := a) (X := .tmp 20) (hF.ev rfl) (by omega) (by omega)
  refine wl hF rfl rfl rfl (r_index sl26 ((hF.ev rfl).trans hv21) (hF.ev rfl) (by omega) (by first | omega | (simp at hm21; omega))) fun a hF => ?_
  refine wl hF rfl rfl rfl (r_load1 sc3 (hF.ev rfl) (hc21 0 _ rfl)) fun a hF => ge hK4 hF rfl fun a hF => cx 24 hF rfl (fun c24 hF => ?_) fun c24 hF => ?_
  ·
   refine wp_region_lit <| gb 4 0 hF hS rfl rfl rfl fun a hF => gb 4 1 hF hS rfl rfl rfl fun a hF => wv 1 hF hS rfl rfl rfl rfl rfl rfl fun w3 hS => wl_nil <| hK3 _ _ <| wp_region_lit <| gb 4 0 hF hS rfl rfl rfl fun a hF => ?_
   refine gb 3 1 hF hS rfl rfl rfl fun a hF => ?_
   obtain ⟨g40, o40, m40, q40, hv40, hm40, hl40, hc40⟩ := Rd.atF ((hS.own_rd (i := 2) rfl)) (a := a) (X := .tmp 38) (hF.ev rfl) (by omega) (by omega)
   refine wl hF rfl rfl rfl (r_index sl26 ((hF.ev rfl).trans hv40) (hF.ev rfl) (by omega) (by first | omega | (simp at hm40; omega))) fun a hF => ?_
   refine wl_istore (q := 2) hF hS rfl hv40 (by omega) (by omega) sz3 (hF.ev rfl) rfl (hF.ev rfl) fun w4 hS => ?_; dsimp only [List.set] at hS
   refine wl_nil ?_
   refine xt ?_
   first
     | (have e1 : putC s.cells a_ v = s.cells := if_neg (by omega); have e2 : putN s.cells a_ v s.changes = s.changes := if_neg (by omega); refine ret0n rfl hF ⟨rfl, ?_⟩; unfold putS; rw [e1, e2]; exact (hS.pm 3 [1, 2] rfl))
     | (have e1 : putC s.cells a_ v = _ := if_pos (by omega); have e2 : putN s.cells a_ v s.changes = s.changes := if_neg (fun h => h.2 c24); refine ret0n rfl hF ⟨rfl, ?_⟩; unfold putS; rw [e1, e2]; exact (hS.pm 3 [1, 2] rfl))
     | (have e1 : putC s.cells a_ v = _ := if_pos (by omega); have e2 : putN s.cells a_ v s.changes = _ := if_pos ⟨by omega, c24⟩; refine ret0n rfl hF ⟨rfl, ?_⟩; unfold putS; rw [e1, e2]; exact (hS.pm 3 [1, 2] rfl))
  refine wp_skip <| hK3 _ _ <| wp_region_lit <| gb 4 0 hF hS rfl rfl rfl fun a hF => gb 3 1 hF hS rfl rfl rfl fun a hF => ?_
  obtain ⟨g40, o40, m40, q40, hv40, hm40, hl40, hc40⟩ := Rd.atF ((hS.own_rd (i := 2) rfl)) (a := a) (X := .tmp 38) (hF.ev rfl) (by omega) (by omega)
  refine wl hF rfl rfl rfl (r_index sl26 ((hF.ev rfl).trans hv40) (hF.ev rfl) (by omega) (by first | omega | (simp at hm40; omega))) fun a hF => ?_
  refine wl_istore (q := 2) hF hS rfl hv40 (by omega) (by omega) sz3 (hF.ev rfl) rfl (hF.ev rfl) fun w5 hS => ?_; dsimp only [List.set] at hS
  refine wl_nil ?_
  refine xt ?_
  first
    | (have e1 : putC s.cells a_ v = s.cells := if_neg (by omega); have e2 : putN s.cells a_ v s.changes = s.changes := if_neg (by omega); refine ret0n rfl hF ⟨rfl, ?_⟩; unfold putS; rw [e1, e2]; exact (hS.pm 3 [1, 2] rfl))
    | (have e1 : putC s.cells a_ v = _ := if_pos (by omega); have e2 : putN s.cells a_ v s.changes = s.changes := if_neg (fun h => h.2 c24); refine ret0n rfl hF ⟨rfl, ?_⟩; unfold putS; rw [e1, e2]; exact (hS.pm 3 [1, 2] rfl))
    | (have e1 : putC s.cells a_ v = _ := if_pos (by omega); have e2 : putN s.cells a_ v s.changes = _ := if_pos ⟨by omega, c24⟩; refine ret0n rfl hF ⟨rfl, ?_⟩; unfold putS; rw [e1, e2]; exact (hS.pm 3 [1, 2] rfl))
 rw [w64_id (by omega) (by omega)] at c14
 refine wp_skip ?_
 refine xt ?_
 first
   | (have e1 : putC s.cells a_ v = s.cells := if_neg (by omega); have e2 : putN s.cells a_ v s.changes = s.changes := if_neg (by omega); refine ret0n rfl hF ⟨rfl, ?_⟩; unfold putS; rw [e1, e2]; exact (hS.pm 3 [1, 2] rfl))
   | (have e1 : putC s.cells a_ v = _ := if_pos (by omega); have e2 : putN s.cells a_ v s.changes = s.changes := if_neg (fun h => h.2 c24); refine ret0n rfl hF ⟨rfl, ?_⟩; unfold putS; rw [e1, e2]; exact (hS.pm 3 [1, 2] rfl))
   | (have e1 : putC s.cells a_ v = _ := if_pos (by omega); have e2 : putN s.cells a_ v s.changes = _ := if_pos ⟨by omega, c24⟩; refine ret0n rfl hF ⟨rfl, ?_⟩; unfold putS; rw [e1, e2]; exact (hS.pm 3 [1, 2] rfl))
theorem thClear_c {W w : World} {l : List Res} {gt ot mt ct p : Nat} {ts : List Sl.Thread} {t : Sl.Thread} (hp : p < ts.length) (hS : Sep W (Own threadEK (.slice (some ⟨gt, ot, none⟩) mt ct) (ts.set p (t)) :: l) w) : Calls Tryz.prog 42 #[.pointer (some ⟨gt, ot + p * 19, none⟩)] w (Ret fun u w' => u = .tuple #[] ∧ Sep W (Own threadEK (.slice (some ⟨gt, ot, none⟩) mt ct) (ts.set p (clearT t)) :: l) w') := by
 refine cfr Tryz.func42 Tryz.ntmps42 fun a hF => ?_
 refine wp_region_lit <| ga 10 hF rfl fun a hF => ?_
 refine es 0 7 hF hS hp rfl rfl rfl rfl rfl rfl fun w1 hS => ?_
 refine ga 2 hF rfl fun a hF => ?_
 refine es 0 8 hF hS hp rfl rfl rfl rfl rfl rfl fun w2 hS => ?_
 refine ga 2 hF rfl fun a hF => ?_
 refine es 0 9 hF hS hp rfl rfl rfl rfl rfl rfl fun w3 hS => ?_
 refine ga 2 hF rfl fun a hF => ?_
 refine es 0 10 hF hS hp rfl rfl rfl rfl rfl rfl fun w4 hS => ?_
 refine ga 2 hF rfl fun a hF => ?_
 refine es 0 11 hF hS hp rfl rfl rfl rfl rfl rfl fun w5 hS => ?_
 refine ga 2 hF rfl fun a hF => ?_
 refine es 0 12 hF hS hp rfl rfl rfl rfl rfl rfl fun w6 hS => ?_
 refine ga 2 hF rfl fun a hF => ?_
 refine es 0 13 hF hS hp rfl rfl rfl rfl rfl rfl fun w7 hS => ?_
 refine ga 2 hF rfl fun a hF => ?_
 replace hS := hS.own_nil intEK
 refine wl_eslice (s := (_, _, _)) (k' := 0) (q := 0) (j := 14) (⟨_, ⟨_, _, _⟩, ⟨_, _⟩, _, _, _, _, _, _, _, _, _, _, _, _, _⟩ : Sl.Thread) (fun vs => [(_, _, _), vs.getD 1 (none, 0, 0), vs.getD 2 (none, 0, 0), vs.getD 3 (none, 0, 0), vs.getD 4 (none, 0, 0)]) hF hS hp rfl sz26 (hF.ev rfl) rfl ec (fun _ => rfl) (fun _ => by dsimp only [threadEK, Thread.encv, List.set] <;> rfl) (by intro _; rfl) (by intro _; rfl) fun w8 hS => ?_; dsimp only [List.set] at hS
 refine wl_nil ?_
 refine xt ?_
 exact ret0n rfl hF ⟨rfl, hS⟩
theorem thEnd_c {W w : World} {l : List Res} {gt ot mt ct p : Nat} {ts : List Sl.Thread} {t : Sl.Thread} (hp : p < ts.length) {r : Sl.Result} (hS : Sep W (Own threadEK (.slice (some ⟨gt, ot, none⟩) mt ct) (ts.set p (t)) :: l) w) : Calls Tryz.prog 69 #[.pointer (some ⟨gt, ot + p * 19, none⟩), .agg r.enc.toArray] w (Ret fun u w' => u = .tuple #[] ∧ Sep W (Own threadEK (.slice (some ⟨gt, ot, none⟩) mt ct) (ts.set p (endT t r.code r.value)) :: l) w') := by
 refine cfr Tryz.func69 Tryz.ntmps69 fun a hF => ?_
 refine ws fun K1 hK1 => wl_box (cs := [_, _]) hF hS rfl (hF.ev rfl) rfl fun g1 w1 a hS _ hF => wl_nil <| hK1 _ _ <| ws fun K2 hK2 => ga 1 hF rfl fun a hF => ?_
 replace hS := hS.pm 2 [1, 0] rfl
 refine ck hF rfl (thClear_c hp hS) ?_; rintro v w2 a ⟨rfl, hS⟩ hF
 refine wl_nil (hK2 _ _ ?_)
 refine wp_region_todo (is := [0, 1, 3, 4, 2, 5, 6, 7, 8]) [] [5, 6, 7, 8] (by kernel_rfl) hF hS ⟨trivial, by decide, by decide, by decide⟩ (by kernel_rfl) ?_; intro hl_ wd hSd
 refine tp 4 hl_ rfl <| todo_fork [(2, [5, 6, 7, 8]), (5, [2, 6, 7, 8])] hl_ rfl (by kernel_rfl) (List.forall_mem_cons.2 ⟨?_, List.forall_mem_cons.2 ⟨?_, fun _ h_ => nomatch h_⟩⟩)
 ·
  refine op_ld rfl rfl (gw0 rfl) rfl rfl rfl (fun a w_ hF hS => r_loadn ag39 (hF.ev rfl) (hS.box_rd (i := 1) rfl) sz39) ?_
  refine todo_fin hl_ rfl (by kernel_rfl) (tl := [_, _, _, _]) rfl ?_; intro a w3 hF hA_
  have hS := hA_.sep; clear hA_
  clear hl_; try clear hSd
  try dsimp only [List.cons_append, List.nil_append, List.set] at hS
  try clear wd
  refine es 0 0 hF hS hp rfl rfl rfl rfl rfl rfl fun w4 hS => ?_
  refine ga 2 hF rfl fun a hF => ?_
  refine wl_estoren (us := [_, _]) (q := 0) (j := 4) (⟨_, ⟨_, _, _⟩, ⟨_, _⟩, _, _, _, _, _, _, _, _, _, _, _, _, _⟩ : Sl.Thread) hF hS hp rfl sz39 (hF.ev rfl) rfl ((hF.ev rfl).trans rfl) rfl (fun _ => ⟨rfl, rfl⟩) (fun _ => by dsimp only [threadEK, Thread.encv, List.take, List.drop, List.cons_append, List.nil_append, List.length_cons, List.length_nil, Nat.reduceAdd] <;> rfl) (by intro _; rfl) fun w5 hS => ?_; dsimp only [List.set] at hS
  refine wl_nil ⟨rfl, ?_⟩
  refine xt ?_
  exact ret0n rfl hF ⟨rfl, (hS.pm 2 [0] rfl)⟩
 ·
  refine op_est (j := 0) (c0 := 0) (m' := [6, 7, 8]) (⟨_, ⟨_, _, _⟩, ⟨_, _⟩, _, _, _, _, _, _, _, _, _, _, _, _, _⟩ : Sl.Thread) rfl rfl (by kernel_rfl) hp rfl (fun a hF => (hF.ev rfl)) rfl (fun a hF => ec) sz3 rfl (fun _ => rfl) (fun _ => by dsimp only [threadEK, Thread.encv, List.set] <;> rfl) (by intro _; rfl) ?_; try clear hSd; try clear wd; intro wd hSd; try dsimp only [List.set] at hSd
  refine todo_load [6, 7, 8] hl_ (by kernel_rfl) rfl (gw0 rfl) rfl rfl rfl (fun a w_ hF hB_ => r_loadn ag39 (hF.ev rfl) ((hSd.ext hB_).box_rd (i := 1) rfl) sz39) ?_
  refine todo_fin hl_ rfl (by kernel_rfl) (tl := [_, _, _]) rfl ?_; intro a w6 hF hA_
  have hS := hA_.sep; clear hA_
  clear hl_; try clear hSd
  try dsimp only [List.cons_append, List.nil_append, List.set] at hS
  try clear wd
  refine ga 2 hF rfl fun a hF => ?_
  refine wl_estoren (us := [_, _]) (q := 0) (j := 4) (⟨_, ⟨_, _, _⟩, ⟨_, _⟩, _, _, _, _, _, _, _, _, _, _, _, _, _⟩ : Sl.Thread) hF hS hp rfl sz39 (hF.ev rfl) rfl ((hF.ev rfl).trans rfl) rfl (fun _ => ⟨rfl, rfl⟩) (fun _ => by dsimp only [threadEK, Thread.encv, List.take, List.drop, List.cons_append, List.nil_append, List.length_cons, List.length_nil, Nat.reduceAdd] <;> rfl) (by intro _; rfl) fun w7 hS => ?_; dsimp only [List.set] at hS
  refine wl_nil ⟨rfl, ?_⟩
  refine xt ?_
  exact ret0n rfl hF ⟨rfl, (hS.pm 2 [0] rfl)⟩
set_option maxRecDepth 20000
theorem l7Copy_c {W : World} {t : Sl.Thread} {cs : List Value} (hm : threadEK.K W t cs) (hz : t.size ≤ 1048576) : Calls Tryz.prog 90 #[.agg cs.toArray] W (Ret (Mk W (fun vs => .agg (threadEK.cells t vs).toArray) (fun vs => [Part threadEK t vs]))) := by
 refine cfr Tryz.func90 Tryz.ntmps90 fun a hF => ?_
 have hS := Sep.refl W
 obtain ⟨v0, v1, v2, v3, v4, rfl, r0, r1, r2, r3, r4⟩ := hm
 obtain ⟨A_a, q_a, rfl, hq_a, hn_a⟩ := r0.sl; unfold maxLen at hn_a
 obtain ⟨A_b, q_b, rfl, hq_b, hn_b⟩ := r1.sl; unfold maxLen at hn_b
 obtain ⟨A_c, q_c, rfl, hq_c, hn_c⟩ := r2.sl; unfold maxLen at hn_c
 obtain ⟨A_d, q_d, rfl, hq_d, hn_d⟩ := r3.sl; unfold maxLen at hn_d
 obtain ⟨A_e, q_e, rfl, hq_e, hn_e⟩ := r4.sl; unfold maxLen at hn_e
 have hz1 := hz; unfold Sl.Thread.size at hz1
 refine ws fun K1 hK1 => wl_box (cs := [_, _, _, _, _, _, _, _, _, _, _, _, _, _, _, _, _, _, _]) hF hS rfl (hF.ev rfl) rfl fun g1 w1 a hS _ hF => wl_alloc hF hS rfl zr42 fun g2 w2 a hS _ hF => wl_nil <| hK1 _ _ <| ws fun K2 hK2 => gb 1 1 hF hS rfl rfl rfl fun a hF => wl_alloc hF hS rfl zr42 fun g3 w3 a hS _ hF => ?_
 refine ww 0 hF hS rfl rfl rfl rfl rfl rfl fun w4 hS => wl_nil <| hK2 _ _ <| ws fun K3 hK3 => wl_bslice intEK [] [] rfl hF hS rfl mk26 rfl trivial rfl rfl rfl rfl fun gl_5 w5 a hS hF => gb 2 3 hF hS rfl rfl rfl fun a hF => ?_
 refine wl_append0 hF hS rfl (hS.rd r0) mk26 rfl (by omega) (by unfold maxLen; omega) (hF.ev rfl) (hF.ev rfl) fun s8 w6 a hS hF => ?_
 refine ga 1 hF rfl fun a hF => wv 2 hF hS rfl rfl rfl rfl rfl rfl fun w7 hS => wl_nil <| hK3 _ _ <| ws fun K4 hK4 => wl_bslice intEK [] [] rfl hF hS rfl mk26 rfl trivial rfl rfl rfl rfl fun gl_10 w8 a hS hF => gb 2 5 hF hS rfl rfl rfl fun a hF => ?_
 refine wl_append0 hF hS rfl (hS.rd r1) mk26 rfl (by omega) (by unfold maxLen; omega) (hF.ev rfl) (hF.ev rfl) fun s13 w9 a hS hF => ?_
 refine ga 1 hF rfl fun a hF => wv 4 hF hS rfl rfl rfl rfl rfl rfl fun w10 hS => wl_nil <| hK4 _ _ <| ws fun K5 hK5 => wl_bslice entryEK [] [] rfl hF hS rfl mk40 rfl trivial rfl rfl rfl rfl fun gl_15 w11 a hS hF => gb 2 7 hF hS rfl rfl rfl fun a hF => ?_
 refine wl_append0 hF hS rfl (hS.rd r2) mk40 rfl (by omega) (by unfold maxLen; omega) (hF.ev rfl) (hF.ev rfl) fun s18 w12 a hS hF => ?_
 refine ga 1 hF rfl fun a hF => wv 6 hF hS rfl rfl rfl rfl rfl rfl fun w13 hS => wl_nil <| hK5 _ _ <| ws fun K6 hK6 => wl_bslice entryEK [] [] rfl hF hS rfl mk40 rfl trivial rfl rfl rfl rfl fun gl_20 w14 a hS hF => gb 2 9 hF hS rfl rfl rfl fun a hF => ?_
 refine wl_append0 hF hS rfl (hS.rd r3) mk40 rfl (by omega) (by unfold maxLen; omega) (hF.ev rfl) (hF.ev rfl) fun s23 w15 a hS hF => ?_
 refine ga 1 hF rfl fun a hF => wv 8 hF hS rfl rfl rfl rfl rfl rfl fun w16 hS => wl_nil <| hK6 _ _ <| ws fun K7 hK7 => wl_bslice intEK [] [] rfl hF hS rfl mk26 rfl trivial rfl rfl rfl rfl fun gl_25 w17 a hS hF => gb 2 11 hF hS rfl rfl rfl fun a hF => ?_
 refine wl_append0 hF hS rfl (hS.rd r4) mk26 rfl (by omega) (by unfold maxLen; omega) (hF.ev rfl) (hF.ev rfl) fun s28 w18 a hS hF => ?_
 refine ga 1 hF rfl fun a hF => wv 10 hF hS rfl rfl rfl rfl rfl rfl fun w19 hS => wl_nil <| hK7 _ _ <| ws fun K8 hK8 => gb 1 10 hF hS rfl rfl rfl fun a hF => ww 11 hF hS rfl rfl rfl rfl rfl rfl fun w20 hS => wl_nil (hK8 _ _ ?_)
 refine xr ?_
 exact ret1c rfl ag42 hF hS (i := 11) rfl sz42 rfl ⟨[s8, s13, s18, s23, s28], rfl, hS.part_of [8, 6, 4, 2, 0] (by decide) rfl⟩
theorem l8Copy_c {W : World} {s : Sl.State} {cs : List Value} (hm : stateEK.K W s cs) (hz : (s.size : Int) ≤ 1048576) : Calls Tryz.prog 44 #[.agg cs.toArray] W (Ret (Mk W (fun vs => .agg (stateEK.cells s vs).toArray) (fun vs => [Part stateEK s vs]))) := by
 refine cfr Tryz.func44 Tryz.ntmps44 fun a hF => ?_
 have hS := Sep.refl W
 obtain ⟨v0, v1, v2, rfl, r0, r1, r2⟩ := hm
 obtain ⟨A_a, q_a, rfl, hq_a, hn_a⟩ := r0.sl; unfold maxLen at hn_a
 obtain ⟨A_b, q_b, rfl, hq_b, hn_b⟩ := r1.sl; unfold maxLen at hn_b
 obtain ⟨A_c, q_c, rfl, hq_c, hn_c⟩ := r2.sl; unfold maxLen at hn_c
 have hz1 := hz; unfold Sl.State.size at hz1
 refine ws fun K1 hK1 => wl_box (cs := [_, _, _, _, _, _, _, _, _, _, _, _, _]) hF hS rfl (hF.ev rfl) rfl fun g1 w1 a hS _ hF => wl_alloc hF hS rfl zr29 fun g2 w2 a hS _ hF => wl_nil <| hK1 _ _ <| ws fun K2 hK2 => gb 1 1 hF hS rfl rfl rfl fun a hF => wl_alloc hF hS rfl zr29 fun g3 w3 a hS _ hF => ?_
 refine ww 0 hF hS rfl rfl rfl rfl rfl rfl fun w4 hS => wl_nil <| hK2 _ _ <| ws fun K3 hK3 => wl_bslice intEK [] [] rfl hF hS rfl mk26 rfl trivial rfl rfl rfl rfl fun gl_7 w5 a hS hF => gb 2 3 hF hS rfl rfl rfl fun a hF => ?_
 refine wl_append0 hF hS rfl (hS.rd r0) mk26 rfl (by omega) (by unfold maxLen; omega) (hF.ev rfl) (hF.ev rfl) fun s10 w6 a hS hF => ?_
 refine ga 1 hF rfl fun a hF => wv 2 hF hS rfl rfl rfl rfl rfl rfl fun w7 hS => wl_nil <| hK3 _ _ <| ws fun K4 hK4 => wl_bslice intEK [] [] rfl hF hS rfl mk26 rfl trivial rfl rfl rfl rfl fun gl_12 w8 a hS hF => gb 2 5 hF hS rfl rfl rfl fun a hF => ?_
 refine wl_append0 hF hS rfl (hS.rd r1) mk26 rfl (by omega) (by unfold maxLen; omega) (hF.ev rfl) (hF.ev rfl) fun s15 w9 a hS hF => ?_
 refine ga 1 hF rfl fun a hF => wv 4 hF hS rfl rfl rfl rfl rfl rfl fun w10 hS => wl_nil <| hK4 _ _ <| ws fun K5 hK5 => wl_bslice (rawEK 19) [] [] rfl hF hS rfl mk27 rfl trivial rfl rfl rfl rfl fun gl_17 w11 a hS hF => ?_
 replace hS := hS.tail.own_nilA threadEK (some ⟨gl_17, 0, none⟩)
 refine ga 1 hF rfl fun a hF => wv 5 hF hS rfl rfl rfl rfl rfl rfl fun w12 hS => wl_nil <| hK5 _ _ <| wp_seq_k fun K6 hK6 => rg hF rfl fun a hF => wp_block ?_
 replace hS := hS.pull (p := 5) rfl; dsimp only [List.eraseIdx] at hS
 replace hS := hS.pull (p := 1) rfl; dsimp only [List.eraseIdx] at hS
 have hL_ := (((hF.nil.keep hF (t := 3) rfl).keep hF (t := 2) rfl).keep hF (t := 1) rfl)
 refine wp_loop_m (σ := Nat × Slv) (fun z L_ => (4, vi z.1) :: L_) (fun z l_ => (Own threadEK (sv z.2) (s.threads.take z.1)) :: (Box g3 (s.encv (sv s10) (sv s15) (sv z.2))) :: l_) (fun z => (z.1 ≤ s.threads.length)) (fun z => s.threads.length - z.1) (0, (_, _, _)) (hS) (hL_.keepE hF (t := 4) rfl rfl) ?_ ?_
 · exact Nat.zero_le _
 rintro ⟨k, q⟩ a w13 hk hS hF; try dsimp only at hF; try dsimp only at hS; try dsimp only at hk
 dsimp only [Sl.State.encv] at hS
 refine wp_seq_k fun K8 hK8 => rh 7 hF hS rfl rfl rfl fun a hF => cx 23 hF rfl (fun c23 hF => ?_) fun c23 hF => ?_
 ·
  have hlt : k < s.threads.length := by omega
  have hx := at0_nat hlt
  have hc1 := crow_le1 (c := Sl.Thread.size) hx
  refine wp_skip <| hK8 _ _ <| wp_seq_k fun K10 hK10 => wp_block <| ws fun K11 hK11 => gb 3 7 hF hS rfl rfl rfl fun a hF => ?_
  obtain ⟨g29, o29, m29, q29, cs29, hv29, hm29, hl29, hk29, hz29, hc29⟩ := Rd.at (r2) (a := a) (X := .tmp 28) (hF.ev rfl) (by omega) (by omega)
  have hkk29 := hk29; obtain ⟨v29_0, v29_1, v29_2, v29_3, v29_4, rfl, r29_0, r29_1, r29_2, r29_3, r29_4⟩ := hk29
  refine wl hF rfl rfl rfl (r_index sl27 ((hF.ev rfl).trans hv29) (hF.ev rfl) (by omega) (by first | omega | (simp at hm29; omega))) fun a hF => ?_
  refine wl hF rfl rfl rfl (r_loadn ag42 (hF.ev rfl) (fun j_ u_ hu_ => cellB hS.old (hc29 j_ u_ hu_)) sz42) fun a hF => ?_
  refine wl_mk hF hS rfl rfl rfl (r_call1 en90 (hF.ev rfl)) (l7Copy_c (hS.k hkk29) (by omega)) ?_; rintro vs31 w14 a hS_ hF; replace hS := hS_; clear hS_; dsimp only [List.cons_append, List.nil_append] at hS
  refine wl_alloc hF hS rfl zr42 fun g4 w15 a hS _ hF => ww 0 hF hS rfl rfl rfl rfl rfl rfl fun w16 hS => wl_nil <| hK11 _ _ <| wp_region_lit <| gb 2 3 hF hS rfl rfl rfl fun a hF => gb 1 0 hF hS rfl rfl rfl fun a hF => wl_bslice (rawEK threadEK.sz) [.agg (threadEK.cells (at0 s.threads (k : Int)) vs31).toArray] [raw threadEK (at0 s.threads (k : Int)) vs31] rfl hF hS rfl mk27 rfl ⟨rfl, (hF.ev rfl), trivial⟩ rfl rfl rfl rfl fun gl_35 w17 a hS hF => ?_
  have hu_ := hS.own_rd (i := 0) rfl
  replace hS := hS.pull (p := 2) rfl; dsimp only [List.eraseIdx] at hS
  replace hS := hS.pull (p := 3) rfl; dsimp only [List.eraseIdx] at hS
  refine wl_appendn (ek := threadEK) hF hS rfl hu_ mk27 rfl (hF.ev rfl) (hF.ev rfl) (by simp; omega) (by unfold maxLen; simp; omega) ?_; clear hF a hu_; intro A_36 c_36 w18 a hS_ hF; replace hS := hS_; clear hS_
  refine ga 1 hF rfl fun a hF => wv 3 hF hS rfl rfl rfl rfl rfl rfl fun w19 hS => wl_nil ?_
  refine xt ?_
  refine hK10 _ _ <| rl hF rfl fun a hF => ?_
  refine xt ?_
  rw [← take_at0 (by omega)] at hS
  refine ⟨(k + 1, (_, _, _)), (by dsimp only; omega), (hS.pick [0, 3, 4, 5, 6, 7, 8, 9] (by decide) rfl), ((((hF.nil.keep hF (t := 3) rfl).keep hF (t := 2) rfl).keep hF (t := 1) rfl).keepE hF (t := 4) rfl (wk (by omega))), by dsimp only; omega⟩
 refine wp_exit ?_
 refine xt ?_
 refine hK6 _ _ <| ws fun K12 hK12 => gb 1 1 hF hS rfl rfl rfl fun a hF => ww 6 hF hS rfl rfl rfl rfl rfl rfl fun w20 hS => wl_nil (hK12 _ _ ?_)
 refine xr ?_
 obtain rfl : k = s.threads.length := by omega
 rw [List.take_length] at hS
 exact ret1c rfl ag29 hF hS (i := 6) rfl sz29 rfl ⟨[s10, s15, q], rfl, hS.part_of [4, 2, 0] (by decide) rfl⟩
set_option maxRecDepth 20000
def stepped (s : Sl.State) : Sl.State := { s with steps := IntKind.i64.wrap (s.steps + 1) }
def setT (s : Sl.State) (p : Nat) (t : Sl.Thread) : Sl.State := { s with threads := s.threads.set p t }
def endS (s : Sl.State) (p : Nat) : Sl.State := setT (putS (stepped s) (announceCell s.config p) 0) p (endT { at0 s.threads (p : Int) with snapshot := 0 } 0 0)
def stepEnd (s : Sl.State) (p : Int) : Sl.State × Bool := if isRunning s p = true ∧ (at0 s.threads p).pc = 80 then (endS s p.toNat, true) else (s, false)
theorem running_of {s : Sl.State} {p : Int} (h : isRunning s p = true) : stateOk s = true ∧ (0 ≤ p ∧ p < s.threads.length) := by
 unfold isRunning at h
 simp only [Bool.and_eq_true, decide_eq_true_eq] at h
 exact ⟨h.1.1, by omega⟩
set_option maxRecDepth 20000
def stepI (isf : Int → Bool) (stf : Sl.State → Nat → Sl.State) (s : Sl.State) (p : Int) : Sl.State × Bool := if isRunning s p = true ∧ isf (at0 s.threads p).pc = true then (stepped (stf s p.toNat), true) else (s, false)
theorem stepIf_c {W : World} {s : Sl.State} {cs : List Value} {p : Int} (hm : stateEK.K W s cs) (hw : s.wf) (hz : (s.size : Int) ≤ 1048576) (hp0 : int64 p) {fi fs : FuncId} {ci cf : Array Value} {isf : Int → Bool} {stf : Sl.State → Nat → Sl.State} (hei : enterB Tryz.prog fi = true) (hef : enterB Tryz.prog fs = true) (hi : ∀ (w : World) (n : Int), Below W.heap.size W w → Calls Tryz.prog fi (#[vi n] ++ ci) w (Ret fun v w' => v = .bool (isf n) ∧ Below w.heap.size w w')) (hf : ∀ (p' : Nat) (z0 z1 : Slv) (gt ot mt ct g : Nat) (l : List Res) (w : World), stateOk s = true → p = (p' : Int) → p' < s.threads.length → mt = s.threads.length → isf (at0 s.threads p).pc = true → Sep W (Box g ((s).encv (sv z0) (sv z1) (.slice (some ⟨gt, ot, none⟩) mt ct)) :: Own intEK (sv z0) (s).cells :: Own intEK (sv z1) (s).generations :: Own threadEK (.slice (some ⟨gt, ot, none⟩) mt ct) (s.threads.set p' (at0 s.threads p)) :: l) w → Calls Tryz.prog fs (#[.agg #[.pointer (some ⟨g, 0, none⟩), .pointer (some ⟨gt, ot + p' * 19, none⟩), vi (p' : Int)]] ++ cf) w (Ret fun v w' => v = .tuple #[] ∧ Sep W (Box g ((stf s p').encv (sv z0) (sv z1) (.slice (some ⟨gt, ot, none⟩) mt ct)) :: Own intEK (sv z0) (stf s p').cells :: Own intEK (sv z1) (stf s p').generations :: Own threadEK (.slice (some ⟨gt, ot, none⟩) mt ct) (stf s p').threads :: l) w')) : Calls Tryz.prog 58 #[.agg cs.toArray, vi p, .func (.func fi) #[] ci, .func (.func fs) #[] cf] W (Ret (Mk W (fun vs => .tuple #[.agg (stateEK.cells (stepI isf stf s p).1 vs).toArray, .bool (stepI isf stf s p).2]) (fun vs => [Part stateEK (stepI isf stf s p).1 vs]))) := by
 refine cfr Tryz.func58 Tryz.ntmps58 fun a hF => ?_
 have hS := Sep.refl W
 obtain ⟨v0, v1, v2, rfl, r0, r1, r2⟩ := hm
 have hm : stateEK.K W s (s.encv v0 v1 v2) := ⟨_, _, _, rfl, r0, r1, r2⟩
 obtain ⟨A_a, q_a, rfl, hq_a, hn_a⟩ := r0.sl; unfold maxLen at hn_a
 obtain ⟨A_b, q_b, rfl, hq_b, hn_b⟩ := r1.sl; unfold maxLen at hn_b
 obtain ⟨A_c, q_c, rfl, hq_c, hn_c⟩ := r2.sl; unfold maxLen at hn_c
 refine ws fun K1 hK1 => wl_box (cs := [_, _, _, _, _, _, _, _, _, _, _, _, _]) hF hS rfl (hF.ev rfl) rfl fun g1 w1 a hS _ hF => wl_alloc hF hS rfl zr29 fun g2 w2 a hS _ hF => ge hK1 hF rfl fun a hF => ws fun K2 hK2 => gb 1 1 hF hS rfl rfl rfl fun a hF => ?_
 refine wl_mk hF hS rfl rfl rfl (r_call1 en39 (hF.ev rfl)) (copyState_c (hS.k hm) (by omega)) ?_; rintro vs12 w3 a hS_ hF; replace hS := hS_; clear hS_; dsimp only [List.cons_append, List.nil_append] at hS
 refine wl_alloc hF hS rfl zr29 fun g3 w4 a hS _ hF => ww 0 hF hS rfl rfl rfl rfl rfl rfl fun w5 hS => wl_nil <| hK2 _ _ <| wp_seq_k fun K3 hK3 => ws fun K4 hK4 => gb 2 3 hF hS rfl rfl rfl fun a hF => ckr hF hS rfl (implIsRunning_c (hS.k hm) hw hz hp0) fun w6 a hS hF => ?_
 refine ga 2 hF rfl fun a hF => ?_
 apply wo 10 17 27 hF hS
 ·
  intro hg17 a hF
  obtain ⟨hso_, hp1_⟩ := running_of hg17
  refine gb 4 3 hF hS rfl rfl rfl fun a hF => wl_take hF rfl rfl rfl rfl ?_
  obtain ⟨g22, o22, m22, q22, cs22, hv22, hm22, hl22, hk22, hz22, hc22⟩ := Rd.at (r2) (a := a) (X := .tmp 21) (hF.ev rfl) (by omega) (by omega)
  have hkk22 := hk22; obtain ⟨v22_0, v22_1, v22_2, v22_3, v22_4, rfl, r22_0, r22_1, r22_2, r22_3, r22_4⟩ := hk22
  refine wl hF rfl rfl rfl (r_index sl27 ((hF.ev rfl).trans hv22) (hF.ev rfl) (by omega) (by first | omega | (simp at hm22; omega))) fun a hF => ?_
  refine ga 1 hF rfl fun a hF => wl_take hF rfl rfl rfl rfl <| wl hF rfl rfl rfl (r_load1 sc3 (hF.ev rfl) (cellB hS.old (hc22 0 _ rfl))) fun a hF => wl_take hF rfl rfl rfl rfl ?_
  refine wl_call hF rfl rfl rfl (r_callv1 hei (hF.ev rfl) (hF.ev rfl)) (hi _ _ hS.old) ?_; rintro v w7 a ⟨rfl, hB_⟩ hF; have hS := hS.ext hB_
  exact je 10 hF hS rfl rfl rfl rfl
 intro a w8 hF hS
 refine wl_nil <| hK4 _ _ <| cx 27 hF rfl (fun c27 hF => ?_) fun c27 hF => ?_
 ·
  refine ws fun K5 hK5 => gb 1 0 hF hS rfl rfl rfl fun a hF => ww 2 hF hS rfl rfl rfl rfl rfl rfl fun w9 hS => ge hK5 hF rfl fun a hF => ?_
  refine xr ?_
  have e : stepI isf stf s p = (s, false) := if_neg (fun h => by
    rcases c27 with c | c
    · rw [h.1] at c; cases c
    · rw [h.2] at c; cases c)
  refine ret2c rfl ag29 hF hS (i := 2) rfl sz29 rfl rfl ⟨vs12, ?_, ?_⟩
  · rw [e] <;> rfl
  · rw [e]; exact hS.pick [1] (by decide) rfl
 obtain ⟨hso, hp1⟩ := running_of c27.1
 obtain ⟨p, rfl⟩ : ∃ k : Nat, p = (k : Int) := ⟨p.toNat, by omega⟩
 have hp : p < s.threads.length := by omega
 have hxt := at0_nat hp
 replace hS := hS.pull (p := 1) rfl; dsimp only [List.eraseIdx] at hS
 replace hS : Sep W (Own intEK (sv (vs12.getD 0 (none, 0, 0))) s.cells :: Own intEK (sv (vs12.getD 1 (none, 0, 0))) s.generations :: Own threadEK (sv (vs12.getD 2 (none, 0, 0))) s.threads :: _) _ := hS.part_open
 dsimp only [stateEK] at hS
 generalize vs12.getD 0 (none, 0, 0) = z0 at hS
 generalize vs12.getD 1 (none, 0, 0) = z1 at hS
 generalize vs12.getD 2 (none, 0, 0) = z2 at hS
 obtain ⟨gt, ot, mt, ct, rfl⟩ := hS.elt_form (q := 2) rfl hxt
 have hmt : mt = s.threads.length := hS.own_len (q := 2) (s := (some ⟨gt, ot, none⟩, mt, ct)) rfl
 replace hS := hS.set_form (q := 2) rfl hxt; dsimp only [List.set] at hS
 refine wp_skip <| hK3 _ _ <| ws fun K6 hK6 => gb 4 3 hF hS rfl rfl rfl fun a hF => ?_
 refine wl hF rfl rfl rfl (r_index sl27 (hF.ev rfl) (hF.ev rfl) (by omega) (by first | omega | (dsimp only; omega))) fun a hF => ?_
 refine ga 1 hF rfl fun a hF => wl hF rfl rfl rfl (r_build (bd76_0_1_2 _ _ _) ⟨rfl, (hF.ev rfl), rfl, (hF.ev rfl), rfl, (hF.ev rfl), trivial⟩) fun a hF => ?_
 replace hS := hS.pm 6 [3, 0, 1, 2, 4, 5] rfl
 refine wl_call hF rfl rfl rfl (r_callv1 hef (hF.ev rfl) (hF.ev rfl)) (hf p z0 z1 gt ot mt ct _ _ _ hso rfl hp hmt c27.2 hS) ?_; rintro v w10 a ⟨rfl, hS⟩ hF
 refine wl_nil <| hK6 _ _ <| ws fun K7 hK7 => gb 4 0 hF hS rfl rfl rfl fun a hF => wv 0 hF hS rfl rfl rfl rfl rfl rfl fun w11 hS => wl_nil <| hK7 _ _ <| ws fun K8 hK8 => gb 1 0 hF hS rfl rfl rfl fun a hF => ?_
 refine ww 4 hF hS rfl rfl rfl rfl rfl rfl fun w12 hS => ge hK8 hF rfl fun a hF => ?_
 refine xr ?_
 have e : stepI isf stf s (p : Int) = (stepped (stf s p), true) := if_pos c27
 refine ret2c rfl ag29 hF hS (i := 4) rfl sz29 rfl rfl ⟨[z0, z1, (some ⟨gt, ot, none⟩, mt, ct)], ?_, ?_⟩
 · rw [e] <;> rfl
 · rw [e]; exact hS.part_of [1, 2, 3] (by decide) rfl
set_option maxRecDepth 20000
/-- a step by what it does to the state and to the thread that steps -/
def stepBy (f : Sl.State → Sl.Thread → Int → Sl.State × Sl.Thread) (s : Sl.State) (p : Nat) : Sl.State := { (f s (at0 s.threads (p : Int)) p).1 with threads := s.threads.set p (f s (at0 s.threads (p : Int)) p).2 }
def stepOf (isf : Int → Bool) (f : Sl.State → Sl.Thread → Int → Sl.State × Sl.Thread) (s : Sl.State) (p : Int) : Sl.State × Bool := if isRunning s p = true ∧ isf (at0 s.threads p).pc = true then (stepBy f (stepped s) p.toNat, true) else (s, false)
theorem stepI_of {isf : Int → Bool} {f : Sl.State → Sl.Thread → Int → Sl.State × Sl.Thread} (hc : ∀ s t p, f (stepped s) t p = (stepped (f s t p).1, (f s t p).2)) (s : Sl.State) (p : Int) : stepI isf (stepBy f) s p = stepOf isf f s p := by
 unfold stepI stepOf
 split
 · unfold stepBy; rw [hc]; rfl
 · rfl
/-- what a step leans on -/
structure Fit (s : Sl.State) (t : Sl.Thread) : Prop where
  ok : s.config.ok
  lc : (s.cells.length : Int) = cellCount s.config
  lg : (s.generations.length : Int) = s.config.capacity
  wc : ∀ x ∈ s.cells, int64 x
  wg : ∀ x ∈ s.generations, int64 x
  wt : t.wf
  th : threadOk s.config t = true
theorem Fit.of {s : Sl.State} {p : Nat} (hs : stateOk s = true) (hw : s.wf) (hp : p < s.threads.length) : Fit s (at0 s.threads (p : Int)) := by
 obtain ⟨h1, h2, h3, h4⟩ := stateOk_shape hs
 exact ⟨h1, h2, h3, hw.2.1, hw.2.2.1, hw.2.2.2.1 _ (at0_mem (by omega) (by omega)), state_thread hs (by omega) (by omega)⟩
theorem Fit.two {s : Sl.State} {t : Sl.Thread} (h : Fit s t) : 2 ≤ s.cells.length := by
 have h1 := h.lc; have hok := h.ok
 have := cellCount_eq hok
 unfold Config.ok at hok
 omega
theorem Fit.stepped {s : Sl.State} {t : Sl.Thread} (h : Fit s t) : Fit (stepped s) t := ⟨h.ok, h.lc, h.lg, h.wc, h.wg, h.wt, h.th⟩
theorem int64_loadC {xs : List Int} {a_ : Int} (h : ∀ x ∈ xs, int64 x) : int64 (loadC xs a_) := by
 unfold loadC
 split
 · exact h _ (at0_mem (by omega) (by omega))
 · unfold int64; omega
theorem load0 {s : Sl.State} (h : 2 ≤ s.cells.length) : loadC s.cells 0 = at0 s.cells 0 := if_pos ⟨by decide, by omega⟩
theorem Fit.curr {s : Sl.State} {t : Sl.Thread} (h : Fit s t) : int64 t.curr := h.wt.2.2.2.2.2.2.1
theorem Fit.prev {s : Sl.State} {t : Sl.Thread} (h : Fit s t) : int64 t.prev := h.wt.2.2.2.2.2.1
theorem Fit.next {s : Sl.State} {t : Sl.Thread} (h : Fit s t) : int64 t.next := h.wt.2.2.2.2.2.2.2.1
theorem Fit.sizes {s : Sl.State} {t : Sl.Thread} (h : Fit s t) : sizesOk t := by
 have := h.th
 unfold threadOk at this; simp only [Bool.and_eq_true, decide_eq_true_eq] at this
 exact this.2
theorem int64_zero : int64 0 := by unfold int64; omega
theorem Fit.seen {s : Sl.State} {t : Sl.Thread} (h : Fit s t) : int64 t.seen := h.wt.2.2.2.2.2.2.2.2.1
set_option maxRecDepth 20000
theorem choose_c {W : World} {b : Bool} {x y : Int} : Calls Tryz.prog 126 #[.bool b, vi x, vi y] W (Ret fun v w' => v = vi (if b = true then x else y) ∧ Below W.heap.size W w') := by
 refine cfr Tryz.func126 Tryz.ntmps126 fun a hF => ?_
 have hS := Sep.refl W
 refine rg hF rfl fun a hF => wp_seq_k fun K2 hK2 => rg hF rfl fun a hF => cx 7 hF rfl (fun c7 hF => ?_) fun c7 hF => ?_
 ·
  refine rg hF rfl fun a hF => ?_
  refine xr ?_
  refine ret1 rfl hF rfl ⟨congrArg vi ?_, hS.old⟩
  first | exact (if_pos c7).symm | exact (if_neg (by rw [c7]; decide)).symm
 refine wp_skip <| hK2 _ _ <| rg hF rfl fun a hF => ?_
 refine xr ?_
 refine ret1 rfl hF rfl ⟨congrArg vi ?_, hS.old⟩
 first | exact (if_pos c7).symm | exact (if_neg (by rw [c7]; decide)).symm
theorem stpNext_c {W w : World} {l : List Res} {g gt ot mt ct p : Nat} {v0 v1 : Value} {s : Sl.State} {ts : List Sl.Thread} {t : Sl.Thread} (hp : p < ts.length) {b : Bool} {x y : Int} (hS : Sep W (Box g ((s).encv v0 v1 (.slice (some ⟨gt, ot, none⟩) mt ct)) :: Own threadEK (.slice (some ⟨gt, ot, none⟩) mt ct) (ts.set p (t)) :: l) w) : Calls Tryz.prog 127 #[.agg #[.pointer (some ⟨g, 0, none⟩), .pointer (some ⟨gt, ot + p * 19, none⟩), vi (p : Int)], .bool b, vi x, vi y] w (Ret fun u w' => u = .tuple #[] ∧ Sep W (Box g (({ s with retries := if b = true then s.retries else IntKind.i64.wrap (s.retries + 1) }).encv v0 v1 (.slice (some ⟨gt, ot, none⟩) mt ct)) :: Own threadEK (.slice (some ⟨gt, ot, none⟩) mt ct) (ts.set p ({ t with pc := if b = true then x else y })) :: l) w') := by
 refine cfr Tryz.func127 Tryz.ntmps127 fun a hF => ?_
 have hmt := hS.own_len (s := (some ⟨gt, ot, none⟩, mt, ct)) (q := 1) rfl
 simp only [List.length_set] at hmt
 refine ws fun K1 hK1 => wl_box (cs := [_, _, _]) hF hS rfl (hF.ev rfl) rfl fun g1 w1 a hS _ hF => wl_nil <| hK1 _ _ <| ws fun K2 hK2 => gb 5 0 hF hS rfl rfl rfl fun a hF => ?_
 refine es 2 0 hF hS hp rfl rfl rfl rfl rfl rfl fun w2 hS => ?_
 refine wl_nil <| hK2 _ _ <| rg hF rfl fun a hF => cx 14 hF rfl (fun c14 hF => ?_) fun c14 hF => ?_
 ·
  refine ws fun K4 hK4 => gb 5 0 hF hS rfl rfl rfl fun a hF => ?_
  refine es 2 0 hF hS hp rfl rfl rfl rfl rfl rfl fun w3 hS => ?_
  refine wl_nil <| hK4 _ _ <| wp_region_lit <| gb 4 0 hF hS rfl rfl rfl fun a hF => gb 4 1 hF hS rfl rfl rfl fun a hF => wv 1 hF hS rfl rfl rfl rfl rfl rfl fun w4 hS => wl_nil ?_
  refine xt ?_
  cases b with
  | true => first | (exfalso; simp at c14; done) | exact ret0n rfl hF ⟨rfl, (hS.pm 3 [1, 2] rfl)⟩
  | false => first | (exfalso; simp at c14; done) | exact ret0n rfl hF ⟨rfl, (hS.pm 3 [1, 2] rfl)⟩
 refine wp_skip ?_
 refine xt ?_
 cases b with
 | true => first | (exfalso; simp at c14; done) | exact ret0n rfl hF ⟨rfl, (hS.pm 3 [1, 2] rfl)⟩
 | false => first | (exfalso; simp at c14; done) | exact ret0n rfl hF ⟨rfl, (hS.pm 3 [1, 2] rfl)⟩
theorem stpSwap_c {W w : World} {l : List Res} {g gt ot p : Nat} {v0 v1 v2 : Value} {s : Sl.State} {a_ u_ v : Int} (hS : Sep W (Box g (s.encv v0 v1 v2) :: Own intEK v0 s.cells :: l) w) : Calls Tryz.prog 128 #[.agg #[.pointer (some ⟨g, 0, none⟩), .pointer (some ⟨gt, ot + p * 19, none⟩), vi (p : Int)], vi a_, vi u_, vi v] w (Ret fun r w' => r = .bool (hitB s.cells a_ u_) ∧ Sep W (Box g ((swapS s a_ u_ v).encv v0 v1 v2) :: Own intEK v0 (swapS s a_ u_ v).cells :: l) w') := by
 refine cfr Tryz.func128 Tryz.ntmps128 fun a hF => ?_
 obtain ⟨z0, rfl⟩ := hS.own_sv (q := 1) rfl
 have hl0 := hS.own_len (q := 1) rfl
 obtain ⟨A0, q0, e0, h0, hn0⟩ := (hS.own_rd (i := 1) rfl).sl; unfold maxLen at hn0
 refine ws fun K1 hK1 => wl_box (cs := [_, _, _]) hF hS rfl (hF.ev rfl) rfl fun g1 w1 a hS _ hF => ge hK1 hF rfl fun a hF => wp_seq_k fun K2 hK2 => ws fun K3 hK3 => gb 5 0 hF hS rfl rfl rfl fun a hF => gb 3 1 hF hS rfl rfl rfl fun a hF => ?_
 refine ckr hF hS rfl (in_c _ _ _) fun w2 a hS hF => ga 2 hF rfl fun a hF => ?_
 apply wo 11 19 30 hF hS
 ·
  intro hg19 a hF
  rw [w64_id (by omega) (by omega)] at hg19
  refine gb 4 0 hF hS rfl rfl rfl fun a hF => wl_take hF rfl rfl rfl rfl <| gb 2 1 hF hS rfl rfl rfl fun a hF => wl_take hF rfl rfl rfl rfl ?_
  obtain ⟨g26, o26, m26, q26, hv26, hm26, hl26, hc26⟩ := Rd.atF ((hS.own_rd (i := 2) rfl)) (a := a) (X := .tmp 25) (hF.ev rfl) (by omega) (by omega)
  refine wl hF rfl rfl rfl (r_index sl26 ((hF.ev rfl).trans hv26) (hF.ev rfl) (by omega) (by first | omega | (simp at hm26; omega))) fun a hF => ?_
  refine wl_take hF rfl rfl rfl rfl <| wl hF rfl rfl rfl (r_load1 sc3 (hF.ev rfl) (hc26 0 _ rfl)) fun a hF => ?_
  exact je 11 hF hS rfl rfl rfl rfl
 intro a w3 hF hS
 refine wl_nil <| hK3 _ _ <| cx 30 hF rfl (fun c30 hF => ?_) fun c30 hF => ?_
 ·
  refine rg hF rfl fun a hF => ?_
  refine xr ?_
  have hw_ : IntKind.i64.wrap ((z0.2.1 : Int) - 1) = (s.cells.length : Int) - 1 := by rw [w64_id (by omega) (by omega)]; omega
  rw [hw_] at c30
  first
    | (have e : ¬ hitB s.cells a_ u_ = true := fun h => by unfold hitB at h; simp only [Bool.and_eq_true, decide_eq_true_eq] at h; rcases c30 with c | c; omega; exact c h.2
       refine ret1 rfl hF rfl ⟨congrArg Value.bool (Eq.symm (by simpa using e)), ?_⟩; unfold swapS; rw [if_neg e, if_neg e]; exact (hS.pm 3 [1, 2] rfl))
    | (have e : hitB s.cells a_ u_ = true := by unfold hitB; simp only [Bool.and_eq_true, decide_eq_true_eq]; exact ⟨by omega, c30.2⟩
       refine ret1 rfl hF rfl ⟨congrArg Value.bool e.symm, ?_⟩; unfold swapS; rw [if_pos e, if_pos e]; exact (hS.pm 3 [1, 2] rfl))
 refine wp_skip <| hK2 _ _ <| ws fun K5 hK5 => gb 3 0 hF hS rfl rfl rfl fun a hF => ?_
 replace hS := hS.pm 3 [1, 2, 0] rfl
 refine ck hF rfl (stpStore_c (s := s) hS) ?_; rintro v w4 a ⟨rfl, hS⟩ hF
 refine wl_nil <| hK5 _ _ <| rg hF rfl fun a hF => ?_
 refine xr ?_
 have hw_ : IntKind.i64.wrap ((z0.2.1 : Int) - 1) = (s.cells.length : Int) - 1 := by rw [w64_id (by omega) (by omega)]; omega
 rw [hw_] at c30
 first
   | (have e : ¬ hitB s.cells a_ u_ = true := fun h => by unfold hitB at h; simp only [Bool.and_eq_true, decide_eq_true_eq] at h; rcases c30 with c | c; omega; exact c h.2
      refine ret1 rfl hF rfl ⟨congrArg Value.bool (Eq.symm (by simpa using e)), ?_⟩; unfold swapS; rw [if_neg e, if_neg e]; exact (hS.pm 3 [0, 1] rfl))
   | (have e : hitB s.cells a_ u_ = true := by unfold hitB; simp only [Bool.and_eq_true, decide_eq_true_eq]; exact ⟨by omega, c30.2⟩
      refine ret1 rfl hF rfl ⟨congrArg Value.bool e.symm, ?_⟩; unfold swapS; rw [if_pos e, if_pos e]; exact (hS.pm 3 [0, 1] rfl))
set_option maxRecDepth 20000
theorem implLoadCell_c {W : World} {va : Value} {xs : List Int} {a_ : Int} (ha : intEK.Rd W va xs) : Calls Tryz.prog 161 #[va, vi a_] W (Ret fun v w' => v = .tuple #[vi (loadC xs a_), .bool (decide (0 ≤ a_ ∧ a_ < xs.length))] ∧ Below W.heap.size W w') := by
 refine cfr Tryz.func161 Tryz.ntmps161 fun a hF => ?_
 have hS := Sep.refl W
 obtain ⟨A_a, q_a, rfl, hq_a, hn_a⟩ := ha.sl; unfold maxLen at hn_a
 refine rg hF rfl fun a hF => wp_seq_k fun K2 hK2 => ws fun K3 hK3 => ga 4 hF rfl fun a hF => ckr hF hS rfl (in_c _ _ _) fun w1 a hS hF => ge hK3 hF rfl fun a hF => cx 11 hF rfl (fun c11 hF => ?_) fun c11 hF => ?_
 ·
  rw [w64_id (by omega) (by omega)] at c11
  refine rg hF rfl fun a hF => ?_
  refine xr ?_
  refine ret2 rfl hF rfl rfl ⟨?_, hS.old⟩
  first
    | (rw [show loadC xs a_ = 0 from if_neg (by omega), decide_eq_false (by omega)]; done)
    | (rw [show loadC xs a_ = at0 xs a_ from if_pos (by omega), decide_eq_true (show 0 ≤ a_ ∧ a_ < xs.length by omega)]; done)
 rw [w64_id (by omega) (by omega)] at c11
 refine wp_skip <| hK2 _ _ <| ws fun K5 hK5 => ga 2 hF rfl fun a hF => ?_
 obtain ⟨g14, o14, m14, q14, hv14, hm14, hl14, hc14⟩ := Rd.atF (ha) (a := a) (X := .tmp 13) (hF.ev rfl) (by omega) (by omega)
 refine wl hF rfl rfl rfl (r_index sl26 ((hF.ev rfl).trans hv14) (hF.ev rfl) (by omega) (by first | omega | (simp at hm14; omega))) fun a hF => ?_
 refine wl hF rfl rfl rfl (r_load1 sc3 (hF.ev rfl) (cellB hS.old (hc14 0 _ rfl))) fun a hF => ge hK5 hF rfl fun a hF => ?_
 refine xr ?_
 refine ret2 rfl hF rfl rfl ⟨?_, hS.old⟩
 first
   | (rw [show loadC xs a_ = 0 from if_neg (by omega), decide_eq_false (by omega)]; done)
   | (rw [show loadC xs a_ = at0 xs a_ from if_pos (by omega), decide_eq_true (show 0 ≤ a_ ∧ a_ < xs.length by omega)]; done)
theorem stpLoad_c {W : World} {u0 u1 u2 u3 u4 u5 va : Value} {xs : List Int} {g gt ot p : Nat} (hc : ∀ j u, [u0, u1, u2, u3, u4, u5, va][j]? = some u → W.cell? ⟨g, 0 + j, none⟩ = some u) (hr : intEK.Rd W va xs) {a_ : Int} : Calls Tryz.prog 105 #[.agg #[.pointer (some ⟨g, 0, none⟩), .pointer (some ⟨gt, ot + p * 19, none⟩), vi (p : Int)], vi a_] W (Ret fun v w' => v = vi (loadC xs a_) ∧ Below W.heap.size W w') := by
 refine cfr Tryz.func105 Tryz.ntmps105 fun a hF => ?_
 have hS := Sep.refl W
 obtain ⟨A_a, q_a, rfl, hq_a, hn_a⟩ := hr.sl; unfold maxLen at hn_a
 refine ws fun K1 hK1 => wl_box (cs := [_, _, _]) hF hS rfl (hF.ev rfl) rfl fun g1 w1 a hS _ hF => ge hK1 hF rfl fun a hF => ws fun K2 hK2 => gb 4 0 hF hS rfl rfl rfl fun a hF => wl hF rfl rfl rfl (r_load1 sc26 (hF.ev rfl) (cellB hS.old (hc 6 _ rfl))) fun a hF => ga 1 hF rfl fun a hF => ?_
 refine ckr hF hS rfl (implLoadCell_c (hS.rd hr)) fun w2 a hS hF => ge hK2 hF rfl fun a hF => rg hF rfl fun a hF => ?_
 refine xr ?_
 exact ret1 rfl hF rfl ⟨rfl, hS.old⟩
theorem stpGuard_c {W w : World} {l : List Res} {g gt ot p : Nat} {v0 v1 v2 : Value} {s : Sl.State} {i_ v : Int} (hS : Sep W (Box g (s.encv v0 v1 v2) :: Own intEK v0 s.cells :: l) w) : Calls Tryz.prog 134 #[.agg #[.pointer (some ⟨g, 0, none⟩), .pointer (some ⟨gt, ot + p * 19, none⟩), vi (p : Int)], vi i_, vi v] w (Ret fun u w' => u = .tuple #[] ∧ Sep W (Box g ((putS s (hazardCell s.config (p : Int) i_) v).encv v0 v1 v2) :: Own intEK v0 (putS s (hazardCell s.config (p : Int) i_) v).cells :: l) w') := by
 refine cfr Tryz.func134 Tryz.ntmps134 fun a hF => ?_
 obtain ⟨z0, rfl⟩ := hS.own_sv (q := 1) rfl
 have hl0 := hS.own_len (q := 1) rfl
 refine ws fun K1 hK1 => wl_box (cs := [_, _, _]) hF hS rfl (hF.ev rfl) rfl fun g1 w1 a hS _ hF => wl_nil (hK1 _ _ ?_)
 refine wp_region_todo (is := [0, 1, 2, 3, 4, 5, 6, 7, 8, 10, 9, 11]) [] [11] (by kernel_rfl) hF hS ⟨trivial, by decide, by decide, by decide⟩ (by kernel_rfl) ?_; intro hl_ wd hSd
 refine todo_load [11] hl_ (by kernel_rfl) rfl (gw0 rfl) rfl rfl rfl (fun a w_ hF hB_ => r_loadn ag76 (hF.ev rfl) ((hSd.ext hB_).box_rd (i := 0) rfl) sz76) <| tp 1 hl_ rfl <| todo_load [3, 4, 5, 9, 11] hl_ (by kernel_rfl) rfl (gw0 rfl) rfl rfl rfl (fun a w_ hF hB_ => r_load1 sc67 (hF.ev rfl) ((hSd.ext hB_).box (i := 0) rfl rfl)) <| tp 2 hl_ rfl <| todo_load [9, 11] hl_ (by kernel_rfl) rfl (gw0 rfl) rfl rfl rfl (fun a w_ hF hB_ => r_loadn ag25 (hF.ev rfl) ((hSd.ext hB_).boxn (vs := [_, _, _, _, _, _]) (i := 1) (m := 6) rfl rfl) sz25) <| tp 1 hl_ rfl <| todo_load [9, 11] hl_ (by kernel_rfl) rfl (gw0 rfl) rfl rfl rfl (fun a w_ hF hB_ => r_load1 sc3 (hF.ev rfl) ((hSd.ext hB_).box (i := 0) rfl rfl)) ?_
 refine tp 2 hl_ rfl <| todo_rd hl_ rfl (by kernel_rfl) rfl rfl rfl rfl rfl (fun a w_ hF => r_call3 en106 (hF.ev rfl) (hF.ev rfl) (hF.ev rfl)) (fun w_ hS => implHazardCell_c _ _ _) <| todo_fork [(11, [])] hl_ rfl (by kernel_rfl) (List.forall_mem_cons.2 ⟨?_, fun _ h_ => nomatch h_⟩)
 ·
  refine op_mc (Γ := Unit) (m' := []) rfl (gw0 rfl) rfl rfl rfl (fun a w_ hF => r_call3 en67 (hF.ev rfl) (hF.ev rfl) (hF.ev rfl)) (fun w_ hS => calls_unit (stpStore_c (s := s) (hS.pm 3 [1, 2, 0] rfl))) ?_; intro _; try clear hSd; try clear wd; intro wd hSd
  refine todo_fin hl_ rfl (by kernel_rfl) (tl := []) rfl ?_; intro a w2 hF hA_
  have hS := hA_.sep; clear hA_
  clear hl_; try clear hSd
  try dsimp only [List.cons_append, List.nil_append, List.set] at hS
  try clear wd
  refine wl_nil ⟨rfl, ?_⟩
  refine xt ?_
  exact ret0n rfl hF ⟨rfl, (hS.pm 3 [0, 1] rfl)⟩
set_option maxRecDepth 20000
theorem specRefusal_c {W : World} {s : Sl.State} {cs : List Value} (hm : stateEK.K W s cs) (hw : s.wf) (hz : (s.size : Int) ≤ 1048576) {p : Int} {o : Sl.Op} (hp : int64 p) : Calls Tryz.prog 13 #[.agg cs.toArray, vi p, .agg o.enc.toArray] W (Ret fun v w' => v = vi (refusalOf s p o) ∧ Below W.heap.size W w') := by
 refine cfr Tryz.func13 Tryz.ntmps13 fun a hF => ?_
 have hS := Sep.refl W
 obtain ⟨v0, v1, v2, rfl, r0, r1, r2⟩ := hm
 have hm : stateEK.K W s (s.encv v0 v1 v2) := ⟨_, _, _, rfl, r0, r1, r2⟩
 obtain ⟨A_a, q_a, rfl, hq_a, hn_a⟩ := r0.sl; unfold maxLen at hn_a
 obtain ⟨A_b, q_b, rfl, hq_b, hn_b⟩ := r1.sl; unfold maxLen at hn_b
 obtain ⟨A_c, q_c, rfl, hq_c, hn_c⟩ := r2.sl; unfold maxLen at hn_c
 have hwl : IntKind.i64.wrap ((s.threads.length : Int) - 1) = s.threads.length - 1 := w64_id (by omega) (by omega)
 refine ws fun K1 hK1 => wl_box (cs := [_, _, _, _, _, _, _, _, _, _, _, _, _]) hF hS rfl (hF.ev rfl) rfl fun g1 w1 a hS _ hF => wl_box (cs := [_, _, _]) hF hS rfl (hF.ev rfl) rfl fun g2 w2 a hS _ hF => ge hK1 hF rfl fun a hF => wp_seq_k fun K2 hK2 => ws fun K3 hK3 => gb 1 1 hF hS rfl rfl rfl fun a hF => ?_
 refine ckr hF hS rfl (specIsState_c (hS.k hm) hw (by omega)) fun w3 a hS hF => ga 2 hF rfl fun a hF => ?_
 apply wo 8 11 19 hF hS
 ·
  intro hg11 a hF
  refine gb 5 1 hF hS rfl rfl rfl fun a hF => ckr hF hS rfl (l1In_c _ _ _) fun w4 a hS hF => ?_
  exact je 8 hF hS rfl rfl rfl rfl
 intro a w5 hF hS
 refine ga 1 hF rfl fun a hF => ?_
 apply wo 4 20 24 hF hS
 ·
  intro hg20 a hF
  refine gb 1 0 hF hS rfl rfl rfl fun a hF => ckr hF hS rfl (specIsOp_c _) fun w6 a hS hF => ?_
  exact je 4 hF hS rfl rfl rfl rfl
 intro a w7 hF hS
 refine wl_nil <| hK3 _ _ <| cx 24 hF rfl (fun c24 hF => ?_) fun c24 hF => ?_
 ·
  rw [hwl] at c24
  refine rg hF rfl fun a hF => ?_
  refine xr ?_
  refine ret1 rfl hF rfl ⟨congrArg vi (Eq.symm ?_), hS.old⟩
  unfold refusalOf
  first
    | (rw [if_pos ⟨c24.1.1, c24.1.2, c24.2⟩]; repeat' split
       all_goals omega)
    | exact if_neg (by
        rintro ⟨a, b, c⟩
        rcases c24 with (h | h) | h
        · rw [h] at a; cases a
        · exact h b
        · exact h c)
 rw [hwl] at c24
 have hsn := thread_snap (state_thread (p := p) c24.1.1 (by omega) (by omega))
 refine wp_skip <| hK2 _ _ <| ws fun K5 hK5 => gb 3 1 hF hS rfl rfl rfl fun a hF => ?_
 obtain ⟨g28, o28, m28, q28, cs28, hv28, hm28, hl28, hk28, hz28, hc28⟩ := Rd.at (r2) (a := a) (X := .tmp 27) (hF.ev rfl) (by omega) (by omega)
 have hkk28 := hk28; obtain ⟨v28_0, v28_1, v28_2, v28_3, v28_4, rfl, r28_0, r28_1, r28_2, r28_3, r28_4⟩ := hk28
 obtain ⟨A28_0, q28_0, rfl, hq28_0, hn28_0⟩ := r28_0.sl; unfold maxLen at hn28_0
 obtain ⟨A28_1, q28_1, rfl, hq28_1, hn28_1⟩ := r28_1.sl; unfold maxLen at hn28_1
 obtain ⟨A28_2, q28_2, rfl, hq28_2, hn28_2⟩ := r28_2.sl; unfold maxLen at hn28_2
 obtain ⟨A28_3, q28_3, rfl, hq28_3, hn28_3⟩ := r28_3.sl; unfold maxLen at hn28_3
 obtain ⟨A28_4, q28_4, rfl, hq28_4, hn28_4⟩ := r28_4.sl; unfold maxLen at hn28_4
 refine wl hF rfl rfl rfl (r_index sl27 ((hF.ev rfl).trans hv28) (hF.ev rfl) (by omega) (by first | omega | (simp at hm28; omega))) fun a hF => ?_
 refine wl hF rfl rfl rfl (r_loadn ag42 (hF.ev rfl) (fun j_ u_ hu_ => cellB hS.old (hc28 j_ u_ hu_)) sz42) fun a hF => wl_alloc hF hS rfl zr42 fun g3 w8 a hS _ hF => ww 0 hF hS rfl rfl rfl rfl rfl rfl fun w9 hS => wl_nil <| hK5 _ _ <| wp_seq_k fun K6 hK6 => wp_block <| ws fun K7 hK7 => ?_
 refine gb 4 1 hF hS rfl rfl rfl fun a hF => gf hK7 2 hF hS rfl rfl rfl fun a hF => cx 30 hF rfl (fun c30 hF => ?_) fun c30 hF => ?_
 ·
  refine rg hF rfl fun a hF => ?_
  refine xr ?_
  refine ret1 rfl hF rfl ⟨congrArg vi (Eq.symm ?_), hS.old⟩
  unfold refusalOf
  first
    | (rw [if_pos ⟨c24.1.1, c24.1.2, c24.2⟩]; repeat' split
       all_goals omega)
    | exact if_neg (by
        rintro ⟨a, b, c⟩
        rcases c24 with (h | h) | h
        · rw [h] at a; cases a
        · exact h b
        · exact h c)
 refine ws fun K9 hK9 => gb 4 1 hF hS rfl rfl rfl fun a hF => ?_
 apply wa 4 41 45 hF hS
 ·
  intro hg41 a hF
  exact jf 4 0 hF hS rfl rfl rfl rfl rfl rfl
 intro a w10 hF hS
 refine ge hK9 hF rfl fun a hF => cx 37 hF rfl (fun c37 hF => ?_) fun c37 hF => ?_
 ·
  refine rg hF rfl fun a hF => ?_
  refine xr ?_
  refine ret1 rfl hF rfl ⟨congrArg vi (Eq.symm ?_), hS.old⟩
  unfold refusalOf
  first
    | (rw [if_pos ⟨c24.1.1, c24.1.2, c24.2⟩]; repeat' split
       all_goals omega)
    | exact if_neg (by
        rintro ⟨a, b, c⟩
        rcases c24 with (h | h) | h
        · rw [h] at a; cases a
        · exact h b
        · exact h c)
 refine ws fun K11 hK11 => gb 4 1 hF hS rfl rfl rfl fun a hF => ?_
 apply wo 4 50 54 hF hS
 ·
  intro hg50 a hF
  exact jf 4 1 hF hS rfl rfl rfl rfl rfl rfl
 intro a w11 hF hS
 refine ga 1 hF rfl fun a hF => ?_
 apply wa 4 55 59 hF hS
 ·
  intro hg55 a hF
  exact jf 4 0 hF hS rfl rfl rfl rfl rfl rfl
 intro a w12 hF hS
 refine ge hK11 hF rfl fun a hF => cx 46 hF rfl (fun c46 hF => ?_) fun c46 hF => ?_
 ·
  refine rg hF rfl fun a hF => ?_
  refine xr ?_
  refine ret1 rfl hF rfl ⟨congrArg vi (Eq.symm ?_), hS.old⟩
  unfold refusalOf
  first
    | (rw [if_pos ⟨c24.1.1, c24.1.2, c24.2⟩]; repeat' split
       all_goals omega)
    | exact if_neg (by
        rintro ⟨a, b, c⟩
        rcases c24 with (h | h) | h
        · rw [h] at a; cases a
        · exact h b
        · exact h c)
 refine wp_skip ?_
 refine xt ?_
 refine hK6 _ _ <| rg hF rfl fun a hF => ?_
 refine xr ?_
 refine ret1 rfl hF rfl ⟨congrArg vi (Eq.symm ?_), hS.old⟩
 unfold refusalOf
 first
   | (rw [if_pos ⟨c24.1.1, c24.1.2, c24.2⟩]; repeat' split
      all_goals omega)
   | exact if_neg (by
       rintro ⟨a, b, c⟩
       rcases c24 with (h | h) | h
       · rw [h] at a; cases a
       · exact h b
       · exact h c)
theorem reading_c {W : World} {t : Sl.Thread} {cs : List Value} (hm : threadEK.K W t cs) : Calls Tryz.prog 167 #[.agg cs.toArray] W (Ret fun v w' => v = .bool (decide (t.op.kind = 2)) ∧ Below W.heap.size W w') := by
 refine cfr Tryz.func167 Tryz.ntmps167 fun a hF => ?_
 have hS := Sep.refl W
 obtain ⟨v0, v1, v2, v3, v4, rfl, r0, r1, r2, r3, r4⟩ := hm
 have hm : threadEK.K W t (t.encv v0 v1 v2 v3 v4) := ⟨_, _, _, _, _, rfl, r0, r1, r2, r3, r4⟩
 refine ws fun K1 hK1 => wl_box (cs := [_, _, _, _, _, _, _, _, _, _, _, _, _, _, _, _, _, _, _]) hF hS rfl (hF.ev rfl) rfl fun g1 w1 a hS _ hF => ge hK1 hF rfl fun a hF => rh 0 hF hS rfl rfl rfl fun a hF => ?_
 refine xr ?_
 exact ret1 rfl hF rfl ⟨rfl, hS.old⟩
theorem walkKey_c {W : World} {t : Sl.Thread} {cs : List Value} (hm : threadEK.K W t cs) {g o : Nat} (hc : ∀ j u, cs[j]? = some u → W.cell? ⟨g, o + j, none⟩ = some u) : Calls Tryz.prog 132 #[.pointer (some ⟨g, o, none⟩)] W (Ret fun v w' => v = vi (walkKey t) ∧ Below W.heap.size W w') := by
 refine cfr Tryz.func132 Tryz.ntmps132 fun a hF => ?_
 have hS := Sep.refl W
 obtain ⟨v0, v1, v2, v3, v4, rfl, r0, r1, r2, r3, r4⟩ := hm
 obtain ⟨A_a, q_a, rfl, hq_a, hn_a⟩ := r0.sl; unfold maxLen at hn_a
 obtain ⟨A_b, q_b, rfl, hq_b, hn_b⟩ := r1.sl; unfold maxLen at hn_b
 obtain ⟨A_c, q_c, rfl, hq_c, hn_c⟩ := r2.sl; unfold maxLen at hn_c
 obtain ⟨A_d, q_d, rfl, hq_d, hn_d⟩ := r3.sl; unfold maxLen at hn_d
 obtain ⟨A_e, q_e, rfl, hq_e, hn_e⟩ := r4.sl; unfold maxLen at hn_e
 refine rg hF rfl fun a hF => wp_seq_k fun K2 hK2 => ws fun K3 hK3 => ga 4 hF rfl fun a hF => wl hF rfl rfl rfl (r_load1 sc3 (hF.ev rfl) (cellB hS.old (hc 1 _ rfl))) fun a hF => ga 2 hF rfl fun a hF => ?_
 apply wo 7 9 16 hF hS
 ·
  intro hg9 a hF
  refine ga 3 hF rfl fun a hF => wl_take hF rfl rfl rfl rfl <| wl hF rfl rfl rfl (r_load1 sc40 (hF.ev rfl) (cellB hS.old (hc 17 _ rfl))) fun a hF => ?_
  exact je 7 hF hS rfl rfl rfl rfl
 intro a w1 hF hS
 refine wl_nil <| hK3 _ _ <| cx 16 hF rfl (fun c16 hF => ?_) fun c16 hF => ?_
 ·
  refine ws fun K4 hK4 => ga 4 hF rfl fun a hF => wl hF rfl rfl rfl (r_load1 sc3 (hF.ev rfl) (cellB hS.old (hc 2 _ rfl))) fun a hF => ge hK4 hF rfl fun a hF => ?_
  refine xr ?_
  refine ret1 rfl hF rfl ⟨congrArg vi (Eq.symm ?_), hS.old⟩
  unfold walkKey; first | exact if_pos c16 | exact if_neg (by omega)
 refine wp_skip <| hK2 _ _ <| ws fun K5 hK5 => ga 3 hF rfl fun a hF => wl hF rfl rfl rfl (r_load1 sc40 (hF.ev rfl) (cellB hS.old (hc 17 _ rfl))) fun a hF => ?_
 obtain ⟨g26, o26, m26, q26, hv26, hm26, hl26, hc26⟩ := Rd.atF (r3) (a := a) (X := .const (.int .i64 0)) ec (by omega) (by omega)
 refine wl hF rfl rfl rfl (r_index sl40 ((hF.ev rfl).trans hv26) ec (by omega) (by first | omega | (simp at hm26; omega))) fun a hF => ?_
 refine ga 1 hF rfl fun a hF => wl hF rfl rfl rfl (r_load1 sc3 (hF.ev rfl) (cellB hS.old (hc26 1 _ rfl))) fun a hF => ge hK5 hF rfl fun a hF => ?_
 refine xr ?_
 refine ret1 rfl hF rfl ⟨congrArg vi (Eq.symm ?_), hS.old⟩
 unfold walkKey; first | exact if_pos c16 | exact if_neg (by omega)
set_option maxRecDepth 20000
def faultN (s : Sl.State) (h : Int) : Int := if curB s.config s.generations h = true then s.faults else IntKind.i64.wrap (s.faults + 1)
def prevS (s : Sl.State) (t : Sl.Thread) : Sl.State := { s with faults := if t.prev = 0 then s.faults else faultN s t.prev }
def prevCell (s : Sl.State) (t : Sl.Thread) : Int := if t.prev = 0 then headCell s.config (walkKey t) else cellOf s t.prev 2
def goT (t : Sl.Thread) : Sl.Thread :=
  if t.curr = 0 then
  if t.op.kind = 2 then { t with result := ⟨1, 0⟩, pc := 20 }
  else if (0 : Int) < t.work.length then { t with limbo := t.limbo ++ [(at0 t.work 0).handle], work := t.work.drop 1, pc := if (0 : Int) < (t.work.drop 1).length then 60 else 62 }
  else { t with pc := 62 }
  else { t with pc := 11 }
def walkS (s : Sl.State) (t : Sl.Thread) (p : Int) : Sl.State × Sl.Thread :=
  if t.pc = 10 then (s, goT { t with prev := 0, curr := unmarked (loadC s.cells (headCell s.config (walkKey t))) })
  else if t.pc = 11 then (putS s (hazardCell s.config p 0) t.curr, { t with pc := 12 })
  else if t.pc = 12 then
    if loadC s.cells (prevCell s t) = t.curr then (prevS s t, { t with pc := 13 }) else ({ prevS s t with retries := IntKind.i64.wrap (s.retries + 1) }, { t with pc := 10 })
  else if t.pc = 13 then
    (faultS s t.curr, { t with next := loadC s.cells (cellOf s t.curr 2), pc := if isMarked (loadC s.cells (cellOf s t.curr 2)) = true then 14 else if t.op.kind = 2 then 16 else 15 })
  else if t.pc = 14 then
    if hitB s.cells (prevCell s t) t.curr = true then (swapS (prevS s t) (prevCell s t) t.curr (unmarked t.next), goT { t with curr := unmarked t.next })
    else ({ swapS (prevS s t) (prevCell s t) t.curr (unmarked t.next) with retries := IntKind.i64.wrap (s.retries + 1) }, { t with pc := 10 })
  else if t.pc = 15 then (putS s (hazardCell s.config p 1) t.curr, goT { t with prev := t.curr, curr := unmarked t.next })
  else (s, t)
def isW (n : Int) : Bool := decide (10 ≤ n ∧ n ≤ 15)
theorem l9LoadR_c {W : World} {u0 u1 u2 u3 u4 u5 va : Value} {xs : List Int} {g : Nat} (hc : ∀ j u, [u0, u1, u2, u3, u4, u5, va][j]? = some u → W.cell? ⟨g, 0 + j, none⟩ = some u) (hr : intEK.Rd W va xs) {a_ : Int} : Calls Tryz.prog 108 #[.pointer (some ⟨g, 0, none⟩), vi a_] W (Ret fun v w' => v = vi (loadC xs a_) ∧ Below W.heap.size W w') := by
 refine cfr Tryz.func108 Tryz.ntmps108 fun a hF => ?_
 have hS := Sep.refl W
 obtain ⟨A_a, q_a, rfl, hq_a, hn_a⟩ := hr.sl; unfold maxLen at hn_a
 refine rg hF rfl fun a hF => wp_seq_k fun K2 hK2 => ws fun K3 hK3 => ga 3 hF rfl fun a hF => ?_
 apply wo 8 7 15 hF hS
 ·
  intro hg7 a hF
  refine ga 4 hF rfl fun a hF => wl_take hF rfl rfl rfl rfl <| wl hF rfl rfl rfl (r_load1 sc26 (hF.ev rfl) (cellB hS.old (hc 6 _ rfl))) fun a hF => ?_
  exact je 8 hF hS rfl rfl rfl rfl
 intro a w1 hF hS
 refine wl_nil <| hK3 _ _ <| cx 15 hF rfl (fun c15 hF => ?_) fun c15 hF => ?_
 ·
  refine rg hF rfl fun a hF => ?_
  refine xr ?_
  first
    | (refine ret1 rfl hF rfl ⟨congrArg vi (Eq.symm (if_neg (by omega))), hS.old⟩)
    | (refine ret1 rfl hF rfl ⟨congrArg vi (Eq.symm (if_pos (by omega))), hS.old⟩)
 refine wp_skip <| hK2 _ _ <| ws fun K5 hK5 => ga 3 hF rfl fun a hF => wl hF rfl rfl rfl (r_load1 sc26 (hF.ev rfl) (cellB hS.old (hc 6 _ rfl))) fun a hF => ga 1 hF rfl fun a hF => ?_
 obtain ⟨g21, o21, m21, q21, hv21, hm21, hl21, hc21⟩ := Rd.atF (hr) (a := a) (X := .tmp 20) (hF.ev rfl) (by omega) (by omega)
 refine wl hF rfl rfl rfl (r_index sl26 ((hF.ev rfl).trans hv21) (hF.ev rfl) (by omega) (by first | omega | (simp at hm21; omega))) fun a hF => ?_
 refine wl hF rfl rfl rfl (r_load1 sc3 (hF.ev rfl) (cellB hS.old (hc21 0 _ rfl))) fun a hF => ge hK5 hF rfl fun a hF => ?_
 refine xr ?_
 first
   | (refine ret1 rfl hF rfl ⟨congrArg vi (Eq.symm (if_neg (by omega))), hS.old⟩)
   | (refine ret1 rfl hF rfl ⟨congrArg vi (Eq.symm (if_pos (by omega))), hS.old⟩)
theorem l12Prev_c {W w : World} {l : List Res} {g gt ot mt ct p : Nat} {v0 : Value} {z1 : Slv} {s : Sl.State} {ts : List Sl.Thread} {t : Sl.Thread} (hp : p < ts.length) (hh : int64 t.prev) (hg : (s.generations.length : Int) = s.config.capacity) (hS : Sep W (Own threadEK (.slice (some ⟨gt, ot, none⟩) mt ct) (ts.set p (t)) :: Box g ((s).encv v0 (sv z1) (.slice (some ⟨gt, ot, none⟩) mt ct)) :: Own intEK (sv z1) s.generations :: l) w) : Calls Tryz.prog 164 #[.pointer (some ⟨g, 0, none⟩), vi (p : Int)] w (Ret fun v w' => v = vi (prevCell s t) ∧ Sep W (Own threadEK (.slice (some ⟨gt, ot, none⟩) mt ct) (ts.set p (t)) :: Box g ((prevS s t).encv v0 (sv z1) (.slice (some ⟨gt, ot, none⟩) mt ct)) :: Own intEK (sv z1) s.generations :: l) w') := by
 refine cfr Tryz.func164 Tryz.ntmps164 fun a hF => ?_
 have hmt := hS.own_len (s := (some ⟨gt, ot, none⟩, mt, ct)) (q := 0) rfl
 simp only [List.length_set] at hmt
 obtain ⟨A0_, A1_, A2_, A3_, A4_, k0_, k1_, k2_, k3_, k4_, ⟨n0_, n1_, n2_, n3_, n4_⟩, ⟨q0_, q1_, q2_, q3_, q4_⟩, hS_⟩ := Sep.thr_lend hS hp; replace hS := hS_; clear hS_; unfold maxLen at n0_ n1_ n2_ n3_ n4_; try dsimp only at n0_ n1_ n2_ n3_ n4_ q0_ q1_ q2_ q3_ q4_
 dsimp only [Thread.encv] at hS
 refine rg hF rfl fun a hF => ws fun K2 hK2 => gb 5 6 hF hS rfl rfl rfl fun a hF => wl hF rfl rfl rfl (r_index sl27 (hF.ev rfl) (hF.ev rfl) (by omega) (by omega)) fun a hF => wl hF rfl rfl rfl (r_loadn ag42 (hF.ev rfl) (hS.butn (vs := [_, _, _, _, _, _, _, _, _, _, _, _, _, _, _, _, _, _, _]) (q := 5) (j := 0) (k := 19) rfl rfl) sz42) fun a hF => wl_alloc hF hS rfl zr42 fun g1 w1 a hS _ hF => ww 0 hF hS rfl rfl rfl rfl rfl rfl fun w2 hS => ?_
 refine wl_nil <| hK2 _ _ <| wp_seq_k fun K3 hK3 => rh 0 hF hS rfl rfl rfl fun a hF => cx 16 hF rfl (fun c16 hF => ?_) fun c16 hF => ?_
 ·
  refine ws fun K5 hK5 => gb 3 0 hF hS rfl rfl rfl fun a hF => ?_
  replace hS := hS.pm 9 [7, 8, 0, 1, 2, 3, 4, 5, 6] rfl
  refine ck hF rfl (l9Cell_c (s := s) hh hg hS) ?_; rintro v w3 a ⟨rfl, hS⟩ hF
  refine ge hK5 hF rfl fun a hF => ?_
  refine xr ?_
  have e1 : prevCell s t = _ := if_neg c16; have e2 : (if t.prev = 0 then s.faults else faultN s t.prev) = _ := if_neg c16
  refine ret1 rfl hF rfl ⟨congrArg vi e1.symm, ?_⟩
  unfold prevS; rw [e2]
  exact Sep.thr_back (y0 := (_, _, _)) (y1 := (_, _, _)) (y2 := (_, _, _)) (y3 := (_, _, _)) (y4 := (_, _, _)) (hS.pm 9 [3, 4, 5, 6, 7, 8, 0, 1] rfl) rfl
 refine wp_skip <| hK3 _ _ <| rh 0 hF hS rfl rfl rfl fun a hF => wp_seq_k fun K7 hK7 => ws fun K8 hK8 => gb 1 0 hF hS rfl rfl rfl fun a hF => ckr hF hS rfl (reading_c (threadK_of (hS.own_rd (i := 1) rfl) (hS.own_rd (i := 2) rfl) (hS.own_rd (i := 3) rfl) (hS.own_rd (i := 4) rfl) (hS.own_rd (i := 5) rfl))) fun w4 a hS hF => ?_
 refine ga 2 hF rfl fun a hF => ?_
 apply wa 5 27 32 hF hS
 ·
  intro hg27 a hF
  exact jf 5 0 hF hS rfl rfl rfl rfl rfl rfl
 intro a w5 hF hS
 refine wl_nil <| hK8 _ _ <| cx 32 hF rfl (fun c32 hF => ?_) fun c32 hF => ?_
 ·
  refine wp_region_lit <| gb 2 0 hF hS rfl rfl rfl fun a hF => ?_
  obtain ⟨g35, o35, m35, q35, hv35, hm35, hl35, hc35⟩ := Rd.atF ((hS.own_rd (i := 4) rfl)) (a := a) (X := .const (.int .i64 0)) ec (by omega) (by omega)
  refine wl hF rfl rfl rfl (r_index sl40 ((hF.ev rfl).trans hv35) ec (by omega) (by first | omega | (simp at hm35; omega))) fun a hF => ?_
  refine ga 1 hF rfl fun a hF => wl hF rfl rfl rfl (r_load1 sc3 (hF.ev rfl) (hc35 1 _ rfl)) fun a hF => ge hK7 hF rfl fun a hF => ws fun K9 hK9 => ga 3 hF rfl fun a hF => wl hF rfl rfl rfl (r_loadn ag25 (hF.ev rfl) (hS.boxn (vs := [_, _, _, _, _, _]) (i := 7) (m := 6) rfl rfl) sz25) fun a hF => ga 1 hF rfl fun a hF => ?_
  refine ckr hF hS rfl (specHeadCell_c _ _) fun w6 a hS hF => ge hK9 hF rfl fun a hF => ?_
  refine xr ?_
  have c16_ : t.prev = 0 := by omega
  have e1 : prevCell s t = headCell s.config (walkKey t) := if_pos c16_; have e2 : (if t.prev = 0 then s.faults else faultN s t.prev) = s.faults := if_pos c16_
  have e3 : walkKey t = (at0 t.work 0).key := by unfold walkKey; first | exact if_neg (by omega) | exact if_pos (by omega)
  rw [e3] at e1
  refine ret1 rfl hF rfl ⟨congrArg vi e1.symm, ?_⟩
  unfold prevS; rw [e2]
  exact Sep.thr_back (y0 := (_, _, _)) (y1 := (_, _, _)) (y2 := (_, _, _)) (y3 := (_, _, _)) (y4 := (_, _, _)) (hS.pm 9 [1, 2, 3, 4, 5, 6, 7, 8] rfl) rfl
 refine wp_skip <| hK7 _ _ <| ws fun K10 hK10 => ga 3 hF rfl fun a hF => wl hF rfl rfl rfl (r_loadn ag25 (hF.ev rfl) (hS.boxn (vs := [_, _, _, _, _, _]) (i := 7) (m := 6) rfl rfl) sz25) fun a hF => ga 1 hF rfl fun a hF => ckr hF hS rfl (specHeadCell_c _ _) fun w7 a hS hF => ?_
 refine ge hK10 hF rfl fun a hF => ?_
 refine xr ?_
 have c16_ : t.prev = 0 := by omega
 have e1 : prevCell s t = headCell s.config (walkKey t) := if_pos c16_; have e2 : (if t.prev = 0 then s.faults else faultN s t.prev) = s.faults := if_pos c16_
 have e3 : walkKey t = t.op.key := by unfold walkKey; first | exact if_neg (by omega) | exact if_pos (by omega)
 rw [e3] at e1
 refine ret1 rfl hF rfl ⟨congrArg vi e1.symm, ?_⟩
 unfold prevS; rw [e2]
 exact Sep.thr_back (y0 := (_, _, _)) (y1 := (_, _, _)) (y2 := (_, _, _)) (y3 := (_, _, _)) (y4 := (_, _, _)) (hS.pm 9 [1, 2, 3, 4, 5, 6, 7, 8] rfl) rfl
theorem l12Go_c {W w : World} {l : List Res} {g gt ot mt ct p : Nat} {v0 v1 : Value} {s : Sl.State} {ts : List Sl.Thread} {t : Sl.Thread} (hp : p < ts.length) (hz : sizesOk t) (hS : Sep W (Own threadEK (.slice (some ⟨gt, ot, none⟩) mt ct) (ts.set p (t)) :: Box g (s.encv v0 v1 (.slice (some ⟨gt, ot, none⟩) mt ct)) :: l) w) : Calls Tryz.prog 165 #[.pointer (some ⟨g, 0, none⟩), vi (p : Int)] w (Ret fun v w' => v = .tuple #[] ∧ Sep W (Own threadEK (.slice (some ⟨gt, ot, none⟩) mt ct) (ts.set p (goT t)) :: Box g (s.encv v0 v1 (.slice (some ⟨gt, ot, none⟩) mt ct)) :: l) w') := by
 refine cfr Tryz.func165 Tryz.ntmps165 fun a hF => ?_
 have hmt := hS.own_len (s := (some ⟨gt, ot, none⟩, mt, ct)) (q := 0) rfl
 simp only [List.length_set] at hmt
 have hz1 := hz; unfold sizesOk at hz1
 refine ws fun K1 hK1 => gb 5 1 hF hS rfl rfl rfl fun a hF => ?_
 refine wl hF rfl rfl rfl (r_index sl27 (hF.ev rfl) (hF.ev rfl) (by omega) (by first | omega | (dsimp only; omega))) fun a hF => ?_
 refine ge hK1 hF rfl fun a hF => ws fun K2 hK2 => ga 3 hF rfl fun a hF => ?_
 refine es 0 0 hF hS hp rfl rfl rfl rfl rfl rfl fun w1 hS => ?_
 refine wl_nil <| hK2 _ _ <| wp_seq_k fun K3 hK3 => ws fun K4 hK4 => ga 3 hF rfl fun a hF => wl hF rfl rfl rfl (r_load1 sc3 (hF.ev rfl) (hS.elt1 (q := 0) (j := 9) hp rfl (fun _ => rfl))) fun a hF => ge hK4 hF rfl fun a hF => cx 18 hF rfl (fun c18 hF => ?_) fun c18 hF => ?_
 ·
  refine xr ?_
  refine ret0 rfl hF ⟨rfl, ?_⟩
  unfold goT
  rw [if_neg c18]
  exact hS
 refine wp_skip <| hK3 _ _ <| wp_seq_k fun K5 hK5 => ws fun K6 hK6 => ga 2 hF rfl fun a hF => ?_
 obtain ⟨ce21, ke21, ze21, he21⟩ := hS.eltK (q := 0) hp rfl; have kk21 := ke21; obtain ⟨u21_0, u21_1, u21_2, u21_3, u21_4, rfl, f21_0, f21_1, f21_2, f21_3, f21_4⟩ := ke21
 refine wl hF rfl rfl rfl (r_loadn ag42 (hF.ev rfl) (fun j_ u_ hu_ => he21 j_ u_ hu_) sz42) fun a hF => ckr hF hS rfl (reading_c kk21) fun w2 a hS hF => wl_nil <| hK6 _ _ <| cx 22 hF rfl (fun c22 hF => ?_) fun c22 hF => ?_
 ·
  refine ws fun K7 hK7 => ga 3 hF rfl fun a hF => ?_
  refine es 0 0 hF hS hp rfl rfl rfl rfl rfl rfl fun w3 hS => ?_
  refine wl_nil <| hK7 _ _ <| ws fun K8 hK8 => ga 1 hF rfl fun a hF => wl hF rfl rfl rfl (r_build (bd39_0 _) ⟨rfl, ec, trivial⟩) fun a hF => ga 2 hF rfl fun a hF => ?_
  refine wl_estoren (us := [_, _]) (q := 0) (j := 4) (⟨_, ⟨_, _, _⟩, ⟨_, _⟩, _, _, _, _, _, _, _, _, _, _, _, _, _⟩ : Sl.Thread) hF hS hp rfl sz39 (hF.ev rfl) rfl ((hF.ev rfl).trans rfl) rfl (fun _ => ⟨rfl, rfl⟩) (fun _ => by dsimp only [threadEK, Thread.encv, List.take, List.drop, List.cons_append, List.nil_append, List.length_cons, List.length_nil, Nat.reduceAdd] <;> rfl) (by intro _; rfl) fun w4 hS => ?_; dsimp only [List.set] at hS
  refine wl_nil (hK8 _ _ ?_)
  refine xr ?_
  refine ret0 rfl hF ⟨rfl, ?_⟩
  unfold goT
  rw [if_pos c18, if_pos c22]
  exact hS
 obtain ⟨A0_, A1_, A2_, A3_, A4_, k0_, k1_, k2_, k3_, k4_, ⟨n0_, n1_, n2_, n3_, n4_⟩, ⟨q0_, q1_, q2_, q3_, q4_⟩, hS_⟩ := Sep.thr_lend (t := { t with pc := 11 }) hS hp; replace hS := hS_; clear hS_; unfold maxLen at n0_ n1_ n2_ n3_ n4_; try dsimp only at n0_ n1_ n2_ n3_ n4_ q0_ q1_ q2_ q3_ q4_
 dsimp only [Thread.encv] at hS
 refine wp_skip <| hK5 _ _ <| wp_seq_k fun K9 hK9 => ws fun K10 hK10 => ga 3 hF rfl fun a hF => wl hF rfl rfl rfl (r_load1 sc40 (hF.ev rfl) (hS.but1 (q := 5) (j := 17) rfl rfl)) fun a hF => ge hK10 hF rfl fun a hF => ?_
 refine cx 35 hF rfl (fun c35 hF => ?_) fun c35 hF => ?_
 ·
  refine wp_seq_k fun K11 hK11 => ?_
  refine wp_region_todo (is := [0, 1, 2, 3, 4, 5, 6, 7, 8, 9, 10, 11, 12, 13, 14, 15, 16]) [] [13, 14, 15, 16] (by kernel_rfl) hF hS ⟨trivial, by decide, by decide, by decide⟩ (by kernel_rfl) ?_; intro hl_ wd hSd
  refine tp 4 hl_ rfl <| todo_load [13, 14, 15, 16] hl_ (by kernel_rfl) rfl (gw0 rfl) rfl rfl rfl (fun a w_ hF hB_ => r_load1 sc26 (hF.ev rfl) ((hSd.ext hB_).but1 (q := 5) (j := 18) rfl rfl)) <| tp 3 hl_ rfl <| todo_load [9, 10, 11, 12, 13, 14, 15, 16] hl_ (by kernel_rfl) rfl (gw0 rfl) rfl rfl rfl (fun a w_ hF hB_ => r_load1 sc40 (hF.ev rfl) ((hSd.ext hB_).but1 (q := 5) (j := 17) rfl rfl)) ?_
  obtain ⟨g45, o45, m45, q45, hv45, hm45, hl45, hc45⟩ := Rd.idxF ((hSd.own_rd (i := 3) rfl)) (at0_get (i := (0 : Int)) (by omega) (by omega))
  refine todo_pure hl_ (by kernel_rfl) rfl (gw0 rfl) rfl rfl rfl (fun a w_ hF => r_index sl40 ((hF.ev rfl).trans hv45) ec (by omega) (by first | omega | (simp at hm45; omega))) ?_
  refine tp 1 hl_ rfl <| todo_load [12, 13, 14, 15, 16] hl_ (by kernel_rfl) rfl (gw0 rfl) rfl rfl rfl (fun a w_ hF hB_ => r_load1 sc3 (hF.ev rfl) (cellB hB_ (hc45 0 _ rfl))) ?_
  refine todo_op hl_ rfl (by kernel_rfl) rfl rfl rfl rfl rfl (fun a w_ hF hS => r_bslice intEK [vi (at0 t.work (0 : Int)).handle] [(at0 t.work (0 : Int)).handle] rfl mk26 rfl ⟨rfl, (hF.ev rfl), trivial⟩ rfl rfl rfl rfl) ?_; intro gl_48
  refine todo_fin hl_ rfl (by kernel_rfl) (tl := [_, _, _, _]) rfl ?_; intro a w6 hF hA_
  have hS := hA_.sep; clear hA_
  clear hl_; try clear hSd
  try dsimp only [List.cons_append, List.nil_append, List.set] at hS
  try clear wd
  refine wl_append (q := 5) hF hS rfl rfl (hS.own_rd (i := 0) rfl) mk26 rfl (hF.ev rfl) (hF.ev rfl) (by simp; omega) (by first | (simp; omega) | (unfold maxLen; simp; omega)) ?_; intro A_49 c_49 w7 a hS_ hF; replace hS := hS_; clear hS_; dsimp only [List.set, List.length_cons, List.length_nil] at hS hF
  refine ga 2 hF rfl fun a hF => ?_
  refine wl_bstore (q := 6) (j := 18) hF hS rfl sz26 (hF.ev rfl) rfl (hF.ev rfl) rfl rfl fun w8 hS => ?_; dsimp only [List.set] at hS
  refine wl_nil ⟨rfl, ?_⟩
  refine hK11 _ _ <| wp_region_lit <| ga 1 hF rfl fun a hF => wl_bslice entryEK [] [] rfl hF hS rfl mk40 rfl trivial rfl rfl rfl rfl fun gl_53 w9 a hS hF => ga 3 hF rfl fun a hF => wl hF rfl rfl rfl (r_load1 sc40 (hF.ev rfl) (hS.but1 (q := 7) (j := 17) rfl rfl)) fun a hF => ?_
  refine wl hF rfl rfl rfl (r_cutlo (i := 1) sl40 (hF.ev rfl) (ec.trans (by first | rfl | (congr 1; omega))) (by omega) (by omega)) fun a hF => ?_
  have hcut58 := Rd.cut (i := 1) (j := t.work.length) (hS.own_rd (i := 5) rfl) (by omega) (by omega); rw [List.take_length] at hcut58
  refine wl_append0 hF hS rfl hcut58 mk40 rfl (by simp; omega) (by unfold maxLen; simp; omega) (hF.ev rfl) (hF.ev rfl) fun s59 w10 a hS hF => ?_
  refine ga 2 hF rfl fun a hF => ?_
  refine wl_bstore (q := 8) (j := 17) hF hS rfl sz40 (hF.ev rfl) rfl (hF.ev rfl) rfl rfl fun w11 hS => ?_; dsimp only [List.set] at hS
  refine wl_nil <| hK9 _ _ <| ws fun K12 hK12 => ga 3 hF rfl fun a hF => ?_
  refine wl_bstore (q := 8) (j := 0) hF hS rfl sz3 (hF.ev rfl) rfl ec rfl rfl fun w12 hS => ?_; dsimp only [List.set] at hS
  refine wl_nil <| hK12 _ _ <| ws fun K13 hK13 => ga 3 hF rfl fun a hF => wl hF rfl rfl rfl (r_load1 sc40 (hF.ev rfl) (hS.but1 (q := 8) (j := 17) rfl rfl)) fun a hF => ge hK13 hF rfl fun a hF => cx 70 hF rfl (fun c70 hF => ?_) fun c70 hF => ?_
  ·
   have hln_ := hS.own_len (q := 0) rfl; rw [hln_] at c70
   refine wp_region_lit <| ga 3 hF rfl fun a hF => ?_
   refine wl_bstore (q := 8) (j := 0) hF hS rfl sz3 (hF.ev rfl) rfl ec rfl rfl fun w13 hS => ?_; dsimp only [List.set] at hS
   refine wl_nil ?_
   refine xt ?_
   refine ret0n rfl hF ⟨rfl, ?_⟩
   unfold goT
   rw [if_pos c18, if_neg c22, if_pos c35, if_pos c70]
   exact Sep.thr_back (y0 := (_, _, _)) (y1 := (_, _, _)) (y2 := (_, _, _)) (y3 := (_, _, _)) (y4 := (_, _, _)) (hS.pm 10 [3, 4, 5, 0, 7, 8, 9] rfl) rfl
  have hln_ := hS.own_len (q := 0) rfl; rw [hln_] at c70
  refine wp_skip ?_
  refine xt ?_
  refine ret0n rfl hF ⟨rfl, ?_⟩
  unfold goT
  rw [if_pos c18, if_neg c22, if_pos c35, if_neg c70]
  exact Sep.thr_back (y0 := (_, _, _)) (y1 := (_, _, _)) (y2 := (_, _, _)) (y3 := (_, _, _)) (y4 := (_, _, _)) (hS.pm 10 [3, 4, 5, 0, 7, 8, 9] rfl) rfl
 refine wp_skip <| hK9 _ _ <| ws fun K14 hK14 => ga 3 hF rfl fun a hF => ?_
 refine wl_bstore (q := 5) (j := 0) hF hS rfl sz3 (hF.ev rfl) rfl ec rfl rfl fun w14 hS => ?_; dsimp only [List.set] at hS
 refine wl_nil <| hK14 _ _ <| ws fun K15 hK15 => ga 3 hF rfl fun a hF => wl hF rfl rfl rfl (r_load1 sc40 (hF.ev rfl) (hS.but1 (q := 5) (j := 17) rfl rfl)) fun a hF => ge hK15 hF rfl fun a hF => cx 70 hF rfl (fun c70 hF => ?_) fun c70 hF => ?_
 ·
  exfalso; omega -- closed
 refine wp_skip ?_
 refine xt ?_
 refine ret0n rfl hF ⟨rfl, ?_⟩
 unfold goT
 rw [if_pos c18, if_neg c22, if_neg c35]
 exact Sep.thr_back (y0 := (_, _, _)) (y1 := (_, _, _)) (y2 := (_, _, _)) (y3 := (_, _, _)) (y4 := (_, _, _)) hS rfl
theorem prevS_zero {s : Sl.State} {t : Sl.Thread} : prevS s { t with prev := 0 } = s := rfl
theorem prevCell_zero {s : Sl.State} {t : Sl.Thread} : prevCell s { t with prev := 0 } = headCell s.config (walkKey t) := rfl
theorem l12Walk_c {W w : World} {l : List Res} {g gt ot mt ct p : Nat} {z0 z1 : Slv} {s : Sl.State} {t : Sl.Thread} (hp : p < s.threads.length) (hf : Fit s t) (hS : Sep W (Box g ((s).encv (sv z0) (sv z1) (.slice (some ⟨gt, ot, none⟩) mt ct)) :: Own intEK (sv z0) (s).cells :: Own intEK (sv z1) (s).generations :: Own threadEK (.slice (some ⟨gt, ot, none⟩) mt ct) (s.threads.set p t) :: l) w) : Calls Tryz.prog 114 #[.pointer (some ⟨g, 0, none⟩), vi (p : Int)] w (Ret fun v w' => v = .tuple #[] ∧ Sep W (Box g (((walkS s t (p : Int)).1).encv (sv z0) (sv z1) (.slice (some ⟨gt, ot, none⟩) mt ct)) :: Own intEK (sv z0) ((walkS s t (p : Int)).1).cells :: Own intEK (sv z1) ((walkS s t (p : Int)).1).generations :: Own threadEK (.slice (some ⟨gt, ot, none⟩) mt ct) (s.threads.set p (walkS s t (p : Int)).2) :: l) w') := by
 refine cfr Tryz.func114 Tryz.ntmps114 fun a hF => ?_
 have hl0 := hS.own_len (q := 1) rfl
 have hl1 := hS.own_len (q := 2) rfl
 have hmt : mt = s.threads.length := by have := hS.own_len (q := 3) (s := (some ⟨gt, ot, none⟩, mt, ct)) rfl; simpa using this
 refine ws fun K1 hK1 => gb 5 0 hF hS rfl rfl rfl fun a hF => ?_
 refine wl hF rfl rfl rfl (r_index sl27 (hF.ev rfl) (hF.ev rfl) (by omega) (by first | omega | (dsimp only; omega))) fun a hF => ?_
 refine ge hK1 hF rfl fun a hF => ws fun K2 hK2 => ga 3 hF rfl fun a hF => wl hF rfl rfl rfl (r_load1 sc3 (hF.ev rfl) (hS.elt1 (q := 3) (j := 0) hp rfl (fun _ => rfl))) fun a hF => wl_nil <| hK2 _ _ <| wp_block <| rg hF rfl fun a hF => ?_
 refine cx 15 hF rfl (fun c15 hF => ?_) fun c15 hF => ?_
 ·
  refine ws fun K4 hK4 => ga 3 hF rfl fun a hF => ?_
  refine es 3 8 hF hS hp rfl rfl rfl rfl rfl rfl fun w1 hS => ?_
  refine wl_nil <| hK4 _ _ <| ws fun K5 hK5 => ga 4 hF rfl fun a hF => ?_
  replace hS := hS.pm 4 [3, 0, 2, 1] rfl
  refine ck hF rfl (l12Prev_c (s := s) (t := { t with prev := 0 }) hp (by exact int64_zero) hf.lg hS) ?_; rintro v w2 a ⟨rfl, hS⟩ hF
  rw [prevS_zero] at hS; rw [prevCell_zero] at hF
  refine ckr hF hS rfl (l9LoadR_c (fun j u hu => hS.box7 (i := 1) rfl j u hu) (hS.own_rd (i := 3) rfl)) fun w3 a hS hF => ckr hF hS rfl (specUnmarked_c (int64_loadC hf.wc)) fun w4 a hS hF => ga 2 hF rfl fun a hF => ?_
  refine es 0 9 hF hS hp rfl rfl rfl rfl rfl rfl fun w5 hS => ?_
  refine wl_nil <| hK5 _ _ <| wp_region_lit <| ga 2 hF rfl fun a hF => ?_
  refine ck hF rfl (l12Go_c (s := s) hp (by exact hf.sizes) hS) ?_; rintro v w6 a ⟨rfl, hS⟩ hF
  refine wl_nil ?_
  refine xt ?_
  refine ret0n rfl hF ⟨rfl, ?_⟩
  unfold walkS
  rw [if_pos c15]
  exact (hS.pm 4 [1, 3, 2, 0] rfl)
 refine rg hF rfl fun a hF => cx 32 hF rfl (fun c32 hF => ?_) fun c32 hF => ?_
 ·
  refine wp_seq_k fun K7 hK7 => wp_region_J (is := [0, 1, 2, 3, 4, 5, 7, 8, 9, 10, 6, 11]) (fun (_ : Unit) r => r) _ (()) [11] (by kernel_rfl) hF hS (by kernel_rfl) <| tq 4 rfl <| tj_load [6, 11] (by kernel_rfl) rfl (gw0 rfl) rfl rfl (fun a w_ x_ hF hS => r_loadn ag25 (hF.ev rfl) (hS.boxn (vs := [_, _, _, _, _, _]) (i := 0) (m := 6) rfl rfl) sz25) <| tq 4 rfl <| tj_load [11] (by kernel_rfl) rfl (gw0 rfl) rfl rfl (fun a w_ x_ hF hS => r_load1 sc3 (hF.ev rfl) (hS.elt1 (q := 3) (j := 9) hp rfl (fun _ => rfl))) <| tj_rd (by kernel_rfl) rfl (gw0 rfl) rfl rfl (fun a w_ hF => r_call3 en109 (hF.ev rfl) (hF.ev rfl) ec) (fun w_ hS => specHazardCell_c _ _ _) ?_
  refine tj_fin (tl := [_]) (by kernel_rfl) rfl ?_; intro a w7 hF hS; try dsimp only at hS
  refine ck hF rfl (l9Put_c (s := s) hS) ?_; rintro v w8 a ⟨rfl, hS⟩ hF
  refine wl_nil ⟨rfl, ?_⟩
  refine hK7 _ _ <| wp_region_lit <| ga 3 hF rfl fun a hF => ?_
  refine es 3 0 hF hS hp rfl rfl rfl rfl rfl rfl fun w9 hS => ?_
  refine wl_nil ?_
  refine xt ?_
  refine ret0n rfl hF ⟨rfl, ?_⟩
  unfold walkS
  rw [if_neg c15, if_pos c32]
  exact hS
 refine rg hF rfl fun a hF => cx 49 hF rfl (fun c49 hF => ?_) fun c49 hF => ?_
 ·
  refine ws fun K9 hK9 => ga 3 hF rfl fun a hF => ?_
  refine es 3 0 hF hS hp rfl rfl rfl rfl rfl rfl fun w10 hS => ?_
  refine wl_nil <| hK9 _ _ <| wp_seq_k fun K10 hK10 => wp_region_J (is := [0, 1, 2, 5, 6, 7, 8, 3, 4, 9]) (fun (f : Int) r => Box g (s.encf (sv z0) (sv z1) (.slice (some ⟨gt, ot, none⟩) mt ct) f) :: r) _ (s.faults) [] (by kernel_rfl) hF hS (by kernel_rfl) <| tq 6 rfl <| tj_load [9] (by kernel_rfl) rfl (gw0 rfl) rfl rfl (fun a w_ x_ hF hS => r_load1 sc3 (hF.ev rfl) (hS.elt1 (q := 3) (j := 9) hp rfl (fun _ => rfl))) ?_
  refine tj_mc (by kernel_rfl) rfl (gw0 rfl) rfl rfl (fun a w_ hF => r_call2 en164 (hF.ev rfl) (hF.ev rfl)) (fun w_ hS => calls_unit (l12Prev_c (s := s) hp (by exact hf.prev) hf.lg (hS.pm 4 [3, 0, 2, 1] rfl))) (fun _ w_ h_ => ⟨_, (h_.pm 4 [1, 3, 2, 0] rfl)⟩) ?_; intro _
  refine tj_rd (by kernel_rfl) rfl (gw0 rfl) rfl rfl (fun a w_ hF => r_call2 en108 (hF.ev rfl) (hF.ev rfl)) (fun w_ hS => l9LoadR_c (fun j u hu => hS.box7 (i := 1) rfl j u hu) (hS.own_rd (i := 3) rfl)) <| tq 1 rfl ?_
  refine tj_fin (tl := []) (by kernel_rfl) rfl ?_; intro a w11 hF hS; try dsimp only at hS
  refine wl_nil ⟨rfl, ?_⟩
  refine hK10 _ _ <| cx 63 hF rfl (fun c63 hF => ?_) fun c63 hF => ?_
  ·
   replace c63 : ¬ loadC s.cells (prevCell s t) = t.curr := c63
   refine ws fun K11 hK11 => gb 8 1 hF hS rfl rfl rfl fun a hF => wv 1 hF hS rfl rfl rfl rfl rfl rfl fun w12 hS => wl_nil <| hK11 _ _ <| wp_region_lit <| ga 3 hF rfl fun a hF => ?_
   refine es 0 0 hF hS hp rfl rfl rfl rfl rfl rfl fun w13 hS => ?_
   refine wl_nil ?_
   refine xt ?_
   refine ret0n rfl hF ⟨rfl, ?_⟩
   unfold walkS
   rw [if_neg c15, if_neg c32, if_pos c49, if_neg c63]
   exact (hS.pm 4 [1, 3, 2, 0] rfl)
  replace c63 : loadC s.cells (prevCell s t) = t.curr := c63
  refine wp_skip ?_
  refine xt ?_
  refine ret0n rfl hF ⟨rfl, ?_⟩
  unfold walkS
  rw [if_neg c15, if_neg c32, if_pos c49, if_pos c63]
  exact (hS.pm 4 [1, 3, 2, 0] rfl)
 refine rg hF rfl fun a hF => cx 75 hF rfl (fun c75 hF => ?_) fun c75 hF => ?_
 ·
  refine ws fun K13 hK13 => ga 6 hF rfl fun a hF => wl hF rfl rfl rfl (r_load1 sc3 (hF.ev rfl) (hS.elt1 (q := 3) (j := 9) hp rfl (fun _ => rfl))) fun a hF => ?_
  replace hS := hS.pm 4 [0, 2, 1, 3] rfl
  refine ck hF rfl (l9Cell_c (s := s) hf.curr hf.lg hS) ?_; rintro v w14 a ⟨rfl, hS⟩ hF
  refine ckr hF hS rfl (l9LoadR_c (fun j u hu => hS.box7 (i := 0) rfl j u hu) (hS.own_rd (i := 2) rfl)) fun w15 a hS hF => ga 2 hF rfl fun a hF => ?_
  refine es 3 10 hF hS hp rfl rfl rfl rfl rfl rfl fun w16 hS => ?_
  refine wl_nil <| hK13 _ _ <| ws fun K14 hK14 => ga 3 hF rfl fun a hF => ?_
  refine es 3 0 hF hS hp rfl rfl rfl rfl rfl rfl fun w17 hS => ?_
  refine wl_nil <| hK14 _ _ <| wp_block <| ws fun K15 hK15 => ga 3 hF rfl fun a hF => wl hF rfl rfl rfl (r_load1 sc3 (hF.ev rfl) (hS.elt1 (q := 3) (j := 10) hp rfl (fun _ => rfl))) fun a hF => ckr hF hS rfl (specIsMarked_c (int64_loadC hf.wc)) fun w18 a hS hF => ge hK15 hF rfl fun a hF => ?_
  refine cx 91 hF rfl (fun c91 hF => ?_) fun c91 hF => ?_
  ·
   refine wp_region_lit <| ga 3 hF rfl fun a hF => ?_
   refine es 3 0 hF hS hp rfl rfl rfl rfl rfl rfl fun w19 hS => ?_
   refine wl_nil ?_
   refine xt ?_
   refine ret0n rfl hF ⟨rfl, ?_⟩
   unfold walkS
   rw [if_neg c15, if_neg c32, if_neg c49, if_pos c75, if_pos c91]
   exact (hS.pm 4 [0, 2, 1, 3] rfl)
  replace c91 : ¬ isMarked (loadC s.cells (cellOf s t.curr 2)) = true := by rw [c91]; decide
  refine ws fun K16 hK16 => ga 2 hF rfl fun a hF => ?_
  obtain ⟨ce103, ke103, ze103, he103⟩ := hS.eltK (q := 3) hp rfl; have kk103 := ke103; obtain ⟨u103_0, u103_1, u103_2, u103_3, u103_4, rfl, f103_0, f103_1, f103_2, f103_3, f103_4⟩ := ke103
  refine wl hF rfl rfl rfl (r_loadn ag42 (hF.ev rfl) (fun j_ u_ hu_ => he103 j_ u_ hu_) sz42) fun a hF => ckr hF hS rfl (reading_c kk103) fun w20 a hS hF => ge hK16 hF rfl fun a hF => cx 100 hF rfl (fun c100 hF => ?_) fun c100 hF => ?_
  ·
   refine wp_region_lit <| ga 3 hF rfl fun a hF => ?_
   refine es 3 0 hF hS hp rfl rfl rfl rfl rfl rfl fun w21 hS => ?_
   refine wl_nil ?_
   refine xt ?_
   refine ret0n rfl hF ⟨rfl, ?_⟩
   unfold walkS
   rw [if_neg c15, if_neg c32, if_neg c49, if_pos c75, if_neg c91, if_pos c100]
   exact (hS.pm 4 [0, 2, 1, 3] rfl)
  refine wp_skip ?_
  refine xt ?_
  refine ret0n rfl hF ⟨rfl, ?_⟩
  unfold walkS
  rw [if_neg c15, if_neg c32, if_neg c49, if_pos c75, if_neg c91, if_neg c100]
  exact (hS.pm 4 [0, 2, 1, 3] rfl)
 refine rg hF rfl fun a hF => cx 108 hF rfl (fun c108 hF => ?_) fun c108 hF => ?_
 ·
  refine wp_seq_k fun K18 hK18 => wp_seq_k fun K19 hK19 => wp_region_J (is := [0, 1, 2, 4, 5, 6, 7, 8, 9, 10, 11, 3, 12, 13, 14]) (fun (f : Int) r => Box g (s.encf (sv z0) (sv z1) (.slice (some ⟨gt, ot, none⟩) mt ct) f) :: r) _ (s.faults) [13, 14] (by kernel_rfl) hF hS (by kernel_rfl) <| tq 6 rfl <| tj_load [13, 14] (by kernel_rfl) rfl (gw0 rfl) rfl rfl (fun a w_ x_ hF hS => r_load1 sc3 (hF.ev rfl) (hS.elt1 (q := 3) (j := 9) hp rfl (fun _ => rfl))) <| tq 3 rfl <| tj_load [12, 13, 14] (by kernel_rfl) rfl (gw0 rfl) rfl rfl (fun a w_ x_ hF hS => r_load1 sc3 (hF.ev rfl) (hS.elt1 (q := 3) (j := 10) hp rfl (fun _ => rfl))) ?_
  refine tj_mc (by kernel_rfl) rfl (gw0 rfl) rfl rfl (fun a w_ hF => r_call2 en164 (hF.ev rfl) (hF.ev rfl)) (fun w_ hS => calls_unit (l12Prev_c (s := s) hp (by exact hf.prev) hf.lg (hS.pm 4 [3, 0, 2, 1] rfl))) (fun _ w_ h_ => ⟨_, (h_.pm 4 [1, 3, 2, 0] rfl)⟩) ?_; intro _
  refine tj_rd (by kernel_rfl) rfl (gw0 rfl) rfl rfl (fun a w_ hF => r_call1 en156 (hF.ev rfl)) (fun w_ hS => specUnmarked_c hf.next) ?_
  refine tj_fin (tl := [_, _]) (by kernel_rfl) rfl ?_; intro a w22 hF hS; try dsimp only at hS
  replace hS := hS.pm 4 [1, 3, 0, 2] rfl
  refine ck hF rfl (l9Swap_c (s := prevS s t) hS) ?_; rintro v w23 a ⟨rfl, hS⟩ hF
  refine ga 1 hF rfl fun a hF => wl_nil ⟨rfl, ?_⟩
  refine hK19 _ _ <| cx 124 hF rfl (fun c124 hF => ?_) fun c124 hF => ?_
  ·
   replace c124 : ¬ hitB s.cells (prevCell s t) t.curr = true := fun h => by rw [show hitB (prevS s t).cells (prevCell s t) t.curr = true from h] at c124; cases c124
   refine ws fun K20 hK20 => gb 8 0 hF hS rfl rfl rfl fun a hF => wv 0 hF hS rfl rfl rfl rfl rfl rfl fun w24 hS => wl_nil <| hK20 _ _ <| ws fun K21 hK21 => ga 3 hF rfl fun a hF => ?_
   refine es 2 0 hF hS hp rfl rfl rfl rfl rfl rfl fun w25 hS => ?_
   refine wl_nil (hK21 _ _ ?_)
   refine xr ?_
   refine ret0 rfl hF ⟨rfl, ?_⟩
   unfold walkS
   rw [if_neg c15, if_neg c32, if_neg c49, if_neg c75, if_pos c108, if_neg c124]
   exact (hS.pm 4 [0, 1, 3, 2] rfl)
  replace c124 : hitB s.cells (prevCell s t) t.curr = true := c124
  refine wp_skip <| hK18 _ _ <| ws fun K22 hK22 => ga 4 hF rfl fun a hF => wl hF rfl rfl rfl (r_load1 sc3 (hF.ev rfl) (hS.elt1 (q := 2) (j := 10) hp rfl (fun _ => rfl))) fun a hF => ckr hF hS rfl (specUnmarked_c hf.next) fun w26 a hS hF => ga 2 hF rfl fun a hF => ?_
  refine es 2 9 hF hS hp rfl rfl rfl rfl rfl rfl fun w27 hS => ?_
  refine wl_nil <| hK22 _ _ <| wp_region_lit <| ga 2 hF rfl fun a hF => ?_
  replace hS := hS.pm 4 [2, 0, 1, 3] rfl
  refine ck hF rfl (l12Go_c (s := swapS (prevS s t) (prevCell s t) t.curr (unmarked t.next)) hp (by exact hf.sizes) hS) ?_; rintro v w28 a ⟨rfl, hS⟩ hF
  refine wl_nil ?_
  refine xt ?_
  refine ret0n rfl hF ⟨rfl, ?_⟩
  unfold walkS
  rw [if_neg c15, if_neg c32, if_neg c49, if_neg c75, if_pos c108, if_pos c124]
  exact (hS.pm 4 [1, 2, 3, 0] rfl)
 refine rg hF rfl fun a hF => cx 147 hF rfl (fun c147 hF => ?_) fun c147 hF => ?_
 ·
  refine wp_seq_k fun K24 hK24 => wp_region_J (is := [0, 1, 2, 3, 4, 5, 7, 8, 9, 10, 6, 11]) (fun (_ : Unit) r => r) _ (()) [11] (by kernel_rfl) hF hS (by kernel_rfl) <| tq 4 rfl <| tj_load [6, 11] (by kernel_rfl) rfl (gw0 rfl) rfl rfl (fun a w_ x_ hF hS => r_loadn ag25 (hF.ev rfl) (hS.boxn (vs := [_, _, _, _, _, _]) (i := 0) (m := 6) rfl rfl) sz25) <| tq 4 rfl <| tj_load [11] (by kernel_rfl) rfl (gw0 rfl) rfl rfl (fun a w_ x_ hF hS => r_load1 sc3 (hF.ev rfl) (hS.elt1 (q := 3) (j := 9) hp rfl (fun _ => rfl))) <| tj_rd (by kernel_rfl) rfl (gw0 rfl) rfl rfl (fun a w_ hF => r_call3 en109 (hF.ev rfl) (hF.ev rfl) ec) (fun w_ hS => specHazardCell_c _ _ _) ?_
  refine tj_fin (tl := [_]) (by kernel_rfl) rfl ?_; intro a w29 hF hS; try dsimp only at hS
  refine ck hF rfl (l9Put_c (s := s) hS) ?_; rintro v w30 a ⟨rfl, hS⟩ hF
  refine wl_nil ⟨rfl, ?_⟩
  refine hK24 _ _ <| ws fun K25 hK25 => ga 4 hF rfl fun a hF => wl hF rfl rfl rfl (r_load1 sc3 (hF.ev rfl) (hS.elt1 (q := 3) (j := 9) hp rfl (fun _ => rfl))) fun a hF => ga 2 hF rfl fun a hF => ?_
  refine es 3 8 hF hS hp rfl rfl rfl rfl rfl rfl fun w31 hS => ?_
  refine wl_nil <| hK25 _ _ <| ws fun K26 hK26 => ga 4 hF rfl fun a hF => wl hF rfl rfl rfl (r_load1 sc3 (hF.ev rfl) (hS.elt1 (q := 3) (j := 10) hp rfl (fun _ => rfl))) fun a hF => ckr hF hS rfl (specUnmarked_c hf.next) fun w32 a hS hF => ga 2 hF rfl fun a hF => ?_
  refine es 3 9 hF hS hp rfl rfl rfl rfl rfl rfl fun w33 hS => ?_
  refine wl_nil <| hK26 _ _ <| wp_region_lit <| ga 2 hF rfl fun a hF => ?_
  replace hS := hS.pm 4 [3, 0, 1, 2] rfl
  refine ck hF rfl (l12Go_c (s := putS s (hazardCell s.config (p : Int) 1) t.curr) hp (by exact hf.sizes) hS) ?_; rintro v w34 a ⟨rfl, hS⟩ hF
  refine wl_nil ?_
  refine xt ?_
  refine ret0n rfl hF ⟨rfl, ?_⟩
  unfold walkS
  rw [if_neg c15, if_neg c32, if_neg c49, if_neg c75, if_neg c108, if_pos c147]
  exact (hS.pm 4 [1, 2, 3, 0] rfl)
 refine wp_skip ?_
 refine xt ?_
 refine ret0n rfl hF ⟨rfl, ?_⟩
 unfold walkS
 rw [if_neg c15, if_neg c32, if_neg c49, if_neg c75, if_neg c108, if_neg c147]
 exact hS
theorem specIsWalk_c {W : World} {n : Int} : Calls Tryz.prog 113 #[vi n] W (Ret fun v w' => v = .bool (isW n) ∧ Below W.heap.size W w') := by
 refine cfr Tryz.func113 Tryz.ntmps113 fun a hF => ?_
 have hS := Sep.refl W
 refine rg hF rfl fun a hF => ws fun K2 hK2 => ga 1 hF rfl fun a hF => ckr hF hS rfl (l1In_c _ _ _) fun w1 a hS hF => ge hK2 hF rfl fun a hF => ?_
 refine xr ?_
 exact ret1 rfl hF rfl ⟨rfl, hS.old⟩
set_option maxRecDepth 20000
theorem crow_set_le {α : Type} {c : α → Nat} {y : α} {x : α} {k : Nat} : ∀ {xs : List α} {i : Nat}, xs[i]? = some y → c x ≤ c y + k → crow c (xs.set i x) ≤ crow c xs + k
  | [], i, h, _ => by simp at h
  | z :: xs, 0, h, hl => by simp at h; subst h; simp only [List.set_cons_zero, crow]; omega
  | z :: xs, i + 1, h, hl => by
    have := crow_set_le (xs := xs) (i := i) (by simpa using h) hl
    simp only [List.set_cons_succ, crow]; omega
theorem putC_len {xs : List Int} {a v : Int} : (putC xs a v).length = xs.length := by unfold putC; split <;> simp
theorem endT_size {t : Sl.Thread} {c x : Int} : (endT t c x).size ≤ t.size := by unfold endT clearT Sl.Thread.size; simp only [List.length_nil]; omega
set_option maxRecDepth 20000
def makeHandle (i g : Int) : Int := if (0 ≤ i ∧ i ≤ 62) ∧ (0 ≤ g ∧ g ≤ 9999) then IntKind.i64.wrap (IntKind.i64.wrap (IntKind.i64.wrap (IntKind.i64.wrap (g * 64) + i) + 1) * 2) else 0
def lastF (t : Sl.Thread) : Int := at0 t.free ((t.free.length - 1 : Nat) : Int)
def startT (t : Sl.Thread) (o : Sl.Op) (gs : List Int) : Sl.Thread :=
  if o.kind = 1 then { endT { t with op := o } 0 0 with pc := 1 }
  else if o.kind = 2 then { endT { t with op := o } 0 0 with pc := 10 }
  else if o.kind = 4 then { endT { t with op := o } 0 0 with pc := 80 }
  else if o.kind = 5 then { endT { t with op := o } 0 0 with pc := 50 }
  else if (0 : Int) < t.free.length then { endT { t with op := o } 0 0 with free := t.free.take (t.free.length - 1), node := makeHandle (lastF t) (at0 gs (lastF t)), pc := 32 }
  else { endT { t with op := o } 0 0 with pc := 30 }
def startS (s : Sl.State) (p : Int) (o : Sl.Op) : Sl.State × Int :=
  if (stateOk s = true ∧ (0 ≤ p ∧ p ≤ s.threads.length - 1)) ∧ o.ok ∧ (at0 s.threads p).pc = 0 then
    if refusalOf s p o = 0 then (setT s p.toNat (startT (at0 s.threads p) o s.generations), 1) else (setT s p.toNat (endT { at0 s.threads p with op := o } (refusalOf s p o) 0), 2)
  else (s, 0)
theorem Fit.last {s : Sl.State} {t : Sl.Thread} (hf : Fit s t) (h : (0 : Int) < t.free.length) : 0 ≤ lastF t ∧ lastF t < s.config.capacity := by
 have h2 := hf.th
 unfold threadOk at h2; simp only [Bool.and_eq_true] at h2
 have h3 := h2.1.1.1.1.1
 unfold freeOk at h3
 have h4 := List.all_eq_true.1 h3 (lastF t) (at0_mem (by omega) (by omega))
 simp only [decide_eq_true_eq] at h4
 omega
theorem startT_size {t : Sl.Thread} {o : Sl.Op} {gs : List Int} : (startT t o gs).size ≤ t.size := by
 have h1 := endT_size (t := { t with op := o }) (c := 0) (x := 0)
 have h2 : ({ t with op := o } : Sl.Thread).size = t.size := rfl
 unfold startT
 repeat' split
 all_goals first | exact h1 | (unfold endT clearT Sl.Thread.size; simp only [List.length_nil, List.length_take]; omega)
theorem specMakeHandle_c {W : World} {i g : Int} : Calls Tryz.prog 50 #[vi i, vi g] W (Ret fun v w' => v = vi (makeHandle i g) ∧ Below W.heap.size W w') := by
 refine cfr Tryz.func50 Tryz.ntmps50 fun a hF => ?_
 have hS := Sep.refl W
 refine rg hF rfl fun a hF => wp_seq_k fun K2 hK2 => ws fun K3 hK3 => ga 1 hF rfl fun a hF => ckr hF hS rfl (l1In_c _ _ _) fun w1 a hS hF => ga 2 hF rfl fun a hF => ?_
 apply wo 4 8 12 hF hS
 ·
  intro hg8 a hF
  refine ga 1 hF rfl fun a hF => ckr hF hS rfl (l1In_c _ _ _) fun w2 a hS hF => ?_
  exact je 4 hF hS rfl rfl rfl rfl
 intro a w3 hF hS
 refine wl_nil <| hK3 _ _ <| cx 12 hF rfl (fun c12 hF => ?_) fun c12 hF => ?_
 ·
  refine rg hF rfl fun a hF => ?_
  refine xr ?_
  refine ret1 rfl hF rfl ⟨congrArg vi (Eq.symm ?_), hS.old⟩
  unfold makeHandle
  first | exact if_pos (by omega) | exact if_neg (by omega)
 refine wp_skip <| hK2 _ _ <| rg hF rfl fun a hF => ?_
 refine xr ?_
 refine ret1 rfl hF rfl ⟨congrArg vi (Eq.symm ?_), hS.old⟩
 unfold makeHandle
 first | exact if_pos (by omega) | exact if_neg (by omega)
theorem implMakeHandle_c {W : World} {i g : Int} : Calls Tryz.prog 43 #[vi i, vi g] W (Ret fun v w' => v = vi (makeHandle i g) ∧ Below W.heap.size W w') := by
 refine cfr Tryz.func43 Tryz.ntmps43 fun a hF => ?_
 have hS := Sep.refl W
 refine rg hF rfl fun a hF => wp_seq_k fun K2 hK2 => ws fun K3 hK3 => ga 3 hF rfl fun a hF => ?_
 apply wo 3 7 10 hF hS
 ·
  intro hg7 a hF
  exact je 3 hF hS rfl rfl rfl rfl
 intro a w1 hF hS
 refine ga 1 hF rfl fun a hF => ?_
 apply wo 3 11 14 hF hS
 ·
  intro hg11 a hF
  exact je 3 hF hS rfl rfl rfl rfl
 intro a w2 hF hS
 refine ga 1 hF rfl fun a hF => ?_
 apply wo 3 15 18 hF hS
 ·
  intro hg15 a hF
  exact je 3 hF hS rfl rfl rfl rfl
 intro a w3 hF hS
 refine wl_nil <| hK3 _ _ <| cx 18 hF rfl (fun c18 hF => ?_) fun c18 hF => ?_
 ·
  refine rg hF rfl fun a hF => ?_
  refine xr ?_
  refine ret1 rfl hF rfl ⟨congrArg vi (Eq.symm ?_), hS.old⟩
  unfold makeHandle
  first | exact if_pos (by omega) | exact if_neg (by omega)
 refine wp_skip <| hK2 _ _ <| rg hF rfl fun a hF => ?_
 refine xr ?_
 refine ret1 rfl hF rfl ⟨congrArg vi (Eq.symm ?_), hS.old⟩
 unfold makeHandle
 first | exact if_pos (by omega) | exact if_neg (by omega)
theorem specStartOp_c {W : World} {s : Sl.State} {cs : List Value} {p : Int} {o : Sl.Op} (hm : stateEK.K W s cs) (hw : s.wf) (hz : (s.size : Int) ≤ 1048576) (hp0 : int64 p) : Calls Tryz.prog 10 #[.agg cs.toArray, vi p, .agg o.enc.toArray] W (Ret (Mk W (fun vs => .tuple #[.agg (stateEK.cells (startS s p o).1 vs).toArray, vi (startS s p o).2]) (fun vs => [Part stateEK (startS s p o).1 vs]))) := by
 refine cfr Tryz.func10 Tryz.ntmps10 fun a hF => ?_
 have hS := Sep.refl W
 obtain ⟨v0, v1, v2, rfl, r0, r1, r2⟩ := hm
 have hm : stateEK.K W s (s.encv v0 v1 v2) := ⟨_, _, _, rfl, r0, r1, r2⟩
 obtain ⟨A_a, q_a, rfl, hq_a, hn_a⟩ := r0.sl; unfold maxLen at hn_a
 obtain ⟨A_b, q_b, rfl, hq_b, hn_b⟩ := r1.sl; unfold maxLen at hn_b
 obtain ⟨A_c, q_c, rfl, hq_c, hn_c⟩ := r2.sl; unfold maxLen at hn_c
 have hwl : IntKind.i64.wrap ((s.threads.length : Int) - 1) = s.threads.length - 1 := w64_id (by omega) (by omega)
 refine ws fun K1 hK1 => wl_box (cs := [_, _, _, _, _, _, _, _, _, _, _, _, _]) hF hS rfl (hF.ev rfl) rfl fun g1 w1 a hS _ hF => wl_box (cs := [_, _, _]) hF hS rfl (hF.ev rfl) rfl fun g2 w2 a hS _ hF => wl_alloc hF hS rfl zr29 fun g3 w3 a hS _ hF => ge hK1 hF rfl fun a hF => ws fun K2 hK2 => gb 1 2 hF hS rfl rfl rfl fun a hF => ?_
 refine wl_mk hF hS rfl rfl rfl (r_call1 en44 (hF.ev rfl)) (l8Copy_c (hS.k hm) (by omega)) ?_; rintro vs14 w4 a hS_ hF; replace hS := hS_; clear hS_; dsimp only [List.cons_append, List.nil_append] at hS
 refine wl_alloc hF hS rfl zr29 fun g4 w5 a hS _ hF => ww 0 hF hS rfl rfl rfl rfl rfl rfl fun w6 hS => wl_nil <| hK2 _ _ <| wp_seq_k fun K3 hK3 => ws fun K4 hK4 => gb 1 4 hF hS rfl rfl rfl fun a hF => ckr hF hS rfl (specIsState_c (hS.k hm) hw (by omega)) fun w7 a hS hF => ?_
 refine ga 2 hF rfl fun a hF => ?_
 apply wo 8 18 26 hF hS
 ·
  intro hg18 a hF
  refine gb 5 4 hF hS rfl rfl rfl fun a hF => ckr hF hS rfl (l1In_c _ _ _) fun w8 a hS hF => ?_
  exact je 8 hF hS rfl rfl rfl rfl
 intro a w9 hF hS
 refine ga 1 hF rfl fun a hF => ?_
 apply wo 4 27 31 hF hS
 ·
  intro hg27 a hF
  refine gb 1 3 hF hS rfl rfl rfl fun a hF => ckr hF hS rfl (specIsOp_c _) fun w10 a hS hF => ?_
  exact je 4 hF hS rfl rfl rfl rfl
 intro a w11 hF hS
 refine ga 1 hF rfl fun a hF => ?_
 apply wo 4 32 36 hF hS
 ·
  intro hg32 a hF
  refine gb 2 4 hF hS rfl rfl rfl fun a hF => ckr hF hS rfl (specIsRunning_c (hS.k hm) hw hz hp0) fun w12 a hS hF => ?_
  exact je 4 hF hS rfl rfl rfl rfl
 intro a w13 hF hS
 refine wl_nil <| hK4 _ _ <| cx 36 hF rfl (fun c36 hF => ?_) fun c36 hF => ?_
 ·
  refine ws fun K5 hK5 => gb 1 0 hF hS rfl rfl rfl fun a hF => ww 2 hF hS rfl rfl rfl rfl rfl rfl fun w14 hS => ge hK5 hF rfl fun a hF => ?_
  refine xr ?_
  have e : startS s p o = (s, 0) := if_neg (by
    rw [hwl] at c36; rintro ⟨⟨a, b⟩, c, d⟩
    rcases c36 with ((h | h) | h) | h
    · rw [a] at h; cases h
    · exact h b
    · exact h c
    · unfold isRunning at h; rw [a, decide_eq_true b, decide_eq_true d] at h; cases h)
  refine ret2c rfl ag29 hF hS (i := 2) rfl sz29 rfl rfl ⟨vs14, ?_, ?_⟩
  · rw [e] <;> rfl
  · rw [e]; exact hS.pick [1] (by decide) rfl
 rw [hwl] at c36
 obtain ⟨hso, hp1⟩ := (⟨c36.1.1.1, by omega⟩ : stateOk s = true ∧ (0 ≤ p ∧ p < s.threads.length))
 obtain ⟨p, rfl⟩ : ∃ k : Nat, p = (k : Int) := ⟨p.toNat, by omega⟩
 have hp : p < s.threads.length := by omega
 have hxt := at0_nat hp
 replace hS := hS.pull (p := 1) rfl; dsimp only [List.eraseIdx] at hS
 replace hS : Sep W (Own intEK (sv (vs14.getD 0 (none, 0, 0))) s.cells :: Own intEK (sv (vs14.getD 1 (none, 0, 0))) s.generations :: Own threadEK (sv (vs14.getD 2 (none, 0, 0))) s.threads :: _) _ := hS.part_open
 dsimp only [stateEK] at hS
 generalize vs14.getD 0 (none, 0, 0) = z0 at hS
 generalize vs14.getD 1 (none, 0, 0) = z1 at hS
 generalize vs14.getD 2 (none, 0, 0) = z2 at hS
 obtain ⟨gt, ot, mt, ct, rfl⟩ := hS.elt_form (q := 2) rfl hxt
 have hmt : mt = s.threads.length := hS.own_len (q := 2) (s := (some ⟨gt, ot, none⟩, mt, ct)) rfl
 replace hS := hS.set_form (q := 2) rfl hxt; dsimp only [List.set] at hS
 have hf := Fit.of hso hw hp
 have hlg := hf.lg
 have hpc0 : (at0 s.threads (p : Int)).pc = 0 := by
   have h9 := c36.2; unfold isRunning at h9; rw [hso, decide_eq_true (show 0 ≤ (p : Int) ∧ (p : Int) ≤ s.threads.length - 1 by omega)] at h9; simpa using h9
 have hrc : refusalOf s (p : Int) o = refusalOf s (p : Int) o := rfl
 have hz1 := hf.sizes; unfold sizesOk at hz1
 have hgo : (stateOk s = true ∧ (0 ≤ (p : Int) ∧ (p : Int) ≤ s.threads.length - 1)) ∧ o.ok ∧ (at0 s.threads (p : Int)).pc = 0 := ⟨⟨hso, by omega⟩, c36.1.2, hpc0⟩
 refine wp_skip <| hK3 _ _ <| ws fun K6 hK6 => gb 2 6 hF hS rfl rfl rfl fun a hF => gb 1 5 hF hS rfl rfl rfl fun a hF => ckr hF hS rfl (specRefusal_c (hS.k hm) hw (by omega) hp0) fun w15 a hS hF => ge hK6 hF rfl fun a hF => ?_
 refine ws fun K7 hK7 => gb 3 3 hF hS rfl rfl rfl fun a hF => gb 1 5 hF hS rfl rfl rfl fun a hF => ?_
 refine wl hF rfl rfl rfl (r_index sl27 (hF.ev rfl) (hF.ev rfl) (by omega) (by first | omega | (dsimp only; omega))) fun a hF => ?_
 refine ga 1 hF rfl fun a hF => ?_
 refine wl_estoren (us := [_, _, _]) (q := 2) (j := 1) (⟨_, ⟨_, _, _⟩, ⟨_, _⟩, _, _, _, _, _, _, _, _, _, _, _, _, _⟩ : Sl.Thread) hF hS hp rfl sz31 (hF.ev rfl) rfl ((hF.ev rfl).trans rfl) rfl (fun _ => ⟨rfl, rfl⟩) (fun _ => by dsimp only [threadEK, Thread.encv, List.take, List.drop, List.cons_append, List.nil_append, List.length_cons, List.length_nil, Nat.reduceAdd] <;> rfl) (by intro _; rfl) fun w16 hS => ?_; dsimp only [List.set] at hS
 refine wl_nil <| hK7 _ _ <| ws fun K8 hK8 => ga 2 hF rfl fun a hF => ?_
 replace hS := hS.pm 7 [3, 2, 0, 1, 4, 5, 6] rfl
 refine ck hF rfl (l10Finish_c (s := s) hp hS) ?_; rintro v w17 a ⟨rfl, hS⟩ hF
 refine wl_nil <| hK8 _ _ <| wp_seq_k fun K9 hK9 => rg hF rfl fun a hF => cx 52 hF rfl (fun c52 hF => ?_) fun c52 hF => ?_
 ·
  refine ws fun K11 hK11 => gb 1 0 hF hS rfl rfl rfl fun a hF => ww 4 hF hS rfl rfl rfl rfl rfl rfl fun w18 hS => ge hK11 hF rfl fun a hF => ?_
  refine xr ?_
  have e : startS s (p : Int) o = (setT s p (endT { (at0 s.threads (p : Int)) with op := o } (refusalOf s (p : Int) o) 0), 2) := by
    unfold startS; rw [if_pos hgo, if_neg c52]; rfl
  refine ret2c rfl ag29 hF hS (i := 4) rfl sz29 rfl rfl ⟨[z0, z1, (some ⟨gt, ot, none⟩, mt, ct)], ?_, ?_⟩
  · rw [e] <;> rfl
  · rw [e]; exact hS.part_of [2, 3, 1] (by decide) rfl
 rw [c52] at hS
 refine wp_skip <| hK9 _ _ <| ws fun K12 hK12 => gb 3 0 hF hS rfl rfl rfl fun a hF => ?_
 refine wl hF rfl rfl rfl (r_index sl27 (hF.ev rfl) (hF.ev rfl) (by omega) (by first | omega | (dsimp only; omega))) fun a hF => ?_
 refine ge hK12 hF rfl fun a hF => wp_seq_k fun K13 hK13 => rh 5 hF hS rfl rfl rfl fun a hF => wp_block <| rg hF rfl fun a hF => cx 101 hF rfl (fun c101 hF => ?_) fun c101 hF => ?_
 ·
  refine wp_region_lit <| ga 3 hF rfl fun a hF => ?_
  refine es 1 0 hF hS hp rfl rfl rfl rfl rfl rfl fun w19 hS => ?_
  refine wl_nil ?_
  refine xt ?_
  refine hK13 _ _ <| ws fun K16 hK16 => gb 1 0 hF hS rfl rfl rfl fun a hF => ww 4 hF hS rfl rfl rfl rfl rfl rfl fun w20 hS => ge hK16 hF rfl fun a hF => ?_
  refine xr ?_
  have e : startS s (p : Int) o = (setT s p (startT (at0 s.threads (p : Int)) o s.generations), 1) := by
    unfold startS; rw [if_pos hgo, if_pos c52]; rfl
  have e9 : startT (at0 s.threads (p : Int)) o s.generations = { endT { (at0 s.threads (p : Int)) with op := o } 0 0 with pc := 1 } := by
    unfold startT; rw [if_pos c101]
  refine ret2c rfl ag29 hF hS (i := 4) rfl sz29 rfl rfl ⟨[z0, z1, (some ⟨gt, ot, none⟩, mt, ct)], ?_, ?_⟩
  · rw [e] <;> rfl
  · rw [e, e9]; exact hS.part_of [2, 3, 1] (by decide) rfl
 refine rg hF rfl fun a hF => cx 106 hF rfl (fun c106 hF => ?_) fun c106 hF => ?_
 ·
  refine wp_region_lit <| ga 3 hF rfl fun a hF => ?_
  refine es 1 0 hF hS hp rfl rfl rfl rfl rfl rfl fun w21 hS => ?_
  refine wl_nil ?_
  refine xt ?_
  refine hK13 _ _ <| ws fun K18 hK18 => gb 1 0 hF hS rfl rfl rfl fun a hF => ww 4 hF hS rfl rfl rfl rfl rfl rfl fun w22 hS => ge hK18 hF rfl fun a hF => ?_
  refine xr ?_
  have e : startS s (p : Int) o = (setT s p (startT (at0 s.threads (p : Int)) o s.generations), 1) := by
    unfold startS; rw [if_pos hgo, if_pos c52]; rfl
  have e9 : startT (at0 s.threads (p : Int)) o s.generations = { endT { (at0 s.threads (p : Int)) with op := o } 0 0 with pc := 10 } := by
    unfold startT; rw [if_neg c101, if_pos c106]
  refine ret2c rfl ag29 hF hS (i := 4) rfl sz29 rfl rfl ⟨[z0, z1, (some ⟨gt, ot, none⟩, mt, ct)], ?_, ?_⟩
  · rw [e] <;> rfl
  · rw [e, e9]; exact hS.part_of [2, 3, 1] (by decide) rfl
 refine rg hF rfl fun a hF => cx 111 hF rfl (fun c111 hF => ?_) fun c111 hF => ?_
 ·
  refine wp_region_lit <| ga 3 hF rfl fun a hF => ?_
  refine es 1 0 hF hS hp rfl rfl rfl rfl rfl rfl fun w23 hS => ?_
  refine wl_nil ?_
  refine xt ?_
  refine hK13 _ _ <| ws fun K20 hK20 => gb 1 0 hF hS rfl rfl rfl fun a hF => ww 4 hF hS rfl rfl rfl rfl rfl rfl fun w24 hS => ge hK20 hF rfl fun a hF => ?_
  refine xr ?_
  have e : startS s (p : Int) o = (setT s p (startT (at0 s.threads (p : Int)) o s.generations), 1) := by
    unfold startS; rw [if_pos hgo, if_pos c52]; rfl
  have e9 : startT (at0 s.threads (p : Int)) o s.generations = { endT { (at0 s.threads (p : Int)) with op := o } 0 0 with pc := 80 } := by
    unfold startT; rw [if_neg c101, if_neg c106, if_pos c111]
  refine ret2c rfl ag29 hF hS (i := 4) rfl sz29 rfl rfl ⟨[z0, z1, (some ⟨gt, ot, none⟩, mt, ct)], ?_, ?_⟩
  · rw [e] <;> rfl
  · rw [e, e9]; exact hS.part_of [2, 3, 1] (by decide) rfl
 refine rg hF rfl fun a hF => cx 116 hF rfl (fun c116 hF => ?_) fun c116 hF => ?_
 ·
  refine wp_region_lit <| ga 3 hF rfl fun a hF => ?_
  refine es 1 0 hF hS hp rfl rfl rfl rfl rfl rfl fun w25 hS => ?_
  refine wl_nil ?_
  refine xt ?_
  refine hK13 _ _ <| ws fun K22 hK22 => gb 1 0 hF hS rfl rfl rfl fun a hF => ww 4 hF hS rfl rfl rfl rfl rfl rfl fun w26 hS => ge hK22 hF rfl fun a hF => ?_
  refine xr ?_
  have e : startS s (p : Int) o = (setT s p (startT (at0 s.threads (p : Int)) o s.generations), 1) := by
    unfold startS; rw [if_pos hgo, if_pos c52]; rfl
  have e9 : startT (at0 s.threads (p : Int)) o s.generations = { endT { (at0 s.threads (p : Int)) with op := o } 0 0 with pc := 50 } := by
    unfold startT; rw [if_neg c101, if_neg c106, if_neg c111, if_pos c116]
  refine ret2c rfl ag29 hF hS (i := 4) rfl sz29 rfl rfl ⟨[z0, z1, (some ⟨gt, ot, none⟩, mt, ct)], ?_, ?_⟩
  · rw [e] <;> rfl
  · rw [e, e9]; exact hS.part_of [2, 3, 1] (by decide) rfl
 refine ws fun K23 hK23 => ga 3 hF rfl fun a hF => ?_
 refine es 1 0 hF hS hp rfl rfl rfl rfl rfl rfl fun w27 hS => ?_
 refine wl_nil <| hK23 _ _ <| ws fun K24 hK24 => ga 3 hF rfl fun a hF => ?_
 obtain ⟨ce66, ke66, ze66, he66⟩ := hS.eltK (q := 1) hp rfl; have kk66 := ke66; obtain ⟨u66_0, u66_1, u66_2, u66_3, u66_4, rfl, f66_0, f66_1, f66_2, f66_3, f66_4⟩ := ke66
 obtain ⟨Ae66, qe66, rfl, _, hme66⟩ := f66_1.sl; unfold maxLen at hme66
 refine wl hF rfl rfl rfl (r_load1 sc26 (hF.ev rfl) (he66 15 _ rfl)) fun a hF => ga 1 hF rfl fun a hF => ?_
 replace hF : Fr _ ((67, vi ((at0 s.threads (p : Int)).free.length : Int)) :: _) a := hF
 refine ge hK24 hF rfl fun a hF => rg hF rfl fun a hF => cx 69 hF rfl (fun c69 hF => ?_) fun c69 hF => ?_
 ·
  obtain ⟨A0_, A1_, A2_, A3_, A4_, k0_, k1_, k2_, k3_, k4_, ⟨n0_, n1_, n2_, n3_, n4_⟩, ⟨q0_, q1_, q2_, q3_, q4_⟩, hS_⟩ := Sep.thr_lend (t := { (at0 s.threads (p : Int)) with op := o, result := ⟨0, 0⟩, pc := 30, node := 0, prev := 0, curr := 0, next := 0, seen := 0, stamp := 0, at_ := 0, found := [] }) (hS.pm 7 [1, 0, 2, 3, 4, 5, 6] rfl) hp; replace hS := hS_; clear hS_; unfold maxLen at n0_ n1_ n2_ n3_ n4_; try dsimp only at n0_ n1_ n2_ n3_ n4_ q0_ q1_ q2_ q3_ q4_
  dsimp only [Thread.encv] at hS
  have hla := hf.last c69; unfold lastF at hla
  refine ws fun K26 hK26 => ga 3 hF rfl fun a hF => wl hF rfl rfl rfl (r_load1 sc26 (hF.ev rfl) (hS.but1 (q := 5) (j := 15) rfl rfl)) fun a hF => ga 2 hF rfl fun a hF => ?_
  have hw_ : IntKind.i64.wrap (((at0 s.threads (p : Int)).free.length : Int) - 1) = (((at0 s.threads (p : Int)).free.length - 1 : Nat) : Int) := by rw [w64_id (by omega) (by omega)]; omega
  rw [hw_] at hF; clear hw_
  obtain ⟨g76, o76, m76, q76, hv76, hm76, hl76, hc76⟩ := Rd.atF ((hS.own_rd (i := 1) rfl)) (a := a) (X := .tmp 75) (hF.ev rfl) (by omega) (by omega)
  refine wl hF rfl rfl rfl (r_index sl26 ((hF.ev rfl).trans hv76) (hF.ev rfl) (by omega) (by first | omega | (simp at hm76; omega))) fun a hF => ?_
  refine wl hF rfl rfl rfl (r_load1 sc3 (hF.ev rfl) (hc76 0 _ rfl)) fun a hF => ge hK26 hF rfl fun a hF => ws fun K27 hK27 => ga 4 hF rfl fun a hF => wl hF rfl rfl rfl (r_load1 sc26 (hF.ev rfl) (hS.but1 (q := 5) (j := 15) rfl rfl)) fun a hF => ga 2 hF rfl fun a hF => ?_
  have hw_ : IntKind.i64.wrap (((at0 s.threads (p : Int)).free.length : Int) - 1) = (((at0 s.threads (p : Int)).free.length - 1 : Nat) : Int) := by rw [w64_id (by omega) (by omega)]; omega
  rw [hw_] at hF; clear hw_
  refine wl hF rfl rfl rfl (r_cuthi (j := (at0 s.threads (p : Int)).free.length - 1) sl26 (hF.ev rfl) ((hF.ev rfl).trans (by first | rfl | (congr 1; omega))) (by omega)) fun a hF => ?_
  replace hS := hS.own_cuthi (q := 1) (j := (at0 s.threads (p : Int)).free.length - 1) rfl (by omega); dsimp only [List.set] at hS
  refine ga 2 hF rfl fun a hF => ?_
  refine wl_bstore (q := 5) (j := 15) hF hS rfl sz26 (hF.ev rfl) rfl (hF.ev rfl) rfl rfl fun w28 hS => ?_; dsimp only [List.set] at hS
  refine wl_nil <| hK27 _ _ <| ws fun K28 hK28 => gb 5 6 hF hS rfl rfl rfl fun a hF => ?_
  obtain ⟨g93, o93, m93, q93, hv93, hm93, hl93, hc93⟩ := Rd.atF ((hS.own_rd (i := 8) rfl)) (a := a) (X := .tmp 92) (hF.ev rfl) (by omega) (by omega)
  refine wl hF rfl rfl rfl (r_index sl26 ((hF.ev rfl).trans hv93) (hF.ev rfl) (by omega) (by first | omega | (simp at hm93; omega))) fun a hF => ?_
  refine wl hF rfl rfl rfl (r_load1 sc3 (hF.ev rfl) (hc93 0 _ rfl)) fun a hF => ckr hF hS rfl (specMakeHandle_c) fun w29 a hS hF => ga 2 hF rfl fun a hF => ?_
  refine wl_bstore (q := 5) (j := 7) hF hS rfl sz3 (hF.ev rfl) rfl (hF.ev rfl) rfl rfl fun w30 hS => ?_; dsimp only [List.set] at hS
  refine wl_nil <| hK28 _ _ <| wp_region_lit <| ga 3 hF rfl fun a hF => ?_
  refine wl_bstore (q := 5) (j := 0) hF hS rfl sz3 (hF.ev rfl) rfl ec rfl rfl fun w31 hS => ?_; dsimp only [List.set] at hS
  refine wl_nil ?_
  refine xt ?_
  refine hK13 _ _ <| ws fun K29 hK29 => gb 1 6 hF hS rfl rfl rfl fun a hF => ww 9 hF hS rfl rfl rfl rfl rfl rfl fun w32 hS => ge hK29 hF rfl fun a hF => ?_
  refine xr ?_
  replace hS := Sep.thr_back (t' := { endT { (at0 s.threads (p : Int)) with op := o } 0 0 with free := (at0 s.threads (p : Int)).free.take ((at0 s.threads (p : Int)).free.length - 1), node := makeHandle (lastF (at0 s.threads (p : Int))) (at0 s.generations (lastF (at0 s.threads (p : Int)))), pc := 32 }) (y0 := (_, _, _)) (y1 := (_, _, _)) (y2 := (_, _, _)) (y3 := (_, _, _)) (y4 := (_, _, _)) hS rfl
  have e : startS s (p : Int) o = (setT s p (startT (at0 s.threads (p : Int)) o s.generations), 1) := by
    unfold startS; rw [if_pos hgo, if_pos c52]; rfl
  have e9 : startT (at0 s.threads (p : Int)) o s.generations = { endT { (at0 s.threads (p : Int)) with op := o } 0 0 with free := (at0 s.threads (p : Int)).free.take ((at0 s.threads (p : Int)).free.length - 1), node := makeHandle (lastF (at0 s.threads (p : Int))) (at0 s.generations (lastF (at0 s.threads (p : Int)))), pc := 32 } := by
    unfold startT; rw [if_neg c101, if_neg c106, if_neg c111, if_neg c116, if_pos c69]
  refine ret2c rfl ag29 hF hS (i := 4) rfl sz29 rfl rfl ⟨[z0, z1, (some ⟨gt, ot, none⟩, mt, ct)], ?_, ?_⟩
  · rw [e] <;> rfl
  · rw [e, e9]; exact hS.part_of [2, 3, 0] (by decide) rfl
 refine wp_skip ?_
 refine xt ?_
 refine hK13 _ _ <| ws fun K30 hK30 => gb 1 0 hF hS rfl rfl rfl fun a hF => ww 4 hF hS rfl rfl rfl rfl rfl rfl fun w33 hS => ge hK30 hF rfl fun a hF => ?_
 refine xr ?_
 have e : startS s (p : Int) o = (setT s p (startT (at0 s.threads (p : Int)) o s.generations), 1) := by
   unfold startS; rw [if_pos hgo, if_pos c52]; rfl
 have e9 : startT (at0 s.threads (p : Int)) o s.generations = { endT { (at0 s.threads (p : Int)) with op := o } 0 0 with pc := 30 } := by
   unfold startT; rw [if_neg c101, if_neg c106, if_neg c111, if_neg c116, if_neg c69]
 refine ret2c rfl ag29 hF hS (i := 4) rfl sz29 rfl rfl ⟨[z0, z1, (some ⟨gt, ot, none⟩, mt, ct)], ?_, ?_⟩
 · rw [e] <;> rfl
 · rw [e, e9]; exact hS.part_of [2, 3, 1] (by decide) rfl
set_option maxRecDepth 20000
def readS (s : Sl.State) (t : Sl.Thread) (p : Int) : Sl.State × Sl.Thread :=
  if t.pc = 16 then (faultS s t.curr, { t with stamp := loadC s.cells (cellOf s t.curr 0), pc := if loadC s.cells (cellOf s t.curr 0) = 0 then 17 else if loadC s.cells (cellOf s t.curr 0) ≤ t.snapshot then 19 else 15 })
  else if t.pc = 17 then (s, { t with seen := at0 s.cells 0, pc := 18 })
  else if t.pc = 18 then (swapS (faultS s t.curr) (cellOf s t.curr 0) 0 t.seen, { t with pc := 16 })
  else if t.pc = 19 then (faultS s t.curr, { t with result := ⟨0, loadC s.cells (cellOf s t.curr 1)⟩, pc := 20 })
  else if t.pc = 20 then (putS s (hazardCell s.config p 0) 0, { t with pc := 21 })
  else if t.pc = 21 then (putS s (hazardCell s.config p 1) 0, endT t t.result.code t.result.value)
  else (s, t)
def isR (n : Int) : Bool := decide (16 ≤ n ∧ n ≤ 21)
theorem read_steps (s : Sl.State) (t : Sl.Thread) (p : Int) : readS (stepped s) t p = (stepped (readS s t p).1, (readS s t p).2) := by
 unfold readS
 split; · rfl
 split; · rfl
 split; · rfl
 split; · rfl
 split; · rfl
 split <;> rfl
theorem l13Read_c {W w : World} {l : List Res} {g gt ot mt ct p : Nat} {z0 z1 : Slv} {s : Sl.State} {t : Sl.Thread} (hp : p < s.threads.length) (hf : Fit s t) (hS : Sep W (Box g ((s).encv (sv z0) (sv z1) (.slice (some ⟨gt, ot, none⟩) mt ct)) :: Own intEK (sv z0) (s).cells :: Own intEK (sv z1) (s).generations :: Own threadEK (.slice (some ⟨gt, ot, none⟩) mt ct) (s.threads.set p t) :: l) w) : Calls Tryz.prog 116 #[.pointer (some ⟨g, 0, none⟩), vi (p : Int)] w (Ret fun v w' => v = .tuple #[] ∧ Sep W (Box g (((readS s t (p : Int)).1).encv (sv z0) (sv z1) (.slice (some ⟨gt, ot, none⟩) mt ct)) :: Own intEK (sv z0) ((readS s t (p : Int)).1).cells :: Own intEK (sv z1) ((readS s t (p : Int)).1).generations :: Own threadEK (.slice (some ⟨gt, ot, none⟩) mt ct) (s.threads.set p (readS s t (p : Int)).2) :: l) w') := by
 refine cfr Tryz.func116 Tryz.ntmps116 fun a hF => ?_
 have hl0 := hS.own_len (q := 1) rfl
 have hl1 := hS.own_len (q := 2) rfl
 have hmt : mt = s.threads.length := by have := hS.own_len (q := 3) (s := (some ⟨gt, ot, none⟩, mt, ct)) rfl; simpa using this
 have hlc := hf.two
 refine ws fun K1 hK1 => gb 5 0 hF hS rfl rfl rfl fun a hF => ?_
 refine wl hF rfl rfl rfl (r_index sl27 (hF.ev rfl) (hF.ev rfl) (by omega) (by first | omega | (dsimp only; omega))) fun a hF => ?_
 refine ge hK1 hF rfl fun a hF => ws fun K2 hK2 => ga 3 hF rfl fun a hF => wl hF rfl rfl rfl (r_load1 sc3 (hF.ev rfl) (hS.elt1 (q := 3) (j := 0) hp rfl (fun _ => rfl))) fun a hF => wl_nil <| hK2 _ _ <| wp_block <| rg hF rfl fun a hF => ?_
 refine cx 16 hF rfl (fun c16 hF => ?_) fun c16 hF => ?_
 ·
  refine ws fun K4 hK4 => ga 6 hF rfl fun a hF => wl hF rfl rfl rfl (r_load1 sc3 (hF.ev rfl) (hS.elt1 (q := 3) (j := 9) hp rfl (fun _ => rfl))) fun a hF => ?_
  replace hS := hS.pm 4 [0, 2, 1, 3] rfl
  refine ck hF rfl (l9Cell_c (s := s) hf.curr hf.lg hS) ?_; rintro v w1 a ⟨rfl, hS⟩ hF
  refine ckr hF hS rfl (l9LoadR_c (fun j u hu => hS.box7 (i := 0) rfl j u hu) (hS.own_rd (i := 2) rfl)) fun w2 a hS hF => ga 2 hF rfl fun a hF => ?_
  refine es 3 12 hF hS hp rfl rfl rfl rfl rfl rfl fun w3 hS => ?_
  refine wl_nil <| hK4 _ _ <| ws fun K5 hK5 => ga 3 hF rfl fun a hF => ?_
  refine es 3 0 hF hS hp rfl rfl rfl rfl rfl rfl fun w4 hS => ?_
  refine wl_nil <| hK5 _ _ <| wp_block <| ws fun K6 hK6 => ga 3 hF rfl fun a hF => wl hF rfl rfl rfl (r_load1 sc3 (hF.ev rfl) (hS.elt1 (q := 3) (j := 12) hp rfl (fun _ => rfl))) fun a hF => ge hK6 hF rfl fun a hF => cx 32 hF rfl (fun c32 hF => ?_) fun c32 hF => ?_
  ·
   refine wp_region_lit <| ga 3 hF rfl fun a hF => ?_
   refine es 3 0 hF hS hp rfl rfl rfl rfl rfl rfl fun w5 hS => ?_
   refine wl_nil ?_
   refine xt ?_
   refine ret0n rfl hF ⟨rfl, ?_⟩
   unfold readS
   rw [if_pos c16, if_pos c32]
   exact (hS.pm 4 [0, 2, 1, 3] rfl)
  refine wp_seq_k fun K7 hK7 => wp_region_calm (by kernel_rfl) (by kernel_rfl) <| qa 3 hF tk rfl fun a hF => wq hF rfl rfl rfl (fun w_ hB_ => r_load1 sc3 (hF.ev rfl) ((hS.ext hB_).elt1 (q := 3) (j := 12) hp rfl (fun _ => rfl))) fun a hF => qa 3 hF tk rfl fun a hF => wq hF rfl rfl rfl (fun w_ hB_ => r_load1 sc3 (hF.ev rfl) ((hS.ext hB_).elt1 (q := 3) (j := 6) hp rfl (fun _ => rfl))) fun a hF => qa 2 hF tk rfl fun a hF => ?_
  refine wpQuiet_nil ?_; intro w6 hB_; have hS := hS.ext hB_
  refine hK7 _ _ <| cx 41 hF rfl (fun c41 hF => ?_) fun c41 hF => ?_
  ·
   refine wp_region_lit <| ga 3 hF rfl fun a hF => ?_
   refine es 3 0 hF hS hp rfl rfl rfl rfl rfl rfl fun w7 hS => ?_
   refine wl_nil ?_
   refine xt ?_
   refine ret0n rfl hF ⟨rfl, ?_⟩
   unfold readS
   rw [if_pos c16, if_neg c32, if_pos c41]
   exact (hS.pm 4 [0, 2, 1, 3] rfl)
  refine wp_skip ?_
  refine xt ?_
  refine ret0n rfl hF ⟨rfl, ?_⟩
  unfold readS
  rw [if_pos c16, if_neg c32, if_neg c41]
  exact (hS.pm 4 [0, 2, 1, 3] rfl)
 refine rg hF rfl fun a hF => cx 54 hF rfl (fun c54 hF => ?_) fun c54 hF => ?_
 ·
  refine ws fun K9 hK9 => gb 5 0 hF hS rfl rfl rfl fun a hF => ?_
  obtain ⟨g61, o61, m61, q61, hv61, hm61, hl61, hc61⟩ := Rd.atF ((hS.own_rd (i := 1) rfl)) (a := a) (X := .const (.int .i64 0)) ec (by omega) (by omega)
  refine wl hF rfl rfl rfl (r_index sl26 ((hF.ev rfl).trans hv61) ec (by omega) (by first | omega | (simp at hm61; omega))) fun a hF => ?_
  refine wl hF rfl rfl rfl (r_load1 sc3 (hF.ev rfl) (hc61 0 _ rfl)) fun a hF => ga 2 hF rfl fun a hF => ?_
  refine es 3 11 hF hS hp rfl rfl rfl rfl rfl rfl fun w8 hS => ?_
  refine wl_nil <| hK9 _ _ <| wp_region_lit <| ga 3 hF rfl fun a hF => ?_
  refine es 3 0 hF hS hp rfl rfl rfl rfl rfl rfl fun w9 hS => ?_
  refine wl_nil ?_
  refine xt ?_
  refine ret0n rfl hF ⟨rfl, ?_⟩
  unfold readS
  rw [if_neg c16, if_pos c54]
  exact hS
 refine rg hF rfl fun a hF => cx 68 hF rfl (fun c68 hF => ?_) fun c68 hF => ?_
 ·
  refine wp_seq_k fun K11 hK11 => wp_region_J (is := [0, 1, 2, 3, 4, 5, 7, 8, 9, 10, 6, 11]) (fun (f : Int) r => Box g (s.encf (sv z0) (sv z1) (.slice (some ⟨gt, ot, none⟩) mt ct) f) :: r) _ (s.faults) [11] (by kernel_rfl) hF hS (by kernel_rfl) <| tq 5 rfl <| tj_load [6, 11] (by kernel_rfl) rfl (gw0 rfl) rfl rfl (fun a w_ x_ hF hS => r_load1 sc3 (hF.ev rfl) (hS.elt1 (q := 3) (j := 9) hp rfl (fun _ => rfl))) <| tq 3 rfl <| tj_load [11] (by kernel_rfl) rfl (gw0 rfl) rfl rfl (fun a w_ x_ hF hS => r_load1 sc3 (hF.ev rfl) (hS.elt1 (q := 3) (j := 11) hp rfl (fun _ => rfl))) ?_
  refine tj_mc (by kernel_rfl) rfl (gw0 rfl) rfl rfl (fun a w_ hF => r_call3 en166 (hF.ev rfl) (hF.ev rfl) ec) (fun w_ hS => calls_unit (l9Cell_c (s := s) hf.curr hf.lg (hS.pm 4 [0, 2, 1, 3] rfl))) (fun _ w_ h_ => ⟨_, (h_.pm 4 [0, 2, 1, 3] rfl)⟩) ?_; intro _
  refine tj_fin (tl := [_]) (by kernel_rfl) rfl ?_; intro a w10 hF hS; try dsimp only at hS
  replace hS := hS.pm 4 [0, 2, 1, 3] rfl
  refine ck hF rfl (l9Swap_c (s := faultS s t.curr) hS) ?_; rintro v w11 a ⟨rfl, hS⟩ hF
  refine wl_nil ⟨rfl, ?_⟩
  refine hK11 _ _ <| wp_region_lit <| ga 3 hF rfl fun a hF => ?_
  refine es 3 0 hF hS hp rfl rfl rfl rfl rfl rfl fun w12 hS => ?_
  refine wl_nil ?_
  refine xt ?_
  refine ret0n rfl hF ⟨rfl, ?_⟩
  unfold readS
  rw [if_neg c16, if_neg c54, if_pos c68]
  exact hS
 refine rg hF rfl fun a hF => cx 85 hF rfl (fun c85 hF => ?_) fun c85 hF => ?_
 ·
  refine ws fun K13 hK13 => ga 5 hF rfl fun a hF => wl hF rfl rfl rfl (r_load1 sc3 (hF.ev rfl) (hS.elt1 (q := 3) (j := 9) hp rfl (fun _ => rfl))) fun a hF => ?_
  replace hS := hS.pm 4 [0, 2, 1, 3] rfl
  refine ck hF rfl (l9Cell_c (s := s) hf.curr hf.lg hS) ?_; rintro v w13 a ⟨rfl, hS⟩ hF
  refine ckr hF hS rfl (l9LoadR_c (fun j u hu => hS.box7 (i := 0) rfl j u hu) (hS.own_rd (i := 2) rfl)) fun w14 a hS hF => ge hK13 hF rfl fun a hF => ws fun K14 hK14 => ga 2 hF rfl fun a hF => wl hF rfl rfl rfl (r_build (bd39_0_1 _ _) ⟨rfl, ec, rfl, (hF.ev rfl), trivial⟩) fun a hF => ga 2 hF rfl fun a hF => ?_
  refine wl_estoren (us := [_, _]) (q := 3) (j := 4) (⟨_, ⟨_, _, _⟩, ⟨_, _⟩, _, _, _, _, _, _, _, _, _, _, _, _, _⟩ : Sl.Thread) hF hS hp rfl sz39 (hF.ev rfl) rfl ((hF.ev rfl).trans rfl) rfl (fun _ => ⟨rfl, rfl⟩) (fun _ => by dsimp only [threadEK, Thread.encv, List.take, List.drop, List.cons_append, List.nil_append, List.length_cons, List.length_nil, Nat.reduceAdd] <;> rfl) (by intro _; rfl) fun w15 hS => ?_; dsimp only [List.set] at hS
  refine wl_nil <| hK14 _ _ <| wp_region_lit <| ga 3 hF rfl fun a hF => ?_
  refine es 3 0 hF hS hp rfl rfl rfl rfl rfl rfl fun w16 hS => ?_
  refine wl_nil ?_
  refine xt ?_
  refine ret0n rfl hF ⟨rfl, ?_⟩
  unfold readS
  rw [if_neg c16, if_neg c54, if_neg c68, if_pos c85]
  exact (hS.pm 4 [0, 2, 1, 3] rfl)
 refine rg hF rfl fun a hF => cx 103 hF rfl (fun c103 hF => ?_) fun c103 hF => ?_
 ·
  refine ws fun K16 hK16 => ga 4 hF rfl fun a hF => wl hF rfl rfl rfl (r_loadn ag25 (hF.ev rfl) (hS.boxn (vs := [_, _, _, _, _, _]) (i := 0) (m := 6) rfl rfl) sz25) fun a hF => ga 1 hF rfl fun a hF => ckr hF hS rfl (specHazardCell_c _ _ _) fun w17 a hS hF => ?_
  refine ck hF rfl (l9Put_c (s := s) hS) ?_; rintro v w18 a ⟨rfl, hS⟩ hF
  refine wl_nil <| hK16 _ _ <| wp_region_lit <| ga 3 hF rfl fun a hF => ?_
  refine es 3 0 hF hS hp rfl rfl rfl rfl rfl rfl fun w19 hS => ?_
  refine wl_nil ?_
  refine xt ?_
  refine ret0n rfl hF ⟨rfl, ?_⟩
  unfold readS
  rw [if_neg c16, if_neg c54, if_neg c68, if_neg c85, if_pos c103]
  exact hS
 refine rg hF rfl fun a hF => cx 116 hF rfl (fun c116 hF => ?_) fun c116 hF => ?_
 ·
  refine ws fun K18 hK18 => ga 4 hF rfl fun a hF => wl hF rfl rfl rfl (r_loadn ag25 (hF.ev rfl) (hS.boxn (vs := [_, _, _, _, _, _]) (i := 0) (m := 6) rfl rfl) sz25) fun a hF => ga 1 hF rfl fun a hF => ckr hF hS rfl (specHazardCell_c _ _ _) fun w20 a hS hF => ?_
  refine ck hF rfl (l9Put_c (s := s) hS) ?_; rintro v w21 a ⟨rfl, hS⟩ hF
  refine wl_nil <| hK18 _ _ <| wp_region_J (is := [0, 1, 2, 3, 4, 5, 6, 7, 8, 9, 10, 11, 12]) (fun (_ : Unit) r => r) _ (()) [12] (by kernel_rfl) hF hS (by kernel_rfl) <| tq 6 rfl <| tj_load [12] (by kernel_rfl) rfl (gw0 rfl) rfl rfl (fun a w_ x_ hF hS => r_load1 sc3 (hF.ev rfl) (hS.elt1 (q := 3) (j := 4) hp rfl (fun _ => rfl))) <| tq 4 rfl <| tj_load [12] (by kernel_rfl) rfl (gw0 rfl) rfl rfl (fun a w_ x_ hF hS => r_load1 sc3 (hF.ev rfl) (hS.elt1 (q := 3) (j := 5) hp rfl (fun _ => rfl))) ?_
  refine tj_fin (tl := [_]) (by kernel_rfl) rfl ?_; intro a w22 hF hS; try dsimp only at hS
  replace hS := hS.pm 4 [0, 3, 1, 2] rfl
  refine ck hF rfl (l10Finish_c (s := putS s (hazardCell s.config (p : Int) 1) 0) hp hS) ?_; rintro v w23 a ⟨rfl, hS⟩ hF
  refine wl_nil ⟨rfl, ?_⟩
  refine xt ?_
  refine ret0n rfl hF ⟨rfl, ?_⟩
  unfold readS
  rw [if_neg c16, if_neg c54, if_neg c68, if_neg c85, if_neg c103, if_pos c116]
  exact (hS.pm 4 [0, 2, 3, 1] rfl)
 refine wp_skip ?_
 refine xt ?_
 refine ret0n rfl hF ⟨rfl, ?_⟩
 unfold readS
 rw [if_neg c16, if_neg c54, if_neg c68, if_neg c85, if_neg c103, if_neg c116]
 exact hS
theorem specIsRead_c {W : World} {n : Int} : Calls Tryz.prog 115 #[vi n] W (Ret fun v w' => v = .bool (isR n) ∧ Below W.heap.size W w') := by
 refine cfr Tryz.func115 Tryz.ntmps115 fun a hF => ?_
 have hS := Sep.refl W
 refine rg hF rfl fun a hF => ws fun K2 hK2 => ga 1 hF rfl fun a hF => ckr hF hS rfl (l1In_c _ _ _) fun w1 a hS hF => ge hK2 hF rfl fun a hF => ?_
 refine xr ?_
 exact ret1 rfl hF rfl ⟨rfl, hS.old⟩
set_option maxRecDepth 20000
def splitIn (xs ys : List Int) : List Int := xs.filter fun x => decide (x ∈ ys)
def splitOut (xs ys : List Int) : List Int := xs.filter fun x => !decide (x ∈ ys)
section
variable {xs ys : List Int} {k : Nat} {x : Int}
theorem in_yes (hx : xs[k]? = some x) (h : x ∈ ys) : splitIn (xs.take (k + 1)) ys = splitIn (xs.take k) ys ++ [x] := by
 simp [splitIn, List.take_add_one, hx, h]
theorem in_no (hx : xs[k]? = some x) (h : ¬ x ∈ ys) : splitIn (xs.take (k + 1)) ys = splitIn (xs.take k) ys := by
 simp [splitIn, List.take_add_one, hx, h]
theorem out_yes (hx : xs[k]? = some x) (h : x ∈ ys) : splitOut (xs.take (k + 1)) ys = splitOut (xs.take k) ys := by
 simp [splitOut, List.take_add_one, hx, h]
theorem out_no (hx : xs[k]? = some x) (h : ¬ x ∈ ys) : splitOut (xs.take (k + 1)) ys = splitOut (xs.take k) ys ++ [x] := by
 simp [splitOut, List.take_add_one, hx, h]
theorem in_le (xs ys : List Int) (k : Nat) : (splitIn (xs.take k) ys).length ≤ xs.length :=
  Nat.le_trans (List.length_filter_le _ _) (by simp; omega)
theorem out_le (xs ys : List Int) (k : Nat) : (splitOut (xs.take k) ys).length ≤ xs.length :=
  Nat.le_trans (List.length_filter_le _ _) (by simp; omega)
theorem out_le' (xs ys : List Int) : (splitOut xs ys).length ≤ xs.length := List.length_filter_le _ _
theorem notin_next (h : ¬ x ∈ xs.take k) {y : Int} (hy : xs[k]? = some y) (e : ¬ y = x) : ¬ x ∈ xs.take (k + 1) := by
 rw [List.take_add_one, hy]
 simp only [Option.toList_some, List.mem_append, List.mem_singleton, not_or]
 exact ⟨h, fun h => e h.symm⟩
theorem mem_at {y : Int} (hy : xs[k]? = some y) (e : y = x) : x ∈ xs := by
 subst e; exact List.mem_of_getElem? hy
theorem notin_all (h : ¬ x ∈ xs.take k) (hk : k ≤ xs.length) (h1 : ¬ (k : Int) < xs.length) : ¬ x ∈ xs := by
 have : k = xs.length := by omega
 subst this
 rwa [List.take_length] at h
end
theorem l8Has_c {W : World} {va : Value} {xs : List Int} {x : Int} (ha : intEK.Rd W va xs) : Calls Tryz.prog 56 #[va, vi x] W (Ret fun v w' => v = .bool (decide (x ∈ xs)) ∧ Below W.heap.size W w') := by
 refine cfr Tryz.func56 Tryz.ntmps56 fun a hF => ?_
 have hS := Sep.refl W
 obtain ⟨A_a, q_a, rfl, hq_a, hn_a⟩ := ha.sl; unfold maxLen at hn_a
 refine rg hF rfl fun a hF => wp_seq_k fun K2 hK2 => rg hF rfl fun a hF => wp_block <| wp_loop_g (σ := Nat) (fun k a w => k ≤ xs.length ∧ ¬ x ∈ xs.take k ∧ Sep W [] w ∧ Fr 18 [(5, vi k), (1, vi x), (0, .slice A_a xs.length q_a)] a) (fun k => xs.length - k) 0 ?_ ?_
 · exact ⟨Nat.zero_le _, by simp, hS, (((hF.nil.keep hF (t := 0) rfl).keep hF (t := 1) rfl).keep hF (t := 5) rfl)⟩
 rintro k a w ⟨hk, hn, hS, hF⟩
 refine wp_seq_k fun K4 hK4 => rg hF rfl fun a hF => ?_
 first | refine wc_dec (hF.ev rfl) (fun c9 => ?_) (fun c9 => ?_) | refine wc_ndec (hF.ev rfl) (fun c9 => ?_) (fun c9 => ?_) | refine wc_b (hF.ev rfl) (fun c9 => ?_) (fun c9 => ?_)
 ·
  have hlt : k < xs.length := by omega
  obtain ⟨y, hy⟩ : ∃ y, xs[k]? = some y := ⟨_, List.getElem?_eq_getElem hlt⟩
  refine wp_skip <| hK4 _ _ <| wp_seq_k fun K6 hK6 => wp_block <| ws fun K7 hK7 => ga 2 hF rfl fun a hF => ?_
  obtain ⟨g14, o14, m14, q14, hv14, hm14, hl14, hc14⟩ := Rd.idxF (hS.rd ha) hy
  refine wl hF rfl rfl rfl (r_index sl26 ((hF.ev rfl).trans hv14) (hF.ev rfl) (by omega) (by omega)) fun a hF => wl hF rfl rfl rfl (r_load1 sc3 (hF.ev rfl) (hc14 0 _ rfl)) fun a hF => ge hK7 hF rfl fun a hF => ?_
  first | refine wc_dec (hF.ev rfl) (fun c17 => ?_) (fun c17 => ?_) | refine wc_ndec (hF.ev rfl) (fun c17 => ?_) (fun c17 => ?_) | refine wc_b (hF.ev rfl) (fun c17 => ?_) (fun c17 => ?_)
  ·
   refine rg hF rfl fun a hF => ?_
   refine xr ?_
   refine ret1 rfl hF rfl ⟨congrArg Value.bool (Eq.symm ?_), hS.old⟩
   first | exact decide_eq_true (mem_at hy c17) | exact decide_eq_false (notin_all hn hk (by assumption))
  refine wp_skip ?_
  refine xt ?_
  refine hK6 _ _ <| rl hF rfl fun a hF => ?_
  refine xt ?_
  exact ⟨k + 1, ⟨by omega, notin_next hn hy c17, hS, (((hF.nil.keep hF (t := 0) rfl).keep hF (t := 1) rfl).keepE hF (t := 5) rfl (wk (by omega)))⟩, by omega⟩
 refine wp_exit ?_
 refine xt ?_
 refine hK2 _ _ <| rg hF rfl fun a hF => ?_
 refine xr ?_
 refine ret1 rfl hF rfl ⟨congrArg Value.bool (Eq.symm ?_), hS.old⟩
 first | exact decide_eq_true (mem_at hy c17) | exact decide_eq_false (notin_all hn hk (by assumption))
theorem index_c {W : World} {va : Value} {xs : List Int} {x : Int} (ha : intEK.Rd W va xs) : Calls Tryz.prog 99 #[va, vi x] W (Ret fun v w' => (∃ j : Int, v = vi j ∧ (0 ≤ j ↔ x ∈ xs)) ∧ Below W.heap.size W w') := by
 refine cfr Tryz.func99 Tryz.ntmps99 fun a hF => ?_
 obtain ⟨A_a, q_a, rfl, hq_a, hn_a⟩ := ha.sl; unfold maxLen at hn_a
 have hS := Sep.refl W
 refine rg hF rfl fun a hF => wp_seq_k fun K2 hK2 => rg hF rfl fun a hF => wp_block <| wp_loop_g (σ := Nat) (fun k a w => k ≤ xs.length ∧ ¬ x ∈ xs.take k ∧ Sep W [] w ∧ Fr 19 [(8, vi k), (7, vi xs.length), (1, vi x), (0, .slice A_a xs.length q_a)] a) (fun k => xs.length - k) 0 ?_ ?_
 · exact ⟨Nat.zero_le _, by simp, hS, ((((hF.nil.keep hF (t := 0) rfl).keep hF (t := 1) rfl).keep hF (t := 7) rfl).keep hF (t := 8) rfl)⟩
 rintro k a w ⟨hk, hn, hS, hF⟩
 refine rg hF rfl fun a hF => wp_seq_k fun K5 hK5 => ?_
 first | refine wc_dec (hF.ev rfl) (fun c9 => ?_) (fun c9 => ?_) | refine wc_ndec (hF.ev rfl) (fun c9 => ?_) (fun c9 => ?_) | refine wc_b (hF.ev rfl) (fun c9 => ?_) (fun c9 => ?_)
 ·
  have hlt : k < xs.length := by omega
  obtain ⟨y, hy⟩ : ∃ y, xs[k]? = some y := ⟨_, List.getElem?_eq_getElem hlt⟩
  refine wp_skip <| hK5 _ _ <| wp_seq_k fun K6 hK6 => wp_block <| rg hF rfl fun a hF => ws fun K8 hK8 => ga 3 hF rfl fun a hF => ?_
  obtain ⟨g14, o14, m14, q14, hv14, hm14, hl14, hc14⟩ := Rd.idxF (hS.rd ha) hy
  refine wl hF rfl rfl rfl (r_index sl26 ((hF.ev rfl).trans hv14) (hF.ev rfl) (by omega) (by omega)) fun a hF => wl hF rfl rfl rfl (r_load1 sc3 (hF.ev rfl) (hc14 0 _ rfl)) fun a hF => ge hK8 hF rfl fun a hF => ?_
  first | refine wc_dec (hF.ev rfl) (fun c16 => ?_) (fun c16 => ?_) | refine wc_ndec (hF.ev rfl) (fun c16 => ?_) (fun c16 => ?_) | refine wc_b (hF.ev rfl) (fun c16 => ?_) (fun c16 => ?_)
  ·
   refine rg hF rfl fun a hF => ?_
   refine xr ?_
   first | exact ret1 rfl hF rfl ⟨⟨_, rfl, ⟨fun _ => mem_at hy c16.symm, fun _ => by omega⟩⟩, hS.old⟩ | exact ret1 rfl hF rfl ⟨⟨_, rfl, ⟨fun h => absurd h (by omega), fun h => absurd h (notin_all hn hk (by assumption))⟩⟩, hS.old⟩
  refine wp_skip ?_
  refine xt ?_
  refine hK6 _ _ <| rl hF rfl fun a hF => ?_
  refine xt ?_
  exact ⟨k + 1, ⟨by omega, notin_next hn hy (fun e => c16 e.symm), hS, ((((hF.nil.keep hF (t := 0) rfl).keep hF (t := 1) rfl).keep hF (t := 7) rfl).keepE hF (t := 8) rfl (wk (by omega)))⟩, by omega⟩
 refine wp_exit ?_
 refine xt ?_
 refine hK2 _ _ <| rg hF rfl fun a hF => ?_
 refine xr ?_
 first | exact ret1 rfl hF rfl ⟨⟨_, rfl, ⟨fun _ => mem_at hy c16.symm, fun _ => by omega⟩⟩, hS.old⟩ | exact ret1 rfl hF rfl ⟨⟨_, rfl, ⟨fun h => absurd h (by omega), fun h => absurd h (notin_all hn hk (by assumption))⟩⟩, hS.old⟩
theorem contains_c {W : World} {va : Value} {xs : List Int} {x : Int} (ha : intEK.Rd W va xs) : Calls Tryz.prog 55 #[va, vi x] W (Ret fun v w' => v = .bool (decide (x ∈ xs)) ∧ Below W.heap.size W w') := by
 refine cfr Tryz.func55 Tryz.ntmps55 fun a hF => ?_
 have hS := Sep.refl W
 refine rg hF rfl fun a hF => ws fun K2 hK2 => ga 2 hF rfl fun a hF => ?_
 refine ck hF rfl (index_c (hS.rd ha)) ?_; rintro v w1 a ⟨⟨j, rfl, hj⟩, hB_⟩ hF; have hS := hS.ext hB_
 refine ge hK2 hF rfl fun a hF => ?_
 refine xr ?_
 exact ret1 rfl hF rfl ⟨congrArg Value.bool (decide_eq_decide.2 hj), hS.old⟩
theorem specSplit_c {W : World} {va vb : Value} {xs ys : List Int} (ha : intEK.Rd W va xs) (hb : intEK.Rd W vb ys) (hz : xs.length ≤ 1099511627776) : Calls Tryz.prog 19 #[va, vb] W (Ret (Mk W (fun (γ : Value × Value) => .tuple #[γ.1, γ.2]) (fun γ => [Own intEK γ.1 (splitIn xs ys), Own intEK γ.2 (splitOut xs ys)]))) := by
 refine cfr Tryz.func19 Tryz.ntmps19 fun a hF => ?_
 obtain ⟨A_a, q_a, rfl, hq_a, hn_a⟩ := ha.sl; unfold maxLen at hn_a
 have hS := Sep.refl W
 refine rg hF rfl fun a hF => ws fun K2 hK2 => wl_bslice intEK [] [] rfl hF hS rfl mk26 rfl trivial rfl rfl rfl rfl fun gl_9 w1 a hS hF => ge hK2 hF rfl fun a hF => ws fun K3 hK3 => wl_bslice intEK [] [] rfl hF hS rfl mk26 rfl trivial rfl rfl rfl rfl fun gl_10 w2 a hS hF => ge hK3 hF rfl fun a hF => ?_
 refine wp_seq_k fun K4 hK4 => rg hF rfl fun a hF => wp_block <| wp_loop_g (σ := Nat × Value × Value) (fun s a w => s.1 ≤ xs.length ∧ Sep W [Own intEK s.2.2 (splitOut (xs.take s.1) ys), Own intEK s.2.1 (splitIn (xs.take s.1) ys)] w ∧ Fr 39 [(8, vi s.1), (7, s.2.2), (6, s.2.1), (1, vb), (0, .slice A_a xs.length q_a)] a) (fun s => xs.length - s.1) (0, .slice (some ⟨gl_9, 0, none⟩) 0 0, .slice (some ⟨gl_10, 0, none⟩) 0 0) ?_ ?_
 · exact ⟨Nat.zero_le _, hS, (((((hF.nil.keep hF (t := 0) rfl).keep hF (t := 1) rfl).keep hF (t := 6) rfl).keep hF (t := 7) rfl).keep hF (t := 8) rfl)⟩
 rintro ⟨k, p, q⟩ a w ⟨hk, hS, hF⟩
 dsimp only at hk hS hF
 refine wp_seq_k fun K6 hK6 => rg hF rfl fun a hF => ?_
 first | refine wc_dec (hF.ev rfl) (fun c14 => ?_) (fun c14 => ?_) | refine wc_ndec (hF.ev rfl) (fun c14 => ?_) (fun c14 => ?_) | refine wc_b (hF.ev rfl) (fun c14 => ?_) (fun c14 => ?_)
 ·
  have hlt : k < xs.length := by omega
  obtain ⟨x, hx⟩ : ∃ x, xs[k]? = some x := ⟨_, List.getElem?_eq_getElem hlt⟩
  refine wp_skip <| hK6 _ _ <| wp_seq_k fun K8 hK8 => wp_block <| ws fun K9 hK9 => ga 3 hF rfl fun a hF => ?_
  obtain ⟨g20, o20, m20, q20, hv20, hm20, hl20, hc20⟩ := Rd.idxF (hS.rd ha) hx
  refine wl hF rfl rfl rfl (r_index sl26 ((hF.ev rfl).trans hv20) (hF.ev rfl) (by omega) (by omega)) fun a hF => wl hF rfl rfl rfl (r_load1 sc3 (hF.ev rfl) (hc20 0 _ rfl)) fun a hF => ckr hF hS rfl (l8Has_c (hS.rd hb)) fun w3 a hS hF => wl_nil (hK9 _ _ ?_)
  first | refine wc_dec (hF.ev rfl) (fun c22 => ?_) (fun c22 => ?_) | refine wc_ndec (hF.ev rfl) (fun c22 => ?_) (fun c22 => ?_) | refine wc_b (hF.ev rfl) (fun c22 => ?_) (fun c22 => ?_)
  ·
   refine wp_region_lit <| ga 3 hF rfl fun a hF => ?_
   obtain ⟨g26, o26, m26, q26, hv26, hm26, hl26, hc26⟩ := Rd.idxF (hS.rd ha) hx
   refine wl hF rfl rfl rfl (r_index sl26 ((hF.ev rfl).trans hv26) (hF.ev rfl) (by omega) (by omega)) fun a hF => wl hF rfl rfl rfl (r_load1 sc3 (hF.ev rfl) (hc26 0 _ rfl)) fun a hF => wl_bslice intEK [vi x] [x] rfl hF hS rfl mk26 rfl ⟨rfl, (hF.ev rfl), trivial⟩ rfl rfl rfl rfl fun gl_28 w4 a hS hF => ?_
   refine wl_append (q := 2) hF hS rfl rfl (hS.own_rd (i := 0) rfl) mk26 rfl (hF.ev rfl) (hF.ev rfl) (by have := in_le xs ys k; simp only [List.length_cons, List.length_nil]; omega) (by have := in_le xs ys k; simp only [List.length_cons, List.length_nil]; unfold maxLen; omega) ?_; intro A_29 c_29 w5 a hS_ hF; replace hS := hS_; clear hS_; dsimp only [List.set, List.length_cons, List.length_nil] at hS hF
   refine ga 1 hF rfl fun a hF => wl_nil ?_
   refine xt ?_
   refine hK8 _ _ <| rl hF rfl fun a hF => ?_
   refine xt ?_
   refine ⟨(k + 1, _, _), ⟨by dsimp only; omega, ?_, (((((hF.nil.keep hF (t := 0) rfl).keep hF (t := 1) rfl).keep hF (t := 6) rfl).keep hF (t := 7) rfl).keepE hF (t := 8) rfl (wk (by omega)))⟩, by dsimp only; omega⟩
   dsimp only
   first
     | rw [in_yes hx c22, out_yes hx c22]; exact hS.pick [1, 2] (by decide) rfl
     | rw [in_no hx c22, out_no hx c22]; exact hS.pick [1, 2] (by decide) rfl
  refine wp_region_lit <| ga 3 hF rfl fun a hF => ?_
  obtain ⟨g33, o33, m33, q33, hv33, hm33, hl33, hc33⟩ := Rd.idxF (hS.rd ha) hx
  refine wl hF rfl rfl rfl (r_index sl26 ((hF.ev rfl).trans hv33) (hF.ev rfl) (by omega) (by omega)) fun a hF => wl hF rfl rfl rfl (r_load1 sc3 (hF.ev rfl) (hc33 0 _ rfl)) fun a hF => wl_bslice intEK [vi x] [x] rfl hF hS rfl mk26 rfl ⟨rfl, (hF.ev rfl), trivial⟩ rfl rfl rfl rfl fun gl_35 w6 a hS hF => ?_
  refine wl_append (q := 1) hF hS rfl rfl (hS.own_rd (i := 0) rfl) mk26 rfl (hF.ev rfl) (hF.ev rfl) (by have := out_le xs ys k; simp only [List.length_cons, List.length_nil]; omega) (by have := out_le xs ys k; simp only [List.length_cons, List.length_nil]; unfold maxLen; omega) ?_; intro A_36 c_36 w7 a hS_ hF; replace hS := hS_; clear hS_; dsimp only [List.set, List.length_cons, List.length_nil] at hS hF
  refine ga 1 hF rfl fun a hF => wl_nil ?_
  refine xt ?_
  refine hK8 _ _ <| rl hF rfl fun a hF => ?_
  refine xt ?_
  refine ⟨(k + 1, _, _), ⟨by dsimp only; omega, ?_, (((((hF.nil.keep hF (t := 0) rfl).keep hF (t := 1) rfl).keep hF (t := 6) rfl).keep hF (t := 7) rfl).keepE hF (t := 8) rfl (wk (by omega)))⟩, by dsimp only; omega⟩
  dsimp only
  first
    | rw [in_yes hx c22, out_yes hx c22]; exact hS.pick [1, 2] (by decide) rfl
    | rw [in_no hx c22, out_no hx c22]; exact hS.pick [1, 2] (by decide) rfl
 refine wp_exit ?_
 refine xt ?_
 refine hK4 _ _ <| rg hF rfl fun a hF => ?_
 refine xr ?_
 obtain rfl : k = xs.length := by omega
 rw [List.take_length] at hS
 exact ret2 rfl hF rfl rfl ⟨(_, _), rfl, hS.pick [1, 0] (by decide) rfl⟩
theorem implSplit_c {W : World} {va vb : Value} {xs ys : List Int} (ha : intEK.Rd W va xs) (hb : intEK.Rd W vb ys) (hz : xs.length ≤ 1099511627776) : Calls Tryz.prog 18 #[va, vb] W (Ret (Mk W (fun (γ : Value × Value) => .tuple #[γ.1, γ.2]) (fun γ => [Own intEK γ.1 (splitIn xs ys), Own intEK γ.2 (splitOut xs ys)]))) := by
 refine cfr Tryz.func18 Tryz.ntmps18 fun a hF => ?_
 obtain ⟨A_a, q_a, rfl, hq_a, hn_a⟩ := ha.sl; unfold maxLen at hn_a
 have hS := Sep.refl W
 refine rg hF rfl fun a hF => ws fun K2 hK2 => wl_bslice intEK [] [] rfl hF hS rfl mk26 rfl trivial rfl rfl rfl rfl fun gl_10 w1 a hS hF => wl_bslice intEK [] [] rfl hF hS rfl mk26 rfl trivial rfl rfl rfl rfl fun gl_11 w2 a hS hF => ge hK2 hF rfl fun a hF => wp_seq_k fun K3 hK3 => rg hF rfl fun a hF => ?_
 refine wp_block <| wp_loop_g (σ := Nat × Value × Value) (fun s a w => s.1 ≤ xs.length ∧ Sep W [Own intEK s.2.2 (splitOut (xs.take s.1) ys), Own intEK s.2.1 (splitIn (xs.take s.1) ys)] w ∧ Fr 32 [(14, vi s.1), (7, s.2.2), (6, s.2.1), (13, vi xs.length), (12, .slice A_a xs.length q_a), (1, vb), (0, .slice A_a xs.length q_a)] a) (fun s => xs.length - s.1) (0, .slice (some ⟨gl_10, 0, none⟩) 0 0, .slice (some ⟨gl_11, 0, none⟩) 0 0) ?_ ?_
 · exact ⟨Nat.zero_le _, hS, (((((((hF.nil.keep hF (t := 0) rfl).keep hF (t := 1) rfl).keep hF (t := 12) rfl).keep hF (t := 13) rfl).keep hF (t := 6) rfl).keep hF (t := 7) rfl).keep hF (t := 14) rfl)⟩
 rintro ⟨k, p, q⟩ a w ⟨hk, hS, hF⟩
 dsimp only at hk hS hF
 refine rg hF rfl fun a hF => wp_seq_k fun K6 hK6 => ?_
 first | refine wc_dec (hF.ev rfl) (fun c15 => ?_) (fun c15 => ?_) | refine wc_ndec (hF.ev rfl) (fun c15 => ?_) (fun c15 => ?_) | refine wc_b (hF.ev rfl) (fun c15 => ?_) (fun c15 => ?_)
 ·
  have hlt : k < xs.length := by omega
  obtain ⟨x, hx⟩ : ∃ x, xs[k]? = some x := ⟨_, List.getElem?_eq_getElem hlt⟩
  refine wp_skip <| hK6 _ _ <| wp_seq_k fun K7 hK7 => wp_block <| ws fun K8 hK8 => ?_
  obtain ⟨g16, o16, m16, q16, hv16, hm16, hl16, hc16⟩ := Rd.idxF (hS.rd ha) hx
  refine wl hF rfl rfl rfl (r_index sl26 ((hF.ev rfl).trans hv16) (hF.ev rfl) (by omega) (by omega)) fun a hF => wl hF rfl rfl rfl (r_load1 sc3 (hF.ev rfl) (hc16 0 _ rfl)) fun a hF => ge hK8 hF rfl fun a hF => ws fun K9 hK9 => ga 2 hF rfl fun a hF => ckr hF hS rfl (contains_c (hS.rd hb)) fun w3 a hS hF => wl_nil (hK9 _ _ ?_)
  first | refine wc_dec (hF.ev rfl) (fun c20 => ?_) (fun c20 => ?_) | refine wc_ndec (hF.ev rfl) (fun c20 => ?_) (fun c20 => ?_) | refine wc_b (hF.ev rfl) (fun c20 => ?_) (fun c20 => ?_)
  ·
   refine wp_region_lit <| ga 2 hF rfl fun a hF => wl_bslice intEK [vi x] [x] rfl hF hS rfl mk26 rfl ⟨rfl, (hF.ev rfl), trivial⟩ rfl rfl rfl rfl fun gl_23 w4 a hS hF => ?_
   refine wl_append (q := 2) hF hS rfl rfl (hS.own_rd (i := 0) rfl) mk26 rfl (hF.ev rfl) (hF.ev rfl) (by have := in_le xs ys k; simp only [List.length_cons, List.length_nil]; omega) (by have := in_le xs ys k; simp only [List.length_cons, List.length_nil]; unfold maxLen; omega) ?_; intro A_24 c_24 w5 a hS_ hF; replace hS := hS_; clear hS_; dsimp only [List.set, List.length_cons, List.length_nil] at hS hF
   refine ga 1 hF rfl fun a hF => wl_nil ?_
   refine xt ?_
   refine hK7 _ _ <| rl hF rfl fun a hF => ?_
   refine xt ?_
   refine ⟨(k + 1, _, _), ⟨by dsimp only; omega, ?_, (((((((hF.nil.keep hF (t := 0) rfl).keep hF (t := 1) rfl).keep hF (t := 12) rfl).keep hF (t := 13) rfl).keep hF (t := 6) rfl).keep hF (t := 7) rfl).keepE hF (t := 14) rfl (wk (by omega)))⟩, by dsimp only; omega⟩
   dsimp only
   first
     | rw [in_yes hx c20, out_yes hx c20]; exact hS.pick [1, 2] (by decide) rfl
     | rw [in_no hx c20, out_no hx c20]; exact hS.pick [1, 2] (by decide) rfl
  refine wp_region_lit <| ga 2 hF rfl fun a hF => wl_bslice intEK [vi x] [x] rfl hF hS rfl mk26 rfl ⟨rfl, (hF.ev rfl), trivial⟩ rfl rfl rfl rfl fun gl_27 w6 a hS hF => ?_
  refine wl_append (q := 1) hF hS rfl rfl (hS.own_rd (i := 0) rfl) mk26 rfl (hF.ev rfl) (hF.ev rfl) (by have := out_le xs ys k; simp only [List.length_cons, List.length_nil]; omega) (by have := out_le xs ys k; simp only [List.length_cons, List.length_nil]; unfold maxLen; omega) ?_; intro A_28 c_28 w7 a hS_ hF; replace hS := hS_; clear hS_; dsimp only [List.set, List.length_cons, List.length_nil] at hS hF
  refine ga 1 hF rfl fun a hF => wl_nil ?_
  refine xt ?_
  refine hK7 _ _ <| rl hF rfl fun a hF => ?_
  refine xt ?_
  refine ⟨(k + 1, _, _), ⟨by dsimp only; omega, ?_, (((((((hF.nil.keep hF (t := 0) rfl).keep hF (t := 1) rfl).keep hF (t := 12) rfl).keep hF (t := 13) rfl).keep hF (t := 6) rfl).keep hF (t := 7) rfl).keepE hF (t := 14) rfl (wk (by omega)))⟩, by dsimp only; omega⟩
  dsimp only
  first
    | rw [in_yes hx c20, out_yes hx c20]; exact hS.pick [1, 2] (by decide) rfl
    | rw [in_no hx c20, out_no hx c20]; exact hS.pick [1, 2] (by decide) rfl
 refine wp_exit ?_
 refine xt ?_
 refine hK3 _ _ <| rg hF rfl fun a hF => ?_
 refine xr ?_
 obtain rfl : k = xs.length := by omega
 rw [List.take_length] at hS
 exact ret2 rfl hF rfl rfl ⟨(_, _), rfl, hS.pick [1, 0] (by decide) rfl⟩
set_option maxRecDepth 20000
def marked (h : Int) : Int := if h = 0 ∨ isHandle h = true ∧ h.tmod 2 = 0 then IntKind.i64.wrap (h + 1) else h
def isNeeded (e : Entry) (ns : List Int) : Bool := ns.any fun n => decide (e.low ≤ n) && decide (n < e.high)
def isPast (e : Entry) (ns : List Int) : Bool := !ns.any fun n => decide (n < e.high)
def dropB (pol key : Int) (ns : List Int) (e : Entry) : Bool := if pol = 1 then isPast e ns else if pol = 2 then !isNeeded e ns && (decide (key < 0) || decide (e.key = key)) else !isNeeded e ns
def splitK (pol key : Int) (es : List Entry) (ns : List Int) : List Entry := es.filter fun e => !dropB pol key ns e
def splitD (pol key : Int) (es : List Entry) (ns : List Int) : List Entry := es.filter fun e => dropB pol key ns e
section
variable {α : Type} {xs : List α} {x : α} {k : Nat} {q : α → Bool}
theorem any_nxt (h : (xs.take k).any q = false) (hx : xs[k]? = some x) (hp : q x = false) : (xs.take (k + 1)).any q = false := by
 rw [List.take_add_one, hx, List.any_append, h]; simp [hp]
theorem any_yes (hx : xs[k]? = some x) (hp : q x = true) : xs.any q = true := List.any_eq_true.2 ⟨x, List.mem_of_getElem? hx, hp⟩
theorem any_done (h : (xs.take k).any q = false) (hk : xs.length ≤ k) : xs.any q = false := by rwa [List.take_of_length_le hk] at h
theorem flt_yes (hx : xs[k]? = some x) (hp : q x = true) : (xs.take (k + 1)).filter q = (xs.take k).filter q ++ [x] := by
 rw [List.take_add_one, hx, List.filter_append]; simp [hp]
theorem flt_no (hx : xs[k]? = some x) (hp : q x = false) : (xs.take (k + 1)).filter q = (xs.take k).filter q := by
 rw [List.take_add_one, hx, List.filter_append]; simp [hp]
theorem flt_le (xs : List α) (q : α → Bool) (k : Nat) : ((xs.take k).filter q).length ≤ xs.length := Nat.le_trans (List.length_filter_le _ _) (by simp; omega)
end
theorem splitE_len (pol key : Int) (es : List Entry) (ns : List Int) : (splitK pol key es ns).length + (splitD pol key es ns).length = es.length := by
 unfold splitK splitD
 induction es with
 | nil => rfl
 | cons x xs ih =>
   simp only [List.filter_cons]
   cases h : dropB pol key ns x <;> simp <;> omega
theorem specMarked_c {W : World} {h : Int} (h1 : int64 h) : Calls Tryz.prog 170 #[vi h] W (Ret fun v w' => v = vi (marked h) ∧ Below W.heap.size W w') := by
 refine cfr Tryz.func170 Tryz.ntmps170 fun a hF => ?_
 have hS := Sep.refl W
 refine rg hF rfl fun a hF => wp_seq_k fun K2 hK2 => ws fun K3 hK3 => ga 3 hF rfl fun a hF => ?_
 apply wo 8 5 13 hF hS
 ·
  intro hg5 a hF
  refine ga 1 hF rfl fun a hF => ckr hF hS rfl (specIsHandle_c h1) fun w1 a hS hF => ga 1 hF rfl fun a hF => ?_
  apply wa 4 8 12 hF hS
  ·
   intro hg8 a hF
   refine ga 1 hF rfl fun a hF => wl_take hF rfl rfl rfl rfl <| wl hF rfl rfl rfl (r_rem (by first | decide | omega) (hF.ev rfl) ec) fun a hF => ?_
   exact je 4 hF hS rfl rfl rfl rfl
  intro a w2 hF hS
  exact je 5 hF hS rfl rfl rfl rfl
 intro a w3 hF hS
 refine wl_nil <| hK3 _ _ <| cx 13 hF rfl (fun c13 hF => ?_) fun c13 hF => ?_
 ·
  refine rg hF rfl fun a hF => ?_
  refine xr ?_
  refine ret1 rfl hF rfl ⟨congrArg vi (Eq.symm ?_), hS.old⟩
  unfold marked
  first | exact if_pos c13 | exact if_neg (by rintro (a | ⟨a, b⟩); exact c13.1 a; rcases c13.2 with c | c; (rw [c] at a; cases a); exact c b)
 refine wp_skip <| hK2 _ _ <| rg hF rfl fun a hF => ?_
 refine xr ?_
 refine ret1 rfl hF rfl ⟨congrArg vi (Eq.symm ?_), hS.old⟩
 unfold marked
 first | exact if_pos c13 | exact if_neg (by rintro (a | ⟨a, b⟩); exact c13.1 a; rcases c13.2 with c | c; (rw [c] at a; cases a); exact c b)
theorem implMarked_c {W : World} {h : Int} (h1 : int64 h) : Calls Tryz.prog 143 #[vi h] W (Ret fun v w' => v = vi (marked h) ∧ Below W.heap.size W w') := by
 refine cfr Tryz.func143 Tryz.ntmps143 fun a hF => ?_
 have hS := Sep.refl W
 refine rg hF rfl fun a hF => wp_seq_k fun K2 hK2 => ws fun K3 hK3 => ga 3 hF rfl fun a hF => ?_
 apply wo 8 5 13 hF hS
 ·
  intro hg5 a hF
  refine ga 1 hF rfl fun a hF => ckr hF hS rfl (implIsHandle_c h1) fun w1 a hS hF => ga 1 hF rfl fun a hF => ?_
  apply wa 4 8 12 hF hS
  ·
   intro hg8 a hF
   refine ga 1 hF rfl fun a hF => wl_take hF rfl rfl rfl rfl <| wl hF rfl rfl rfl (r_rem (by first | decide | omega) (hF.ev rfl) ec) fun a hF => ?_
   exact je 4 hF hS rfl rfl rfl rfl
  intro a w2 hF hS
  exact je 5 hF hS rfl rfl rfl rfl
 intro a w3 hF hS
 refine wl_nil <| hK3 _ _ <| cx 13 hF rfl (fun c13 hF => ?_) fun c13 hF => ?_
 ·
  refine rg hF rfl fun a hF => ?_
  refine xr ?_
  refine ret1 rfl hF rfl ⟨congrArg vi (Eq.symm ?_), hS.old⟩
  unfold marked
  first | exact if_pos c13 | exact if_neg (by rintro (a | ⟨a, b⟩); exact c13.1 a; rcases c13.2 with c | c; (rw [c] at a; cases a); exact c b)
 refine wp_skip <| hK2 _ _ <| rg hF rfl fun a hF => ?_
 refine xr ?_
 refine ret1 rfl hF rfl ⟨congrArg vi (Eq.symm ?_), hS.old⟩
 unfold marked
 first | exact if_pos c13 | exact if_neg (by rintro (a | ⟨a, b⟩); exact c13.1 a; rcases c13.2 with c | c; (rw [c] at a; cases a); exact c b)
theorem specNeeded_c {W : World} {e : Entry} {va : Value} {xs : List Int} (ha : intEK.Rd W va xs) : Calls Tryz.prog 204 #[.agg e.enc.toArray, va] W (Ret fun v w' => v = .bool (isNeeded e xs) ∧ Below W.heap.size W w') := by
 refine cfr Tryz.func204 Tryz.ntmps204 fun a hF => ?_
 have hS := Sep.refl W
 obtain ⟨A_a, q_a, rfl, hq_a, hn_a⟩ := ha.sl; unfold maxLen at hn_a
 refine ws fun K1 hK1 => wl_box (cs := [_, _, _, _]) hF hS rfl (hF.ev rfl) rfl fun g1 w1 a hS _ hF => ge hK1 hF rfl fun a hF => wp_seq_k fun K2 hK2 => rg hF rfl fun a hF => wp_block ?_
 have hL_ := (((hF.nil.keep hF (t := 4) rfl).keep hF (t := 2) rfl).keep hF (t := 1) rfl)
 refine wp_loop_r (σ := Nat) (fun k L_ => (5, vi k) :: L_) (fun k => (k ≤ xs.length) ∧ ((xs.take k).any (fun n => decide (e.low ≤ n) && decide (n < e.high)) = false)) (fun k => xs.length - k) 0 hS (hL_.keepE hF (t := 5) rfl rfl) ?_ ?_
 · exact ⟨Nat.zero_le _, rfl⟩
 rintro k a w2 ⟨hk, hn⟩ hS hF; try dsimp only at hF; try dsimp only at hS
 refine wp_seq_k fun K4 hK4 => rg hF rfl fun a hF => cx 9 hF rfl (fun c9 hF => ?_) fun c9 hF => ?_
 ·
  have hlt : k < xs.length := by omega
  have hx := at0_nat hlt
  refine wp_skip <| hK4 _ _ <| wp_seq_k fun K6 hK6 => wp_block <| wp_seq_k fun K7 hK7 => wp_region_calm (by kernel_rfl) (by kernel_rfl) <| qb 4 0 hF tk hS rfl rfl rfl fun a hF => ?_
  obtain ⟨g16, o16, m16, q16, hv16, hm16, hl16, hc16⟩ := Rd.atF (ha) (a := a) (X := .tmp 15) (hF.ev rfl) (by omega) (by omega)
  refine wq hF rfl rfl rfl (fun w_ hB_ => r_index sl26 ((hF.ev rfl).trans hv16) (hF.ev rfl) (by omega) (by first | omega | (simp at hm16; omega))) fun a hF => ?_
  refine wq hF rfl rfl rfl (fun w_ hB_ => r_load1 sc3 (hF.ev rfl) (cellB (hS.ext hB_).old (hc16 0 _ rfl))) fun a hF => qa 2 hF tk rfl fun a hF => ?_
  apply wq_and (A := [_, _, _, _, _, _, _, _]) (pk := 27) hF (tc := 19) rfl
  ·
   intro hg19 a hF; try simp only [zb] at hg19
   refine qa 2 hF tk rfl fun a hF => wq_take hF rfl rfl rfl rfl ?_
   obtain ⟨g22, o22, m22, q22, hv22, hm22, hl22, hc22⟩ := Rd.atF (ha) (a := a) (X := .tmp 21) (hF.ev rfl) (by omega) (by omega)
   refine wq hF rfl rfl rfl (fun w_ hB_ => r_index sl26 ((hF.ev rfl).trans hv22) (hF.ev rfl) (by omega) (by first | omega | (simp at hm22; omega))) fun a hF => ?_
   refine wq_take hF rfl rfl rfl rfl <| wq hF rfl rfl rfl (fun w_ hB_ => r_load1 sc3 (hF.ev rfl) (cellB (hS.ext hB_).old (hc22 0 _ rfl))) fun a hF => qb 4 0 hF tk hS rfl rfl rfl fun a hF => ?_
   exact wpQuiet_nil ((Fr.pre (A := [_, _, _, _, _, _, _, _]) hF rfl).keep hF (t := 27) rfl)
  ·
   intro hg19 a hF; try simp only [zb] at hg19
   refine qa 8 hF tk rfl fun a hF => ?_
   exact wpQuiet_nil ((Fr.pre (A := [_, _, _, _, _, _, _, _]) hF rfl).keep hF (t := 27) rfl)
  intro a hF
  refine wpQuiet_nil ?_; intro w4 hB_; have hS := hS.ext hB_
  refine hK7 _ _ <| cx 27 hF rfl (fun c27 hF => ?_) fun c27 hF => ?_
  ·
   refine rg hF rfl fun a hF => ?_
   refine xr ?_
   first
     | (refine ret1 rfl hF rfl ⟨congrArg Value.bool (Eq.symm ?_), hS.old⟩; exact any_yes hx (by simp only [Bool.and_eq_true, decide_eq_true_eq]; exact c27))
     | (refine ret1 rfl hF rfl ⟨congrArg Value.bool (Eq.symm ?_), hS.old⟩; exact any_done hn (by omega))
  refine wp_skip ?_
  refine xt ?_
  refine hK6 _ _ <| rl hF rfl fun a hF => ?_
  refine xt ?_
  refine ⟨k + 1, ⟨by omega, any_nxt hn hx (by rw [Bool.and_eq_false_iff, decide_eq_false_iff_not, decide_eq_false_iff_not]; omega)⟩, hS, ((((hF.nil.keep hF (t := 4) rfl).keep hF (t := 2) rfl).keep hF (t := 1) rfl).keepE hF (t := 5) rfl (wk (by omega))), by omega⟩
 refine wp_exit ?_
 refine xt ?_
 refine hK2 _ _ <| rg hF rfl fun a hF => ?_
 refine xr ?_
 first
   | (refine ret1 rfl hF rfl ⟨congrArg Value.bool (Eq.symm ?_), hS.old⟩; exact any_yes hx (by simp only [Bool.and_eq_true, decide_eq_true_eq]; exact c27))
   | (refine ret1 rfl hF rfl ⟨congrArg Value.bool (Eq.symm ?_), hS.old⟩; exact any_done hn (by omega))
theorem specPast_c {W : World} {e : Entry} {va : Value} {xs : List Int} (ha : intEK.Rd W va xs) : Calls Tryz.prog 205 #[.agg e.enc.toArray, va] W (Ret fun v w' => v = .bool (isPast e xs) ∧ Below W.heap.size W w') := by
 refine cfr Tryz.func205 Tryz.ntmps205 fun a hF => ?_
 have hS := Sep.refl W
 obtain ⟨A_a, q_a, rfl, hq_a, hn_a⟩ := ha.sl; unfold maxLen at hn_a
 refine ws fun K1 hK1 => wl_box (cs := [_, _, _, _]) hF hS rfl (hF.ev rfl) rfl fun g1 w1 a hS _ hF => ge hK1 hF rfl fun a hF => wp_seq_k fun K2 hK2 => rg hF rfl fun a hF => wp_block ?_
 have hL_ := (((hF.nil.keep hF (t := 4) rfl).keep hF (t := 2) rfl).keep hF (t := 1) rfl)
 refine wp_loop_r (σ := Nat) (fun k L_ => (5, vi k) :: L_) (fun k => (k ≤ xs.length) ∧ ((xs.take k).any (fun n => decide (n < e.high)) = false)) (fun k => xs.length - k) 0 hS (hL_.keepE hF (t := 5) rfl rfl) ?_ ?_
 · exact ⟨Nat.zero_le _, rfl⟩
 rintro k a w2 ⟨hk, hn⟩ hS hF; try dsimp only at hF; try dsimp only at hS
 refine wp_seq_k fun K4 hK4 => rg hF rfl fun a hF => cx 9 hF rfl (fun c9 hF => ?_) fun c9 hF => ?_
 ·
  have hlt : k < xs.length := by omega
  have hx := at0_nat hlt
  refine wp_skip <| hK4 _ _ <| wp_seq_k fun K6 hK6 => wp_block <| wp_seq_k fun K7 hK7 => wp_region_calm (by kernel_rfl) (by kernel_rfl) <| qa 2 hF tk rfl fun a hF => ?_
  obtain ⟨g14, o14, m14, q14, hv14, hm14, hl14, hc14⟩ := Rd.atF (ha) (a := a) (X := .tmp 13) (hF.ev rfl) (by omega) (by omega)
  refine wq hF rfl rfl rfl (fun w_ hB_ => r_index sl26 ((hF.ev rfl).trans hv14) (hF.ev rfl) (by omega) (by first | omega | (simp at hm14; omega))) fun a hF => ?_
  refine wq hF rfl rfl rfl (fun w_ hB_ => r_load1 sc3 (hF.ev rfl) (cellB (hS.ext hB_).old (hc14 0 _ rfl))) fun a hF => qb 3 0 hF tk hS rfl rfl rfl fun a hF => ?_
  refine wpQuiet_nil ?_; intro w3 hB_; have hS := hS.ext hB_
  refine hK7 _ _ <| cx 18 hF rfl (fun c18 hF => ?_) fun c18 hF => ?_
  ·
   refine rg hF rfl fun a hF => ?_
   refine xr ?_
   refine ret1 rfl hF rfl ⟨congrArg Value.bool (Eq.symm ?_), hS.old⟩; unfold isPast
   first
     | (rw [any_yes (q := fun n => decide (n < e.high)) hx (decide_eq_true c18)]; rfl)
     | (rw [any_done (q := fun n => decide (n < e.high)) hn (by omega)]; rfl)
  refine wp_skip ?_
  refine xt ?_
  refine hK6 _ _ <| rl hF rfl fun a hF => ?_
  refine xt ?_
  refine ⟨k + 1, ⟨by omega, any_nxt hn hx (decide_eq_false (by omega))⟩, hS, ((((hF.nil.keep hF (t := 4) rfl).keep hF (t := 2) rfl).keep hF (t := 1) rfl).keepE hF (t := 5) rfl (wk (by omega))), by omega⟩
 refine wp_exit ?_
 refine xt ?_
 refine hK2 _ _ <| rg hF rfl fun a hF => ?_
 refine xr ?_
 refine ret1 rfl hF rfl ⟨congrArg Value.bool (Eq.symm ?_), hS.old⟩; unfold isPast
 first
   | (rw [any_yes (q := fun n => decide (n < e.high)) hx (decide_eq_true c18)]; rfl)
   | (rw [any_done (q := fun n => decide (n < e.high)) hn (by omega)]; rfl)
theorem needed1_c {W : World} {e : Entry} {g : Nat} {n : Int} (hc : ∀ j u, e.enc[j]? = some u → W.cell? ⟨g, 0 + j, none⟩ = some u) : Calls Tryz.prog 194 #[vi n, .pointer (some ⟨g, 0, none⟩)] W (Ret fun v w' => v = .bool (decide (e.low ≤ n) && decide (n < e.high)) ∧ Below W.heap.size W w') := by
 refine cfr Tryz.func194 Tryz.ntmps194 fun a hF => ?_
 have hS := Sep.refl W
 refine rg hF rfl fun a hF => ws fun K2 hK2 => ga 1 hF rfl fun a hF => wl hF rfl rfl rfl (r_load1 sc3 (hF.ev rfl) (cellB hS.old (hc 2 _ rfl))) fun a hF => ga 3 hF rfl fun a hF => ?_
 apply wa 5 8 13 hF hS
 ·
  intro hg8 a hF
  refine ga 2 hF rfl fun a hF => wl_take hF rfl rfl rfl rfl <| wl hF rfl rfl rfl (r_load1 sc3 (hF.ev rfl) (cellB hS.old (hc 3 _ rfl))) fun a hF => ?_
  exact je 5 hF hS rfl rfl rfl rfl
 intro a w1 hF hS
 refine ge hK2 hF rfl fun a hF => ?_
 refine xr ?_
 exact ret1 rfl hF rfl ⟨rfl, hS.old⟩
theorem past1_c {W : World} {e : Entry} {g : Nat} {n : Int} (hc : ∀ j u, e.enc[j]? = some u → W.cell? ⟨g, 0 + j, none⟩ = some u) : Calls Tryz.prog 195 #[vi n, .pointer (some ⟨g, 0, none⟩)] W (Ret fun v w' => v = .bool (decide (n < e.high)) ∧ Below W.heap.size W w') := by
 refine cfr Tryz.func195 Tryz.ntmps195 fun a hF => ?_
 have hS := Sep.refl W
 refine rg hF rfl fun a hF => ws fun K2 hK2 => ga 2 hF rfl fun a hF => wl hF rfl rfl rfl (r_load1 sc3 (hF.ev rfl) (cellB hS.old (hc 3 _ rfl))) fun a hF => ge hK2 hF rfl fun a hF => ?_
 refine xr ?_
 exact ret1 rfl hF rfl ⟨rfl, hS.old⟩
theorem implNeeded_c {W : World} {e : Entry} {va : Value} {xs : List Int} (ha : intEK.Rd W va xs) : Calls Tryz.prog 176 #[.agg e.enc.toArray, va] W (Ret fun v w' => v = .bool (isNeeded e xs) ∧ Below W.heap.size W w') := by
 refine cfr Tryz.func176 Tryz.ntmps176 fun a hF => ?_
 have hS := Sep.refl W
 obtain ⟨A_a, q_a, rfl, hq_a, hn_a⟩ := ha.sl; unfold maxLen at hn_a
 refine ws fun K1 hK1 => wl_box (cs := [_, _, _, _]) hF hS rfl (hF.ev rfl) rfl fun g1 w1 a hS _ hF => ge hK1 hF rfl fun a hF => ws fun K2 hK2 => ga 1 hF rfl fun a hF => ?_
 refine wl hF rfl rfl rfl (r_makeFunc (by simp only [List.map_toArray, List.map_cons, List.map_nil]; rw [hF.ev rfl])) fun a hF => ?_
 refine ckr hF hS rfl (containsFuncI_c (p := fun n => decide (e.low ≤ n) && decide (n < e.high)) (cap := #[.pointer (some ⟨g1, 0, none⟩)]) (hS.rd ha) (by kernel_rfl) (fun w_ x hx hB => by rw [app_1]; exact needed1_c (fun j u hu => cellB hB (hS.box_rd (i := 0) rfl j u hu)))) fun w2 a hS hF => ?_
 refine ge hK2 hF rfl fun a hF => ?_
 refine xr ?_
 exact ret1 rfl hF rfl ⟨rfl, hS.old⟩
theorem implPast_c {W : World} {e : Entry} {va : Value} {xs : List Int} (ha : intEK.Rd W va xs) : Calls Tryz.prog 177 #[.agg e.enc.toArray, va] W (Ret fun v w' => v = .bool (isPast e xs) ∧ Below W.heap.size W w') := by
 refine cfr Tryz.func177 Tryz.ntmps177 fun a hF => ?_
 have hS := Sep.refl W
 obtain ⟨A_a, q_a, rfl, hq_a, hn_a⟩ := ha.sl; unfold maxLen at hn_a
 refine ws fun K1 hK1 => wl_box (cs := [_, _, _, _]) hF hS rfl (hF.ev rfl) rfl fun g1 w1 a hS _ hF => ge hK1 hF rfl fun a hF => ws fun K2 hK2 => ga 1 hF rfl fun a hF => ?_
 refine wl hF rfl rfl rfl (r_makeFunc (by simp only [List.map_toArray, List.map_cons, List.map_nil]; rw [hF.ev rfl])) fun a hF => ?_
 refine ckr hF hS rfl (containsFuncI_c (p := fun n => decide (n < e.high)) (cap := #[.pointer (some ⟨g1, 0, none⟩)]) (hS.rd ha) (by kernel_rfl) (fun w_ x hx hB => by rw [app_1]; exact past1_c (fun j u hu => cellB hB (hS.box_rd (i := 0) rfl j u hu)))) fun w2 a hS hF => ?_
 refine ge hK2 hF rfl fun a hF => ?_
 refine xr ?_
 exact ret1 rfl hF rfl ⟨rfl, hS.old⟩
theorem specSplitE_c {W : World} {pol key : Int} {va vb : Value} {es : List Entry} {ns : List Int} (ha : entryEK.Rd W va es) (hb : intEK.Rd W vb ns) (hz : es.length ≤ 1048576) : Calls Tryz.prog 190 #[vi pol, vi key, va, vb] W (Ret (Mk W (fun (γ : Slv × Slv) => .tuple #[sv γ.1, sv γ.2]) (fun γ => [Own entryEK (sv γ.1) (splitK pol key es ns), Own entryEK (sv γ.2) (splitD pol key es ns)]))) := by
 refine cfr Tryz.func190 Tryz.ntmps190 fun a hF => ?_
 have hS := Sep.refl W
 obtain ⟨A_a, q_a, rfl, hq_a, hn_a⟩ := ha.sl; unfold maxLen at hn_a
 obtain ⟨A_b, q_b, rfl, hq_b, hn_b⟩ := hb.sl; unfold maxLen at hn_b
 refine rg hF rfl fun a hF => ws fun K2 hK2 => wl_bslice entryEK [] [] rfl hF hS rfl mk40 rfl trivial rfl rfl rfl rfl fun gl_14 w1 a hS hF => ge hK2 hF rfl fun a hF => ws fun K3 hK3 => wl_bslice entryEK [] [] rfl hF hS rfl mk40 rfl trivial rfl rfl rfl rfl fun gl_15 w2 a hS hF => ge hK3 hF rfl fun a hF => ?_
 refine wp_seq_k fun K4 hK4 => rg hF rfl fun a hF => wp_block ?_
 replace hS := hS.pull (p := 0) rfl; dsimp only [List.eraseIdx] at hS
 replace hS := hS.pull (p := 1) rfl; dsimp only [List.eraseIdx] at hS
 have hL_ := ((((((hF.nil.keep hF (t := 9) rfl).keep hF (t := 8) rfl).keep hF (t := 3) rfl).keep hF (t := 2) rfl).keep hF (t := 1) rfl).keep hF (t := 0) rfl)
 refine wp_loop_m (σ := Nat × Slv × Slv) (fun z L_ => (12, vi z.1) :: (10, sv z.2.1) :: (11, sv z.2.2) :: L_) (fun z l_ => (Own entryEK (sv z.2.1) ((es.take z.1).filter fun e => !dropB pol key ns e)) :: (Own entryEK (sv z.2.2) ((es.take z.1).filter fun e => dropB pol key ns e)) :: l_) (fun z => (z.1 ≤ es.length)) (fun z => es.length - z.1) (0, (_, _, _), (_, _, _)) (hS) (((hL_.keepE hF (t := 11) rfl rfl).keepE hF (t := 10) rfl rfl).keepE hF (t := 12) rfl rfl) ?_ ?_
 · exact Nat.zero_le _
 rintro ⟨k, ⟨Ak, nk, ck⟩, ⟨Ad, nd, cd⟩⟩ a w3 hk hS hF; try dsimp only at hF; try dsimp only at hS; try dsimp only at hk
 have hnk := hS.own_len (q := 0) (s := (Ak, nk, ck)) rfl
 have hnd := hS.own_len (q := 1) (s := (Ad, nd, cd)) rfl
 replace hS : Sep W (Own entryEK (.slice Ak nk ck) _ :: Own entryEK (.slice Ad nd cd) _ :: _) _ := hS
 have hk1 := flt_le es (fun e => !dropB pol key ns e) k
 have hd1 := flt_le es (fun e => dropB pol key ns e) k
 refine wp_seq_k fun K6 hK6 => rg hF rfl fun a hF => cx 19 hF rfl (fun c19 hF => ?_) fun c19 hF => ?_
 ·
  have hlt : k < es.length := by omega
  have hx := at0_nat hlt
  refine wp_skip <| hK6 _ _ <| wp_seq_k fun K8 hK8 => wp_block <| ws fun K9 hK9 => ga 2 hF rfl fun a hF => ?_
  obtain ⟨g24, o24, m24, q24, hv24, hm24, hl24, hc24⟩ := Rd.atF (ha) (a := a) (X := .tmp 23) (hF.ev rfl) (by omega) (by omega)
  refine wl hF rfl rfl rfl (r_index sl40 ((hF.ev rfl).trans hv24) (hF.ev rfl) (by omega) (by first | omega | (simp at hm24; omega))) fun a hF => ?_
  refine wl hF rfl rfl rfl (r_loadn ag83 (hF.ev rfl) (fun j_ u_ hu_ => cellB hS.old (hc24 j_ u_ hu_)) sz83) fun a hF => ga 1 hF rfl fun a hF => ckr hF hS rfl (specNeeded_c (e := at0 es (k : Int)) (hS.rd hb)) fun w4 a hS hF => ge hK9 hF rfl fun a hF => wp_seq_k fun K10 hK10 => rg hF rfl fun a hF => wp_block ?_
  refine rg hF rfl fun a hF => cx 30 hF rfl (fun c30 hF => ?_) fun c30 hF => ?_
  ·
   refine wp_region_lit <| ga 2 hF rfl fun a hF => ?_
   obtain ⟨g34, o34, m34, q34, hv34, hm34, hl34, hc34⟩ := Rd.atF (ha) (a := a) (X := .tmp 33) (hF.ev rfl) (by omega) (by omega)
   refine wl hF rfl rfl rfl (r_index sl40 ((hF.ev rfl).trans hv34) (hF.ev rfl) (by omega) (by first | omega | (simp at hm34; omega))) fun a hF => ?_
   refine wl hF rfl rfl rfl (r_loadn ag83 (hF.ev rfl) (fun j_ u_ hu_ => cellB hS.old (hc34 j_ u_ hu_)) sz83) fun a hF => ga 1 hF rfl fun a hF => ckr hF hS rfl (specPast_c (e := at0 es (k : Int)) (hS.rd hb)) fun w5 a hS hF => ga 1 hF rfl fun a hF => wl_nil ?_
   refine xt ?_
   refine hK10 _ _ <| rg hF rfl fun a hF => cx 54 hF rfl (fun c54 hF => ?_) fun c54 hF => ?_
   ·
    refine wp_region_lit <| ga 3 hF rfl fun a hF => ?_
    obtain ⟨g58, o58, m58, q58, hv58, hm58, hl58, hc58⟩ := Rd.atF (ha) (a := a) (X := .tmp 57) (hF.ev rfl) (by omega) (by omega)
    refine wl hF rfl rfl rfl (r_index sl40 ((hF.ev rfl).trans hv58) (hF.ev rfl) (by omega) (by first | omega | (simp at hm58; omega))) fun a hF => ?_
    refine wl hF rfl rfl rfl (r_loadn ag83 (hF.ev rfl) (fun j_ u_ hu_ => cellB hS.old (hc58 j_ u_ hu_)) sz83) fun a hF => wl_bslice entryEK [.agg (at0 es (k : Int)).enc.toArray] [at0 es (k : Int)] rfl hF hS rfl mk40 rfl ⟨rfl, (hF.ev rfl), trivial⟩ rfl rfl rfl rfl fun gl_60 w6 a hS hF => ?_
    refine wl_append (q := 2) hF hS rfl rfl (hS.own_rd (i := 0) rfl) mk40 rfl (hF.ev rfl) (hF.ev rfl) (by simp; omega) (by unfold maxLen; simp; omega) ?_; intro A_61 c_61 w7 a hS_ hF; replace hS := hS_; clear hS_; dsimp only [List.set, List.length_cons, List.length_nil] at hS hF
    refine ga 1 hF rfl fun a hF => wl_nil ?_
    refine xt ?_
    refine hK8 _ _ <| rl hF rfl fun a hF => ?_
    refine xt ?_
    have hd_ : dropB pol key ns (at0 es (k : Int)) = true := by
      unfold dropB
      rw [if_pos c30]; exact c54
    rw [← flt_yes (q := fun e => dropB pol key ns e) hx hd_, ← flt_no (q := fun e => !dropB pol key ns e) hx (by rw [hd_]; rfl)] at hS
    refine ⟨(k + 1, (_, _, _), (_, _, _)), (by dsimp only; omega), (hS.pick [1, 2] (by decide) rfl), (((((((((hF.nil.keep hF (t := 9) rfl).keep hF (t := 8) rfl).keep hF (t := 3) rfl).keep hF (t := 2) rfl).keep hF (t := 1) rfl).keep hF (t := 0) rfl).keepE hF (t := 11) rfl rfl).keepE hF (t := 10) rfl rfl).keepE hF (t := 12) rfl (wk (by omega))), by dsimp only; omega⟩
   refine wp_region_lit <| ga 3 hF rfl fun a hF => ?_
   obtain ⟨g65, o65, m65, q65, hv65, hm65, hl65, hc65⟩ := Rd.atF (ha) (a := a) (X := .tmp 64) (hF.ev rfl) (by omega) (by omega)
   refine wl hF rfl rfl rfl (r_index sl40 ((hF.ev rfl).trans hv65) (hF.ev rfl) (by omega) (by first | omega | (simp at hm65; omega))) fun a hF => ?_
   refine wl hF rfl rfl rfl (r_loadn ag83 (hF.ev rfl) (fun j_ u_ hu_ => cellB hS.old (hc65 j_ u_ hu_)) sz83) fun a hF => wl_bslice entryEK [.agg (at0 es (k : Int)).enc.toArray] [at0 es (k : Int)] rfl hF hS rfl mk40 rfl ⟨rfl, (hF.ev rfl), trivial⟩ rfl rfl rfl rfl fun gl_67 w8 a hS hF => ?_
   refine wl_append (q := 1) hF hS rfl rfl (hS.own_rd (i := 0) rfl) mk40 rfl (hF.ev rfl) (hF.ev rfl) (by simp; omega) (by unfold maxLen; simp; omega) ?_; intro A_68 c_68 w9 a hS_ hF; replace hS := hS_; clear hS_; dsimp only [List.set, List.length_cons, List.length_nil] at hS hF
   refine ga 1 hF rfl fun a hF => wl_nil ?_
   refine xt ?_
   refine hK8 _ _ <| rl hF rfl fun a hF => ?_
   refine xt ?_
   have hd_ : dropB pol key ns (at0 es (k : Int)) = false := by
     unfold dropB
     rw [if_pos c30]; exact c54
   rw [← flt_no (q := fun e => dropB pol key ns e) hx hd_, ← flt_yes (q := fun e => !dropB pol key ns e) hx (by rw [hd_]; rfl)] at hS
   refine ⟨(k + 1, (_, _, _), (_, _, _)), (by dsimp only; omega), (hS.pick [1, 2] (by decide) rfl), (((((((((hF.nil.keep hF (t := 9) rfl).keep hF (t := 8) rfl).keep hF (t := 3) rfl).keep hF (t := 2) rfl).keep hF (t := 1) rfl).keep hF (t := 0) rfl).keepE hF (t := 11) rfl rfl).keepE hF (t := 10) rfl rfl).keepE hF (t := 12) rfl (wk (by omega))), by dsimp only; omega⟩
  refine rg hF rfl fun a hF => cx 38 hF rfl (fun c38 hF => ?_) fun c38 hF => ?_
  ·
   refine wp_region_lit <| ga 2 hF rfl fun a hF => ?_
   apply wa 12 41 53 hF hS
   ·
    intro hg41 a hF
    refine ga 3 hF rfl fun a hF => ?_
    apply wo 8 44 52 hF hS
    ·
     intro hg44 a hF
     refine ga 2 hF rfl fun a hF => wl_take hF rfl rfl rfl rfl ?_
     obtain ⟨g47, o47, m47, q47, hv47, hm47, hl47, hc47⟩ := Rd.atF (ha) (a := a) (X := .tmp 46) (hF.ev rfl) (by omega) (by omega)
     refine wl hF rfl rfl rfl (r_index sl40 ((hF.ev rfl).trans hv47) (hF.ev rfl) (by omega) (by first | omega | (simp at hm47; omega))) fun a hF => ?_
     refine ga 1 hF rfl fun a hF => wl_take hF rfl rfl rfl rfl <| wl hF rfl rfl rfl (r_load1 sc3 (hF.ev rfl) (cellB hS.old (hc47 1 _ rfl))) fun a hF => ?_
     exact je 8 hF hS rfl rfl rfl rfl
    intro a w10 hF hS
    exact je 5 hF hS rfl rfl rfl rfl
   intro a w11 hF hS
   refine ga 1 hF rfl fun a hF => wl_nil ?_
   refine xt ?_
   refine hK10 _ _ <| rg hF rfl fun a hF => cx 54 hF rfl (fun c54 hF => ?_) fun c54 hF => ?_
   ·
    refine wp_region_lit <| ga 3 hF rfl fun a hF => ?_
    obtain ⟨g58, o58, m58, q58, hv58, hm58, hl58, hc58⟩ := Rd.atF (ha) (a := a) (X := .tmp 57) (hF.ev rfl) (by omega) (by omega)
    refine wl hF rfl rfl rfl (r_index sl40 ((hF.ev rfl).trans hv58) (hF.ev rfl) (by omega) (by first | omega | (simp at hm58; omega))) fun a hF => ?_
    refine wl hF rfl rfl rfl (r_loadn ag83 (hF.ev rfl) (fun j_ u_ hu_ => cellB hS.old (hc58 j_ u_ hu_)) sz83) fun a hF => wl_bslice entryEK [.agg (at0 es (k : Int)).enc.toArray] [at0 es (k : Int)] rfl hF hS rfl mk40 rfl ⟨rfl, (hF.ev rfl), trivial⟩ rfl rfl rfl rfl fun gl_60 w12 a hS hF => ?_
    refine wl_append (q := 2) hF hS rfl rfl (hS.own_rd (i := 0) rfl) mk40 rfl (hF.ev rfl) (hF.ev rfl) (by simp; omega) (by unfold maxLen; simp; omega) ?_; intro A_61 c_61 w13 a hS_ hF; replace hS := hS_; clear hS_; dsimp only [List.set, List.length_cons, List.length_nil] at hS hF
    refine ga 1 hF rfl fun a hF => wl_nil ?_
    refine xt ?_
    refine hK8 _ _ <| rl hF rfl fun a hF => ?_
    refine xt ?_
    have hd_ : dropB pol key ns (at0 es (k : Int)) = true := by
      unfold dropB
      rw [if_neg c30, if_pos c38]; simpa using c54
    rw [← flt_yes (q := fun e => dropB pol key ns e) hx hd_, ← flt_no (q := fun e => !dropB pol key ns e) hx (by rw [hd_]; rfl)] at hS
    refine ⟨(k + 1, (_, _, _), (_, _, _)), (by dsimp only; omega), (hS.pick [1, 2] (by decide) rfl), (((((((((hF.nil.keep hF (t := 9) rfl).keep hF (t := 8) rfl).keep hF (t := 3) rfl).keep hF (t := 2) rfl).keep hF (t := 1) rfl).keep hF (t := 0) rfl).keepE hF (t := 11) rfl rfl).keepE hF (t := 10) rfl rfl).keepE hF (t := 12) rfl (wk (by omega))), by dsimp only; omega⟩
   refine wp_region_lit <| ga 3 hF rfl fun a hF => ?_
   obtain ⟨g65, o65, m65, q65, hv65, hm65, hl65, hc65⟩ := Rd.atF (ha) (a := a) (X := .tmp 64) (hF.ev rfl) (by omega) (by omega)
   refine wl hF rfl rfl rfl (r_index sl40 ((hF.ev rfl).trans hv65) (hF.ev rfl) (by omega) (by first | omega | (simp at hm65; omega))) fun a hF => ?_
   refine wl hF rfl rfl rfl (r_loadn ag83 (hF.ev rfl) (fun j_ u_ hu_ => cellB hS.old (hc65 j_ u_ hu_)) sz83) fun a hF => wl_bslice entryEK [.agg (at0 es (k : Int)).enc.toArray] [at0 es (k : Int)] rfl hF hS rfl mk40 rfl ⟨rfl, (hF.ev rfl), trivial⟩ rfl rfl rfl rfl fun gl_67 w14 a hS hF => ?_
   refine wl_append (q := 1) hF hS rfl rfl (hS.own_rd (i := 0) rfl) mk40 rfl (hF.ev rfl) (hF.ev rfl) (by simp; omega) (by unfold maxLen; simp; omega) ?_; intro A_68 c_68 w15 a hS_ hF; replace hS := hS_; clear hS_; dsimp only [List.set, List.length_cons, List.length_nil] at hS hF
   refine ga 1 hF rfl fun a hF => wl_nil ?_
   refine xt ?_
   refine hK8 _ _ <| rl hF rfl fun a hF => ?_
   refine xt ?_
   have hd_ : dropB pol key ns (at0 es (k : Int)) = false := by
     unfold dropB
     rw [if_neg c30, if_pos c38]; rcases c54 with h | h; (rw [h]; rfl); (rw [decide_eq_false (show ¬ key < 0 by omega), decide_eq_false h.2]; simp)
   rw [← flt_no (q := fun e => dropB pol key ns e) hx hd_, ← flt_yes (q := fun e => !dropB pol key ns e) hx (by rw [hd_]; rfl)] at hS
   refine ⟨(k + 1, (_, _, _), (_, _, _)), (by dsimp only; omega), (hS.pick [1, 2] (by decide) rfl), (((((((((hF.nil.keep hF (t := 9) rfl).keep hF (t := 8) rfl).keep hF (t := 3) rfl).keep hF (t := 2) rfl).keep hF (t := 1) rfl).keep hF (t := 0) rfl).keepE hF (t := 11) rfl rfl).keepE hF (t := 10) rfl rfl).keepE hF (t := 12) rfl (wk (by omega))), by dsimp only; omega⟩
  refine wp_skip ?_
  refine xt ?_
  refine hK10 _ _ <| rg hF rfl fun a hF => cx 54 hF rfl (fun c54 hF => ?_) fun c54 hF => ?_
  ·
   refine wp_region_lit <| ga 3 hF rfl fun a hF => ?_
   obtain ⟨g58, o58, m58, q58, hv58, hm58, hl58, hc58⟩ := Rd.atF (ha) (a := a) (X := .tmp 57) (hF.ev rfl) (by omega) (by omega)
   refine wl hF rfl rfl rfl (r_index sl40 ((hF.ev rfl).trans hv58) (hF.ev rfl) (by omega) (by first | omega | (simp at hm58; omega))) fun a hF => ?_
   refine wl hF rfl rfl rfl (r_loadn ag83 (hF.ev rfl) (fun j_ u_ hu_ => cellB hS.old (hc58 j_ u_ hu_)) sz83) fun a hF => wl_bslice entryEK [.agg (at0 es (k : Int)).enc.toArray] [at0 es (k : Int)] rfl hF hS rfl mk40 rfl ⟨rfl, (hF.ev rfl), trivial⟩ rfl rfl rfl rfl fun gl_60 w16 a hS hF => ?_
   refine wl_append (q := 2) hF hS rfl rfl (hS.own_rd (i := 0) rfl) mk40 rfl (hF.ev rfl) (hF.ev rfl) (by simp; omega) (by unfold maxLen; simp; omega) ?_; intro A_61 c_61 w17 a hS_ hF; replace hS := hS_; clear hS_; dsimp only [List.set, List.length_cons, List.length_nil] at hS hF
   refine ga 1 hF rfl fun a hF => wl_nil ?_
   refine xt ?_
   refine hK8 _ _ <| rl hF rfl fun a hF => ?_
   refine xt ?_
   have hd_ : dropB pol key ns (at0 es (k : Int)) = true := by
     unfold dropB
     rw [if_neg c30, if_neg c38]; simpa using c54
   rw [← flt_yes (q := fun e => dropB pol key ns e) hx hd_, ← flt_no (q := fun e => !dropB pol key ns e) hx (by rw [hd_]; rfl)] at hS
   refine ⟨(k + 1, (_, _, _), (_, _, _)), (by dsimp only; omega), (hS.pick [1, 2] (by decide) rfl), (((((((((hF.nil.keep hF (t := 9) rfl).keep hF (t := 8) rfl).keep hF (t := 3) rfl).keep hF (t := 2) rfl).keep hF (t := 1) rfl).keep hF (t := 0) rfl).keepE hF (t := 11) rfl rfl).keepE hF (t := 10) rfl rfl).keepE hF (t := 12) rfl (wk (by omega))), by dsimp only; omega⟩
  refine wp_region_lit <| ga 3 hF rfl fun a hF => ?_
  obtain ⟨g65, o65, m65, q65, hv65, hm65, hl65, hc65⟩ := Rd.atF (ha) (a := a) (X := .tmp 64) (hF.ev rfl) (by omega) (by omega)
  refine wl hF rfl rfl rfl (r_index sl40 ((hF.ev rfl).trans hv65) (hF.ev rfl) (by omega) (by first | omega | (simp at hm65; omega))) fun a hF => ?_
  refine wl hF rfl rfl rfl (r_loadn ag83 (hF.ev rfl) (fun j_ u_ hu_ => cellB hS.old (hc65 j_ u_ hu_)) sz83) fun a hF => wl_bslice entryEK [.agg (at0 es (k : Int)).enc.toArray] [at0 es (k : Int)] rfl hF hS rfl mk40 rfl ⟨rfl, (hF.ev rfl), trivial⟩ rfl rfl rfl rfl fun gl_67 w18 a hS hF => ?_
  refine wl_append (q := 1) hF hS rfl rfl (hS.own_rd (i := 0) rfl) mk40 rfl (hF.ev rfl) (hF.ev rfl) (by simp; omega) (by unfold maxLen; simp; omega) ?_; intro A_68 c_68 w19 a hS_ hF; replace hS := hS_; clear hS_; dsimp only [List.set, List.length_cons, List.length_nil] at hS hF
  refine ga 1 hF rfl fun a hF => wl_nil ?_
  refine xt ?_
  refine hK8 _ _ <| rl hF rfl fun a hF => ?_
  refine xt ?_
  have hd_ : dropB pol key ns (at0 es (k : Int)) = false := by
    unfold dropB
    rw [if_neg c30, if_neg c38]; simpa using c54
  rw [← flt_no (q := fun e => dropB pol key ns e) hx hd_, ← flt_yes (q := fun e => !dropB pol key ns e) hx (by rw [hd_]; rfl)] at hS
  refine ⟨(k + 1, (_, _, _), (_, _, _)), (by dsimp only; omega), (hS.pick [1, 2] (by decide) rfl), (((((((((hF.nil.keep hF (t := 9) rfl).keep hF (t := 8) rfl).keep hF (t := 3) rfl).keep hF (t := 2) rfl).keep hF (t := 1) rfl).keep hF (t := 0) rfl).keepE hF (t := 11) rfl rfl).keepE hF (t := 10) rfl rfl).keepE hF (t := 12) rfl (wk (by omega))), by dsimp only; omega⟩
 refine wp_exit ?_
 refine xt ?_
 refine hK4 _ _ <| rg hF rfl fun a hF => ?_
 refine xr ?_
 obtain rfl : k = es.length := by omega
 rw [List.take_length] at hS
 exact ret2 rfl hF rfl rfl ⟨((_, _, _), (_, _, _)), rfl, hS.pick [0, 1] (by decide) rfl⟩
theorem implSplitE_c {W : World} {pol key : Int} {va vb : Value} {es : List Entry} {ns : List Int} (ha : entryEK.Rd W va es) (hb : intEK.Rd W vb ns) (hz : es.length ≤ 1048576) : Calls Tryz.prog 141 #[vi pol, vi key, va, vb] W (Ret (Mk W (fun (γ : Slv × Slv) => .tuple #[sv γ.1, sv γ.2]) (fun γ => [Own entryEK (sv γ.1) (splitK pol key es ns), Own entryEK (sv γ.2) (splitD pol key es ns)]))) := by
 refine cfr Tryz.func141 Tryz.ntmps141 fun a hF => ?_
 have hS := Sep.refl W
 obtain ⟨A_a, q_a, rfl, hq_a, hn_a⟩ := ha.sl; unfold maxLen at hn_a
 obtain ⟨A_b, q_b, rfl, hq_b, hn_b⟩ := hb.sl; unfold maxLen at hn_b
 refine rg hF rfl fun a hF => ws fun K2 hK2 => wl_bslice entryEK [] [] rfl hF hS rfl mk40 rfl trivial rfl rfl rfl rfl fun gl_15 w1 a hS hF => wl_bslice entryEK [] [] rfl hF hS rfl mk40 rfl trivial rfl rfl rfl rfl fun gl_16 w2 a hS hF => ge hK2 hF rfl fun a hF => wp_seq_k fun K3 hK3 => rg hF rfl fun a hF => ?_
 refine wp_block ?_
 replace hS := hS.pull (p := 0) rfl; dsimp only [List.eraseIdx] at hS
 replace hS := hS.pull (p := 1) rfl; dsimp only [List.eraseIdx] at hS
 have hL_ := (((((((hF.nil.keep hF (t := 18) rfl).keep hF (t := 17) rfl).keep hF (t := 9) rfl).keep hF (t := 8) rfl).keep hF (t := 3) rfl).keep hF (t := 1) rfl).keep hF (t := 0) rfl)
 refine wp_loop_m (σ := Nat × Slv × Slv) (fun z L_ => (19, vi z.1) :: (10, sv z.2.1) :: (11, sv z.2.2) :: L_) (fun z l_ => (Own entryEK (sv z.2.1) ((es.take z.1).filter fun e => !dropB pol key ns e)) :: (Own entryEK (sv z.2.2) ((es.take z.1).filter fun e => dropB pol key ns e)) :: l_) (fun z => (z.1 ≤ es.length)) (fun z => es.length - z.1) (0, (_, _, _), (_, _, _)) (hS) (((hL_.keepE hF (t := 11) rfl rfl).keepE hF (t := 10) rfl rfl).keepE hF (t := 19) rfl rfl) ?_ ?_
 · exact Nat.zero_le _
 rintro ⟨k, ⟨Ak, nk, ck⟩, ⟨Ad, nd, cd⟩⟩ a w3 hk hS hF; try dsimp only at hF; try dsimp only at hS; try dsimp only at hk
 have hnk := hS.own_len (q := 0) (s := (Ak, nk, ck)) rfl
 have hnd := hS.own_len (q := 1) (s := (Ad, nd, cd)) rfl
 replace hS : Sep W (Own entryEK (.slice Ak nk ck) _ :: Own entryEK (.slice Ad nd cd) _ :: _) _ := hS
 have hk1 := flt_le es (fun e => !dropB pol key ns e) k
 have hd1 := flt_le es (fun e => dropB pol key ns e) k
 refine rg hF rfl fun a hF => wp_seq_k fun K6 hK6 => cx 20 hF rfl (fun c20 hF => ?_) fun c20 hF => ?_
 ·
  have hlt : k < es.length := by omega
  have hx := at0_nat hlt
  refine wp_skip <| hK6 _ _ <| wp_seq_k fun K7 hK7 => wp_block <| ws fun K8 hK8 => ?_
  obtain ⟨g21, o21, m21, q21, hv21, hm21, hl21, hc21⟩ := Rd.atF (ha) (a := a) (X := .tmp 19) (hF.ev rfl) (by omega) (by omega)
  refine wl hF rfl rfl rfl (r_index sl40 ((hF.ev rfl).trans hv21) (hF.ev rfl) (by omega) (by first | omega | (simp at hm21; omega))) fun a hF => ?_
  refine wl hF rfl rfl rfl (r_loadn ag83 (hF.ev rfl) (fun j_ u_ hu_ => cellB hS.old (hc21 j_ u_ hu_)) sz83) fun a hF => wl_alloc hF hS rfl zr83 fun g1 w4 a hS _ hF => ?_
  refine wl_storen (cs' := [_, _, _, _]) hF hS (i := 0) rfl (hF.ev rfl) (hF.ev rfl) sz83 ⟨rfl, rfl⟩ rfl rfl fun w5 hS => ?_; dsimp only [List.set] at hS
  refine wl_nil <| hK8 _ _ <| ws fun K9 hK9 => gb 2 0 hF hS rfl rfl rfl fun a hF => ckr hF hS rfl (implNeeded_c (e := at0 es (k : Int)) (hS.rd hb)) fun w6 a hS hF => ge hK9 hF rfl fun a hF => wp_seq_k fun K10 hK10 => rg hF rfl fun a hF => ?_
  refine wp_block <| rg hF rfl fun a hF => cx 28 hF rfl (fun c28 hF => ?_) fun c28 hF => ?_
  ·
   refine wp_region_lit <| gb 2 0 hF hS rfl rfl rfl fun a hF => ckr hF hS rfl (implPast_c (e := at0 es (k : Int)) (hS.rd hb)) fun w7 a hS hF => ga 1 hF rfl fun a hF => wl_nil ?_
   refine xt ?_
   refine hK10 _ _ <| rg hF rfl fun a hF => cx 46 hF rfl (fun c46 hF => ?_) fun c46 hF => ?_
   ·
    refine wp_region_lit <| gb 2 0 hF hS rfl rfl rfl fun a hF => wl_bslice entryEK [.agg (at0 es (k : Int)).enc.toArray] [at0 es (k : Int)] rfl hF hS rfl mk40 rfl ⟨rfl, (hF.ev rfl), trivial⟩ rfl rfl rfl rfl fun gl_49 w8 a hS hF => ?_
    refine wl_append (q := 3) hF hS rfl rfl (hS.own_rd (i := 0) rfl) mk40 rfl (hF.ev rfl) (hF.ev rfl) (by simp; omega) (by unfold maxLen; simp; omega) ?_; intro A_50 c_50 w9 a hS_ hF; replace hS := hS_; clear hS_; dsimp only [List.set, List.length_cons, List.length_nil] at hS hF
    refine ga 1 hF rfl fun a hF => wl_nil ?_
    refine xt ?_
    refine hK7 _ _ <| rl hF rfl fun a hF => ?_
    refine xt ?_
    have hd_ : dropB pol key ns (at0 es (k : Int)) = true := by
      unfold dropB
      rw [if_pos c28]; exact c46
    rw [← flt_yes (q := fun e => dropB pol key ns e) hx hd_, ← flt_no (q := fun e => !dropB pol key ns e) hx (by rw [hd_]; rfl)] at hS
    refine ⟨(k + 1, (_, _, _), (_, _, _)), (by dsimp only; omega), (hS.pick [2, 3] (by decide) rfl), ((((((((((hF.nil.keep hF (t := 18) rfl).keep hF (t := 17) rfl).keep hF (t := 9) rfl).keep hF (t := 8) rfl).keep hF (t := 3) rfl).keep hF (t := 1) rfl).keep hF (t := 0) rfl).keepE hF (t := 11) rfl rfl).keepE hF (t := 10) rfl rfl).keepE hF (t := 19) rfl (wk (by omega))), by dsimp only; omega⟩
   refine wp_region_lit <| gb 2 0 hF hS rfl rfl rfl fun a hF => wl_bslice entryEK [.agg (at0 es (k : Int)).enc.toArray] [at0 es (k : Int)] rfl hF hS rfl mk40 rfl ⟨rfl, (hF.ev rfl), trivial⟩ rfl rfl rfl rfl fun gl_53 w10 a hS hF => ?_
   refine wl_append (q := 2) hF hS rfl rfl (hS.own_rd (i := 0) rfl) mk40 rfl (hF.ev rfl) (hF.ev rfl) (by simp; omega) (by unfold maxLen; simp; omega) ?_; intro A_54 c_54 w11 a hS_ hF; replace hS := hS_; clear hS_; dsimp only [List.set, List.length_cons, List.length_nil] at hS hF
   refine ga 1 hF rfl fun a hF => wl_nil ?_
   refine xt ?_
   refine hK7 _ _ <| rl hF rfl fun a hF => ?_
   refine xt ?_
   have hd_ : dropB pol key ns (at0 es (k : Int)) = false := by
     unfold dropB
     rw [if_pos c28]; exact c46
   rw [← flt_no (q := fun e => dropB pol key ns e) hx hd_, ← flt_yes (q := fun e => !dropB pol key ns e) hx (by rw [hd_]; rfl)] at hS
   refine ⟨(k + 1, (_, _, _), (_, _, _)), (by dsimp only; omega), (hS.pick [2, 3] (by decide) rfl), ((((((((((hF.nil.keep hF (t := 18) rfl).keep hF (t := 17) rfl).keep hF (t := 9) rfl).keep hF (t := 8) rfl).keep hF (t := 3) rfl).keep hF (t := 1) rfl).keep hF (t := 0) rfl).keepE hF (t := 11) rfl rfl).keepE hF (t := 10) rfl rfl).keepE hF (t := 19) rfl (wk (by omega))), by dsimp only; omega⟩
  refine rg hF rfl fun a hF => cx 33 hF rfl (fun c33 hF => ?_) fun c33 hF => ?_
  ·
   refine wp_region_lit <| ga 2 hF rfl fun a hF => ?_
   apply wa 9 36 45 hF hS
   ·
    intro hg36 a hF
    refine ga 3 hF rfl fun a hF => ?_
    apply wo 5 39 44 hF hS
    ·
     intro hg39 a hF
     exact jf 5 0 hF hS rfl rfl rfl rfl rfl rfl
    intro a w12 hF hS
    exact je 5 hF hS rfl rfl rfl rfl
   intro a w13 hF hS
   refine ga 1 hF rfl fun a hF => wl_nil ?_
   refine xt ?_
   refine hK10 _ _ <| rg hF rfl fun a hF => cx 46 hF rfl (fun c46 hF => ?_) fun c46 hF => ?_
   ·
    refine wp_region_lit <| gb 2 0 hF hS rfl rfl rfl fun a hF => wl_bslice entryEK [.agg (at0 es (k : Int)).enc.toArray] [at0 es (k : Int)] rfl hF hS rfl mk40 rfl ⟨rfl, (hF.ev rfl), trivial⟩ rfl rfl rfl rfl fun gl_49 w14 a hS hF => ?_
    refine wl_append (q := 3) hF hS rfl rfl (hS.own_rd (i := 0) rfl) mk40 rfl (hF.ev rfl) (hF.ev rfl) (by simp; omega) (by unfold maxLen; simp; omega) ?_; intro A_50 c_50 w15 a hS_ hF; replace hS := hS_; clear hS_; dsimp only [List.set, List.length_cons, List.length_nil] at hS hF
    refine ga 1 hF rfl fun a hF => wl_nil ?_
    refine xt ?_
    refine hK7 _ _ <| rl hF rfl fun a hF => ?_
    refine xt ?_
    have hd_ : dropB pol key ns (at0 es (k : Int)) = true := by
      unfold dropB
      rw [if_neg c28, if_pos c33]; rw [eq_comm (a := key)] at c46; simpa using c46
    rw [← flt_yes (q := fun e => dropB pol key ns e) hx hd_, ← flt_no (q := fun e => !dropB pol key ns e) hx (by rw [hd_]; rfl)] at hS
    refine ⟨(k + 1, (_, _, _), (_, _, _)), (by dsimp only; omega), (hS.pick [2, 3] (by decide) rfl), ((((((((((hF.nil.keep hF (t := 18) rfl).keep hF (t := 17) rfl).keep hF (t := 9) rfl).keep hF (t := 8) rfl).keep hF (t := 3) rfl).keep hF (t := 1) rfl).keep hF (t := 0) rfl).keepE hF (t := 11) rfl rfl).keepE hF (t := 10) rfl rfl).keepE hF (t := 19) rfl (wk (by omega))), by dsimp only; omega⟩
   refine wp_region_lit <| gb 2 0 hF hS rfl rfl rfl fun a hF => wl_bslice entryEK [.agg (at0 es (k : Int)).enc.toArray] [at0 es (k : Int)] rfl hF hS rfl mk40 rfl ⟨rfl, (hF.ev rfl), trivial⟩ rfl rfl rfl rfl fun gl_53 w16 a hS hF => ?_
   refine wl_append (q := 2) hF hS rfl rfl (hS.own_rd (i := 0) rfl) mk40 rfl (hF.ev rfl) (hF.ev rfl) (by simp; omega) (by unfold maxLen; simp; omega) ?_; intro A_54 c_54 w17 a hS_ hF; replace hS := hS_; clear hS_; dsimp only [List.set, List.length_cons, List.length_nil] at hS hF
   refine ga 1 hF rfl fun a hF => wl_nil ?_
   refine xt ?_
   refine hK7 _ _ <| rl hF rfl fun a hF => ?_
   refine xt ?_
   have hd_ : dropB pol key ns (at0 es (k : Int)) = false := by
     unfold dropB
     rw [if_neg c28, if_pos c33]; rw [eq_comm (a := key)] at c46; rcases c46 with h | h; (rw [h]; rfl); (rw [decide_eq_false (show ¬ key < 0 by omega), decide_eq_false h.2]; simp)
   rw [← flt_no (q := fun e => dropB pol key ns e) hx hd_, ← flt_yes (q := fun e => !dropB pol key ns e) hx (by rw [hd_]; rfl)] at hS
   refine ⟨(k + 1, (_, _, _), (_, _, _)), (by dsimp only; omega), (hS.pick [2, 3] (by decide) rfl), ((((((((((hF.nil.keep hF (t := 18) rfl).keep hF (t := 17) rfl).keep hF (t := 9) rfl).keep hF (t := 8) rfl).keep hF (t := 3) rfl).keep hF (t := 1) rfl).keep hF (t := 0) rfl).keepE hF (t := 11) rfl rfl).keepE hF (t := 10) rfl rfl).keepE hF (t := 19) rfl (wk (by omega))), by dsimp only; omega⟩
  refine wp_skip ?_
  refine xt ?_
  refine hK10 _ _ <| rg hF rfl fun a hF => cx 46 hF rfl (fun c46 hF => ?_) fun c46 hF => ?_
  ·
   refine wp_region_lit <| gb 2 0 hF hS rfl rfl rfl fun a hF => wl_bslice entryEK [.agg (at0 es (k : Int)).enc.toArray] [at0 es (k : Int)] rfl hF hS rfl mk40 rfl ⟨rfl, (hF.ev rfl), trivial⟩ rfl rfl rfl rfl fun gl_49 w18 a hS hF => ?_
   refine wl_append (q := 3) hF hS rfl rfl (hS.own_rd (i := 0) rfl) mk40 rfl (hF.ev rfl) (hF.ev rfl) (by simp; omega) (by unfold maxLen; simp; omega) ?_; intro A_50 c_50 w19 a hS_ hF; replace hS := hS_; clear hS_; dsimp only [List.set, List.length_cons, List.length_nil] at hS hF
   refine ga 1 hF rfl fun a hF => wl_nil ?_
   refine xt ?_
   refine hK7 _ _ <| rl hF rfl fun a hF => ?_
   refine xt ?_
   have hd_ : dropB pol key ns (at0 es (k : Int)) = true := by
     unfold dropB
     rw [if_neg c28, if_neg c33]; simpa using c46
   rw [← flt_yes (q := fun e => dropB pol key ns e) hx hd_, ← flt_no (q := fun e => !dropB pol key ns e) hx (by rw [hd_]; rfl)] at hS
   refine ⟨(k + 1, (_, _, _), (_, _, _)), (by dsimp only; omega), (hS.pick [2, 3] (by decide) rfl), ((((((((((hF.nil.keep hF (t := 18) rfl).keep hF (t := 17) rfl).keep hF (t := 9) rfl).keep hF (t := 8) rfl).keep hF (t := 3) rfl).keep hF (t := 1) rfl).keep hF (t := 0) rfl).keepE hF (t := 11) rfl rfl).keepE hF (t := 10) rfl rfl).keepE hF (t := 19) rfl (wk (by omega))), by dsimp only; omega⟩
  refine wp_region_lit <| gb 2 0 hF hS rfl rfl rfl fun a hF => wl_bslice entryEK [.agg (at0 es (k : Int)).enc.toArray] [at0 es (k : Int)] rfl hF hS rfl mk40 rfl ⟨rfl, (hF.ev rfl), trivial⟩ rfl rfl rfl rfl fun gl_53 w20 a hS hF => ?_
  refine wl_append (q := 2) hF hS rfl rfl (hS.own_rd (i := 0) rfl) mk40 rfl (hF.ev rfl) (hF.ev rfl) (by simp; omega) (by unfold maxLen; simp; omega) ?_; intro A_54 c_54 w21 a hS_ hF; replace hS := hS_; clear hS_; dsimp only [List.set, List.length_cons, List.length_nil] at hS hF
  refine ga 1 hF rfl fun a hF => wl_nil ?_
  refine xt ?_
  refine hK7 _ _ <| rl hF rfl fun a hF => ?_
  refine xt ?_
  have hd_ : dropB pol key ns (at0 es (k : Int)) = false := by
    unfold dropB
    rw [if_neg c28, if_neg c33]; simpa using c46
  rw [← flt_no (q := fun e => dropB pol key ns e) hx hd_, ← flt_yes (q := fun e => !dropB pol key ns e) hx (by rw [hd_]; rfl)] at hS
  refine ⟨(k + 1, (_, _, _), (_, _, _)), (by dsimp only; omega), (hS.pick [2, 3] (by decide) rfl), ((((((((((hF.nil.keep hF (t := 18) rfl).keep hF (t := 17) rfl).keep hF (t := 9) rfl).keep hF (t := 8) rfl).keep hF (t := 3) rfl).keep hF (t := 1) rfl).keep hF (t := 0) rfl).keepE hF (t := 11) rfl rfl).keepE hF (t := 10) rfl rfl).keepE hF (t := 19) rfl (wk (by omega))), by dsimp only; omega⟩
 refine wp_exit ?_
 refine xt ?_
 refine hK3 _ _ <| rg hF rfl fun a hF => ?_
 refine xr ?_
 obtain rfl : k = es.length := by omega
 rw [List.take_length] at hS
 exact ret2 rfl hF rfl rfl ⟨((_, _, _), (_, _, _)), rfl, hS.pick [0, 1] (by decide) rfl⟩
theorem specLimboLimit_c {W : World} (c : Config) : Calls Tryz.prog 191 #[.agg c.enc.toArray] W (Ret fun v w' => v = vi (limboLimit c) ∧ Below W.heap.size W w') := by
 refine cfr Tryz.func191 Tryz.ntmps191 fun a hF => ?_
 have hS := Sep.refl W
 refine ws fun K1 hK1 => wl_box (cs := [_, _, _, _, _, _]) hF hS rfl (hF.ev rfl) rfl fun g1 w1 a hS _ hF => ge hK1 hF rfl fun a hF => wp_seq_k fun K2 hK2 => ws fun K3 hK3 => gb 1 0 hF hS rfl rfl rfl fun a hF => ckr hF hS rfl (specIsConfig_c c) fun w2 a hS hF => ?_
 refine ge hK3 hF rfl fun a hF => ?_
 first | refine wc_dec (hF.ev rfl) (fun c5 => ?_) (fun c5 => ?_) | refine wc_ndec (hF.ev rfl) (fun c5 => ?_) (fun c5 => ?_) | refine wc_b (hF.ev rfl) (fun c5 => ?_) (fun c5 => ?_)
 ·
  refine rg hF rfl fun a hF => ?_
  refine xr ?_
  refine ret1 rfl hF rfl ⟨congrArg vi ?_, hS.old⟩
  unfold limboLimit
  first | (rw [if_neg c5]; done) | (rw [if_pos c5]; unfold Config.ok at c5; simp only [w64]; omega)
 refine wp_skip <| hK2 _ _ <| rh 0 hF hS rfl rfl rfl fun a hF => ?_
 refine xr ?_
 refine ret1 rfl hF rfl ⟨congrArg vi ?_, hS.old⟩
 unfold limboLimit
 first | (rw [if_neg c5]; done) | (rw [if_pos c5]; unfold Config.ok at c5; simp only [w64]; omega)
theorem implLimboLimit_c {W : World} (c : Config) : Calls Tryz.prog 178 #[.agg c.enc.toArray] W (Ret fun v w' => v = vi (limboLimit c) ∧ Below W.heap.size W w') := by
 refine cfr Tryz.func178 Tryz.ntmps178 fun a hF => ?_
 have hS := Sep.refl W
 refine ws fun K1 hK1 => wl_box (cs := [_, _, _, _, _, _]) hF hS rfl (hF.ev rfl) rfl fun g1 w1 a hS _ hF => ge hK1 hF rfl fun a hF => wp_seq_k fun K2 hK2 => ws fun K3 hK3 => gb 1 0 hF hS rfl rfl rfl fun a hF => ckr hF hS rfl (implIsConfig_c c) fun w2 a hS hF => ?_
 refine ge hK3 hF rfl fun a hF => ?_
 first | refine wc_dec (hF.ev rfl) (fun c5 => ?_) (fun c5 => ?_) | refine wc_ndec (hF.ev rfl) (fun c5 => ?_) (fun c5 => ?_) | refine wc_b (hF.ev rfl) (fun c5 => ?_) (fun c5 => ?_)
 ·
  refine rg hF rfl fun a hF => ?_
  refine xr ?_
  refine ret1 rfl hF rfl ⟨congrArg vi ?_, hS.old⟩
  unfold limboLimit
  first | (rw [if_neg c5]; done) | (rw [if_pos c5]; unfold Config.ok at c5; simp only [w64]; omega)
 refine wp_skip <| hK2 _ _ <| rh 0 hF hS rfl rfl rfl fun a hF => ?_
 refine xr ?_
 refine ret1 rfl hF rfl ⟨congrArg vi ?_, hS.old⟩
 unfold limboLimit
 first | (rw [if_neg c5]; done) | (rw [if_pos c5]; unfold Config.ok at c5; simp only [w64]; omega)
theorem bd25_0_1_2_3_4_5 (x0) (x1) (x2) (x3) (x4) (x5) : Tryz.prog.built 25 [(0, .int .i64 x0), (1, .int .i64 x1), (2, .int .i64 x2), (3, .int .i64 x3), (4, .int .i64 x4), (5, .int .i64 x5)] = some [.int .i64 x0, .int .i64 x1, .int .i64 x2, .int .i64 x3, .int .i64 x4, .int .i64 x5].toArray := by kernel_rfl
theorem bd31_0 (x0) : Tryz.prog.built 31 [(0, .int .i64 x0)] = some [.int .i64 x0, .int .i64 0, .int .i64 0].toArray := by kernel_rfl
theorem bd31_0_1 (x0) (x1) : Tryz.prog.built 31 [(0, .int .i64 x0), (1, .int .i64 x1)] = some [.int .i64 x0, .int .i64 x1, .int .i64 0].toArray := by kernel_rfl
theorem bd31_0_1_2 (x0) (x1) (x2) : Tryz.prog.built 31 [(0, .int .i64 x0), (1, .int .i64 x1), (2, .int .i64 x2)] = some [.int .i64 x0, .int .i64 x1, .int .i64 x2].toArray := by kernel_rfl
theorem bd83_0_1_2_3 (x0) (x1) (x2) (x3) : Tryz.prog.built 83 [(0, .int .i64 x0), (1, .int .i64 x1), (2, .int .i64 x2), (3, .int .i64 x3)] = some [.int .i64 x0, .int .i64 x1, .int .i64 x2, .int .i64 x3].toArray := by kernel_rfl
theorem bd97_0_2 (x0) (x1) (x2) (x3) : Tryz.prog.built 97 [(0, .slice x0 x1 x2), (2, .int .i64 x3)] = some [.slice x0 x1 x2, .int .i64 0, .int .i64 x3].toArray := by kernel_rfl
theorem en83 : enterB Tryz.prog 83 = true := by kernel_rfl
theorem en84 : enterB Tryz.prog 84 = true := by kernel_rfl
theorem en85 : enterB Tryz.prog 85 = true := by kernel_rfl
theorem iu3 : Tryz.prog.underlying 3 = some (.int .i64) := by kernel_rfl
theorem iu5 : Tryz.prog.underlying 5 = some (.int .u8) := by kernel_rfl
theorem sc5 : scalB Tryz.prog 5 = true := by kernel_rfl
theorem sl22 : slB Tryz.prog 22 = some (1, 1) := by kernel_rfl
theorem zr31 : zeroOf Tryz.prog 31 = some [.int .i64 0, .int .i64 0, .int .i64 0] := by kernel_rfl
end Go.Proofs.YtgofolgogfmhgaaGreat.Wk
