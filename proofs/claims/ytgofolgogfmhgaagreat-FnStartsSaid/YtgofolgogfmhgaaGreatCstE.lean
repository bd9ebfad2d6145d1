/- Lemmas for the row of RwSt. -/
import Derived.Test.YtgofolgogfmhgaaGreatCstD
namespace Go.Proofs.YtgofolgogfmhgaaGreat.Wk
open Go Go.RowKit Sl
set_option linter.unusedVariables false
set_option linter.unusedSimpArgs false
set_option maxRecDepth 20000
set_option maxHeartbeats 4000000 in
set_option maxRecDepth 20000 in
theorem specStepMany_c {W : World} {s : Sl.State} {cs : List Value} {p n : Int} (hm : stateEK.K W s cs) (hg : Good s) (hp0 : int64 p) : Calls Tryz.prog 160 #[.agg cs.toArray, vi p, vi n] W (Ret (Mk W (fun z : {z : Sl.State × List Slv × Int // Good z.1} => .tuple #[.agg (stateEK.cells z.1.1 z.1.2.1).toArray, vi z.1.2.2]) (fun z => [Part stateEK z.1.1 z.1.2.1]))) := by
 refine calls_fr Tryz.func160 rfl Tryz.ntmps160 rfl ?_
 intro a hF
 have hS := Sep.refl W
 obtain ⟨v0, v1, v2, rfl, r0, r1, r2⟩ := hm
 have hm : stateEK.K W s (s.encv v0 v1 v2) := ⟨_, _, _, rfl, r0, r1, r2⟩
 obtain ⟨A_a, q_a, rfl, hq_a, hn_a⟩ := r0.sl; unfold maxLen at hn_a
 obtain ⟨A_b, q_b, rfl, hq_b, hn_b⟩ := r1.sl; unfold maxLen at hn_b
 obtain ⟨A_c, q_c, rfl, hq_c, hn_c⟩ := r2.sl; unfold maxLen at hn_c
 have hzg : s.size ≤ 2200 := hg.sz
 refine ws fun K1 hK1 => ?_
 refine wl_box (cs := [_, _, _, _, _, _, _, _, _, _, _, _, _]) hF hS rfl (hF.ev rfl) rfl ?_; clear hF a; intro g1 w1 a hS_ hB_ hF; replace hS := hS_; clear hS_ hB_
 refine wl_alloc hF hS rfl zr29 ?_; clear hF a; intro g2 w2 a hS_ hB_ hF; replace hS := hS_; clear hS_ hB_
 refine ra 1 hF tk rfl fun a hF => ?_
 refine wl_nil (hK1 _ _ ?_)
 refine ws fun K2 hK2 => ?_
 refine rb 1 1 hF tk hS rfl rfl rfl fun a hF => ?_
 refine wl_mk hF hS rfl rfl rfl (r_call1 en44 (hF.ev rfl)) (l8Copy_c (hS.k hm) (by omega)) ?_; clear hF a; rintro vs11 w3 a hS_ hF; replace hS := hS_; clear hS_; dsimp only [List.cons_append, List.nil_append] at hS
 refine wl_alloc hF hS rfl zr29 ?_; clear hF a; intro g3 w4 a hS_ hB_ hF; replace hS := hS_; clear hS_ hB_
 refine wl_storew hF hS (i := 0) rfl (hF.ev rfl) (hF.ev rfl) sz29 rfl rfl fun w5 hS => ?_; dsimp only [List.set, Nat.reduceAdd] at hS
 refine wl_nil (hK2 _ _ ?_)
 refine ws fun K3 hK3 => ?_
 refine ra 1 hF tk rfl fun a hF => ?_
 refine wl_nil (hK3 _ _ ?_)
 refine wp_seq_k fun K4 hK4 => ?_
 refine wp_block ?_
 replace hS := hS.pull (p := 1) rfl; dsimp only [List.eraseIdx] at hS
 replace hS := hS.pull (p := 1) rfl; dsimp only [List.eraseIdx] at hS
 have hL_ := (((((hF.nil.keep hF (t := 8) rfl).keep hF (t := 7) rfl).keep hF (t := 6) rfl).keep hF (t := 2) rfl).keep hF (t := 1) rfl)
 refine wp_loop_m (σ := Nat × Sl.State × List Slv) (fun z L_ => (9, vi z.1) :: L_) (fun z l_ => (Box g3 (stateEK.cells z.2.1 z.2.2)) :: (Part stateEK z.2.1 z.2.2) :: l_) (fun z => (Good z.2.1) ∧ (z.1 ≤ 2000)) (fun z => 2000 - z.1) (0, s, vs11) (hS) (hL_.keepE hF (t := 9) rfl rfl) ?_ ?_
 · exact ⟨hg, by dsimp only; omega⟩
 clear hF hS hL_ a
 rintro ⟨k, x, vs⟩ a w6 ⟨hgx, hk⟩ hS hF; try dsimp only at hF; try dsimp only at hS; try dsimp only at hgx; try dsimp only at hk
 refine wp_seq_k fun K5 hK5 => ?_
 refine ws fun K6 hK6 => ?_
 refine ra 4 hF tk rfl fun a hF => ?_
 apply wl_and (A := [_, _, _]) (pk := 18) hF hS (tc := 15) rfl
 ·
  intro hg15 a hF; try simp only [zb] at hg15
  refine ra 3 hF tk rfl fun a hF => ?_
  exact wl_nil ⟨rfl, (Fr.pre (A := [_, _, _]) hF rfl).keep hF (t := 18) rfl, hS⟩
 ·
  intro hg15 a hF; try simp only [zb] at hg15
  refine ra 3 hF tk rfl fun a hF => ?_
  exact wl_nil ⟨rfl, (Fr.pre (A := [_, _, _]) hF rfl).keep hF (t := 18) rfl, hS⟩
 clear hF a hS; intro a w7 hF hS
 refine ra 1 hF tk rfl fun a hF => ?_
 apply wl_and (A := [_, _, _, _]) (pk := 23) hF hS (tc := 19) rfl
 ·
  intro hg19 a hF; try simp only [zb] at hg19
  refine rb 2 0 hF tk hS rfl rfl rfl fun a hF => ?_
  refine wl_take hF rfl rfl rfl rfl ?_
  refine wl_call hF rfl rfl rfl (r_call2 en48 (hF.ev rfl) (hF.ev rfl)) (specIsRunning_c (hS.part_k (i := 1) rfl) hgx.wf (by have := hgx.sz; omega) hp0) ?_; clear hF a; rintro v w8 a ⟨rfl, hB_⟩ hF; have hS := hS.ext hB_
  refine ra 1 hF tk rfl fun a hF => ?_
  exact wl_nil ⟨rfl, (Fr.pre (A := [_, _, _, _]) hF rfl).keep hF (t := 23) rfl, hS⟩
 ·
  intro hg19 a hF; try simp only [zb] at hg19
  refine ra 4 hF tk rfl fun a hF => ?_
  exact wl_nil ⟨rfl, (Fr.pre (A := [_, _, _, _]) hF rfl).keep hF (t := 23) rfl, hS⟩
 clear hF a hS; intro a w9 hF hS
 refine wl_nil (hK6 _ _ ?_)
 refine wc_fx (t := 23) hF rfl ?_ ?_ <;> clear hF <;> intro c23 hF <;> try simp only [zb] at c23
 ·
  obtain ⟨hso, hp1⟩ := running_of c23.2
  obtain ⟨p, rfl⟩ : ∃ k_ : Nat, p = (k_ : Int) := ⟨p.toNat, by omega⟩
  have hp : p < (x).threads.length := by omega
  have hxt := at0_nat hp
  replace hS := hS.pull (p := 1) rfl; dsimp only [List.eraseIdx] at hS
  replace hS : Sep W (Own intEK (sv (vs.getD 0 (none, 0, 0))) (x).cells :: Own intEK (sv (vs.getD 1 (none, 0, 0))) (x).generations :: Own threadEK (sv (vs.getD 2 (none, 0, 0))) (x).threads :: _) _ := hS.part_open
  dsimp only [stateEK] at hS
  generalize vs.getD 0 (none, 0, 0) = z0 at hS
  generalize vs.getD 1 (none, 0, 0) = z1 at hS
  generalize vs.getD 2 (none, 0, 0) = z2 at hS
  obtain ⟨gt, ot, mt, ct, rfl⟩ := hS.elt_form (q := 2) rfl hxt
  have hmt : mt = (x).threads.length := hS.own_len (q := 2) (s := (some ⟨gt, ot, none⟩, mt, ct)) rfl
  replace hS := hS.set_form (q := 2) rfl hxt; dsimp only [List.set] at hS
  refine wp_skip ?_
  refine hK5 _ _ ?_
  refine wp_block ?_
  refine ws fun K7 hK7 => ?_
  refine ra 1 hF tk rfl fun a hF => ?_
  replace hS := Sep.headp (A := [_, _, _, _, _, _]) (B := [_, _, _, _, _, _]) hS [3, 0, 1, 2, 4, 5] (by decide) rfl rfl
  refine wl_call hF rfl rfl rfl (r_call2 en62 (hF.ev rfl) (hF.ev rfl)) (l17Step_c (s := x) hp (Fit.of hso hgx.wf hp) hS) ?_; clear hF a; rintro v w10 a ⟨rfl, hS⟩ hF
  refine wl_nil (hK7 _ _ ?_)
  refine wp_region_lit ?_
  refine ra 3 hF tk rfl fun a hF => ?_
  refine wl_nil ?_
  try simp only [Exit.then, Exit.inBlock, ↓reduceIte]
  try dsimp only [List.append] at hS
  replace hS := hS.pull (p := 3) rfl; dsimp only [List.eraseIdx] at hS
  replace hS := hS.pull (p := 3) rfl; dsimp only [List.eraseIdx] at hS
  replace hS := hS.pull (p := 3) rfl; dsimp only [List.eraseIdx] at hS
  replace hS := Sep.part_mk (ek := stateEK) (x := stepBy stepS (stepped x) p) (vs := [z0, z1, (some ⟨gt, ot, none⟩, mt, ct)]) hS rfl
  refine ⟨(k + 1, stepBy stepS (stepped x) p, [z0, z1, (some ⟨gt, ot, none⟩, mt, ct)]), ⟨good_step hgx c23.2, by dsimp only; omega⟩, (hS.pick [1, 0, 2, 3] (by decide) rfl), ((((((hF.nil.keep hF (t := 8) rfl).keep hF (t := 7) rfl).keep hF (t := 6) rfl).keep hF (t := 2) rfl).keep hF (t := 1) rfl).keepE hF (t := 9) rfl (wk (by omega))), by dsimp only; omega⟩
 refine wp_exit ?_
 simp only [Exit.then, Exit.inBlock, ↓reduceIte]
 refine hK4 _ _ ?_
 refine ws fun K8 hK8 => ?_
 refine rb 2 0 hF tk hS rfl rfl rfl fun a hF => ?_
 refine wl_storew hF hS (i := 2) rfl (hF.ev rfl) (hF.ev rfl) sz29 rfl rfl fun w11 hS => ?_; dsimp only [List.set, Nat.reduceAdd] at hS
 refine ra 1 hF tk rfl fun a hF => ?_
 refine wl_nil (hK8 _ _ ?_)
 refine wp_ret ?_
 try simp only [Exit.then, Exit.inBlock, ↓reduceIte]
 exact ret2c rfl ag29 hF hS (i := 2) rfl sz29 rfl rfl ⟨⟨(x, vs, _), hgx⟩, rfl, hS.pick [1] (by decide) rfl⟩
end Go.Proofs.YtgofolgogfmhgaaGreat.Wk
namespace Go.Proofs.YtgofolgogfmhgaaGreat.Wk
open Go Go.RowKit Sl
set_option linter.unusedVariables false
set_option linter.unusedSimpArgs false
set_option maxRecDepth 20000
set_option maxHeartbeats 4000000 in
set_option maxRecDepth 20000 in
theorem l1Byte_h {W : World} {g : Nat} {vb : Value} {bs : List Int} (hbs : byteEK.Rd W vb bs) {l : List Res} {w : World} (hS : Sep W (Cur g vb bs.length :: l) w) : Calls Tryz.prog 145 #[.pointer (some ⟨g, 0, none⟩)] w (Ret fun v w' => (∃ x : Int, v = vi x ∧ 0 ≤ x ∧ x ≤ 255) ∧ Sep W (Cur g vb bs.length :: l) w') := by
 refine calls_fr Tryz.func145 rfl Tryz.ntmps145 rfl ?_
 intro a hF
 obtain ⟨i, k, hi, hS⟩ := hS.cur_open
 obtain ⟨A_b, q_b, rfl, hq_b, hn_b⟩ := hbs.sl; unfold maxLen at hn_b
 refine ws fun K1 hK1 => ?_
 refine ra 1 hF tk rfl fun a hF => ?_
 refine wl_nil (hK1 _ _ ?_)
 refine ws fun K2 hK2 => ?_
 refine rb 9 0 hF tk hS rfl rfl rfl fun a hF => ?_
 refine wl_store hF hS (i := 0) rfl sz3 (hF.ev rfl) (hF.ev rfl) rfl rfl fun w1 hS => ?_; dsimp only [List.set, Nat.reduceAdd] at hS
 refine wl_nil (hK2 _ _ ?_)
 refine wp_seq_k fun K3 hK3 => ?_
 refine wp_region_calm (by kernel_rfl) (by kernel_rfl) ?_
 refine qb 4 0 hF tk hS rfl rfl rfl fun a hF => ?_
 refine wq hF rfl rfl rfl (fun w_ hB_ => r_shr (by decide) (hF.ev rfl) ec) fun a hF => ?_
 refine qb 4 0 hF tk hS rfl rfl rfl fun a hF => ?_
 refine wq hF rfl rfl rfl (fun w_ hB_ => r_shr (by decide) (hF.ev rfl) ec) fun a hF => ?_
 refine wq hF rfl rfl rfl (fun w_ hB_ => r_xor (hF.ev rfl) (hF.ev rfl)) fun a hF => ?_
 refine wq hF rfl rfl rfl (fun w_ hB_ => r_and (hF.ev rfl) ec) fun a hF => ?_
 refine qa 1 hF tk rfl fun a hF => ?_
 refine wpQuiet_nil ?_; intro w2 hB_; have hS := hS.ext hB_
 refine hK3 _ _ ?_
 refine wp_seq_k fun K4 hK4 => ?_
 refine wp_seq_k fun K5 hK5 => ?_
 refine wp_region_calm (by kernel_rfl) (by kernel_rfl) ?_
 refine qb 10 0 hF tk hS rfl rfl rfl fun a hF => ?_
 refine wpQuiet_nil ?_; intro w3 hB_; have hS := hS.ext hB_
 refine hK5 _ _ ?_
 refine wc_fx (t := 34) hF rfl ?_ ?_ <;> clear hF <;> intro c34 hF <;> try simp only [zb] at c34
 ·
  refine wp_seq_k fun K6 hK6 => ?_
  refine wp_region_calm (by kernel_rfl) (by kernel_rfl) ?_
  refine qb 9 0 hF tk hS rfl rfl rfl fun a hF => ?_
  obtain ⟨g44, o44, m44, q44, hv44, hm44, hl44, hc44⟩ := Rd.atF (hbs) (a := a) (X := .tmp 43) (hF.ev rfl) (by omega) (by omega)
  refine wq hF rfl rfl rfl (fun w_ hB_ => r_index sl22 ((hF.ev rfl).trans hv44) (hF.ev rfl) (by omega) (by first | omega | (simp at hm44; omega))) fun a hF => ?_
  refine wq hF rfl rfl rfl (fun w_ hB_ => r_load1 sc5 (hF.ev rfl) (cellB (hS.ext hB_).old (hc44 0 _ rfl))) fun a hF => ?_
  refine wq hF rfl rfl rfl (fun w_ hB_ => r_convw iu5 iu3 (hF.ev rfl)) fun a hF => ?_
  refine qa 1 hF tk rfl fun a hF => ?_
  refine wq hF rfl rfl rfl (fun w_ hB_ => r_and (hF.ev rfl) ec) fun a hF => ?_
  refine qa 1 hF tk rfl fun a hF => ?_
  refine wpQuiet_nil ?_; intro w4 hB_; have hS := hS.ext hB_
  refine hK6 _ _ ?_
  refine wp_region_lit ?_
  refine rb 8 0 hF tk hS rfl rfl rfl fun a hF => ?_
  refine wl_store hF hS (i := 0) rfl sz3 (hF.ev rfl) (hF.ev rfl) rfl rfl fun w5 hS => ?_; dsimp only [List.set, Nat.reduceAdd] at hS
  refine wl_nil (hK4 _ _ ?_)
  refine ws fun K7 hK7 => ?_
  refine ra 2 hF tk rfl fun a hF => ?_
  refine wl_nil (hK7 _ _ ?_)
  refine wp_ret ?_
  try simp only [Exit.then, Exit.inBlock, ↓reduceIte]
  refine ret1 rfl hF rfl ⟨⟨_, rfl, (and_low (n := 255) (by decide)).1, (and_low (n := 255) (by decide)).2⟩, ?_⟩
  exact hS.cur_close (by first | omega | (rw [w64_id (by omega) (by omega)]; omega))
 refine wp_skip ?_
 refine hK4 _ _ ?_
 refine ws fun K8 hK8 => ?_
 refine ra 2 hF tk rfl fun a hF => ?_
 refine wl_nil (hK8 _ _ ?_)
 refine wp_ret ?_
 try simp only [Exit.then, Exit.inBlock, ↓reduceIte]
 refine ret1 rfl hF rfl ⟨⟨_, rfl, (and_low (n := 255) (by decide)).1, (and_low (n := 255) (by decide)).2⟩, ?_⟩
 exact hS.cur_close (by first | omega | (rw [w64_id (by omega) (by omega)]; omega))
theorem l1Byte_c {W : World} {g : Nat} {vb : Value} {bs : List Int} (hbs : byteEK.Rd W vb bs) {l : List Res} {w : World} {q : Nat} (hS : Sep W l w) (hq : l[q]? = some (Cur g vb bs.length)) : Calls Tryz.prog 145 #[.pointer (some ⟨g, 0, none⟩)] w (Ret fun v w' => (∃ x : Int, v = vi x ∧ 0 ≤ x ∧ x ≤ 255) ∧ Sep W l w') :=
  draw_at (R := fun v => ∃ x : Int, v = vi x ∧ 0 ≤ x ∧ x ≤ 255) (fun _ _ h => l1Byte_h hbs h ) hS hq
set_option maxHeartbeats 4000000 in
set_option maxRecDepth 20000 in
theorem l1Below_h {W : World} {g : Nat} {vb : Value} {bs : List Int} (hbs : byteEK.Rd W vb bs) {l : List Res} {w : World} (hS : Sep W (Cur g vb bs.length :: l) w) (n : Int) : Calls Tryz.prog 83 #[.pointer (some ⟨g, 0, none⟩), vi n] w (Ret fun v w' => (∃ x : Int, v = vi x ∧ 0 ≤ x ∧ (x < n ∨ (n ≤ 0 ∧ x = 0))) ∧ Sep W (Cur g vb bs.length :: l) w') := by
 refine calls_fr Tryz.func83 rfl Tryz.ntmps83 rfl ?_
 intro a hF
 refine ws fun K1 hK1 => ?_
 refine ra 1 hF tk rfl fun a hF => ?_
 refine wl_nil (hK1 _ _ ?_)
 refine wp_seq_k fun K2 hK2 => ?_
 refine ws fun K3 hK3 => ?_
 refine ra 2 hF tk rfl fun a hF => ?_
 refine wl_nil (hK3 _ _ ?_)
 refine wc_fx (t := 10) hF rfl ?_ ?_ <;> clear hF <;> intro c10 hF <;> try simp only [zb] at c10
 ·
  refine ws fun K4 hK4 => ?_
  refine ra 1 hF tk rfl fun a hF => ?_
  refine wl_nil (hK4 _ _ ?_)
  refine wp_ret ?_
  try simp only [Exit.then, Exit.inBlock, ↓reduceIte]
  first
    | exact ret1 rfl hF rfl ⟨⟨0, rfl, by omega, by omega⟩, hS⟩
    | exact ret1 rfl hF rfl ⟨⟨_, rfl, Int.tmod_nonneg _ (by omega), .inl (Int.tmod_lt_of_pos _ (by omega))⟩, hS⟩
    | exact ret1 rfl hF rfl ⟨⟨_, rfl, Int.tmod_nonneg _ (four_bytes h18 h20 h22 h24), .inl (Int.tmod_lt_of_pos _ (by omega))⟩, hS⟩
 refine wp_skip ?_
 refine hK2 _ _ ?_
 refine wp_seq_k fun K5 hK5 => ?_
 refine ws fun K6 hK6 => ?_
 refine ra 2 hF tk rfl fun a hF => ?_
 refine wl_nil (hK6 _ _ ?_)
 refine wc_fx (t := 12) hF rfl ?_ ?_ <;> clear hF <;> intro c12 hF <;> try simp only [zb] at c12
 ·
  refine ws fun K7 hK7 => ?_
  refine ra 1 hF tk rfl fun a hF => ?_
  refine wl_call hF rfl rfl rfl (r_call1 en145 (hF.ev rfl)) (l1Byte_c hbs (q := 0) hS rfl) ?_; clear hF a; rintro v w1 a ⟨⟨x14, rfl, h14⟩, hS⟩ hF
  refine ra 1 hF tk rfl fun a hF => ?_
  refine wl hF rfl rfl rfl (r_rem (by first | decide | omega) (hF.ev rfl) (hF.ev rfl)) fun a hF => ?_
  refine ra 1 hF tk rfl fun a hF => ?_
  refine wl_nil (hK7 _ _ ?_)
  refine wp_ret ?_
  try simp only [Exit.then, Exit.inBlock, ↓reduceIte]
  first
    | exact ret1 rfl hF rfl ⟨⟨0, rfl, by omega, by omega⟩, hS⟩
    | exact ret1 rfl hF rfl ⟨⟨_, rfl, Int.tmod_nonneg _ (by omega), .inl (Int.tmod_lt_of_pos _ (by omega))⟩, hS⟩
    | exact ret1 rfl hF rfl ⟨⟨_, rfl, Int.tmod_nonneg _ (four_bytes h18 h20 h22 h24), .inl (Int.tmod_lt_of_pos _ (by omega))⟩, hS⟩
 refine wp_skip ?_
 refine hK5 _ _ ?_
 refine ws fun K8 hK8 => ?_
 refine ra 1 hF tk rfl fun a hF => ?_
 refine wl_call hF rfl rfl rfl (r_call1 en145 (hF.ev rfl)) (l1Byte_c hbs (q := 0) hS rfl) ?_; clear hF a; rintro v w2 a ⟨⟨x18, rfl, h18⟩, hS⟩ hF
 refine ra 1 hF tk rfl fun a hF => ?_
 refine wl_nil (hK8 _ _ ?_)
 refine ws fun K9 hK9 => ?_
 refine ra 1 hF tk rfl fun a hF => ?_
 refine wl_call hF rfl rfl rfl (r_call1 en145 (hF.ev rfl)) (l1Byte_c hbs (q := 0) hS rfl) ?_; clear hF a; rintro v w3 a ⟨⟨x20, rfl, h20⟩, hS⟩ hF
 refine ra 1 hF tk rfl fun a hF => ?_
 refine wl_nil (hK9 _ _ ?_)
 refine ws fun K10 hK10 => ?_
 refine ra 1 hF tk rfl fun a hF => ?_
 refine wl_call hF rfl rfl rfl (r_call1 en145 (hF.ev rfl)) (l1Byte_c hbs (q := 0) hS rfl) ?_; clear hF a; rintro v w4 a ⟨⟨x22, rfl, h22⟩, hS⟩ hF
 refine ra 1 hF tk rfl fun a hF => ?_
 refine wl_nil (hK10 _ _ ?_)
 refine ws fun K11 hK11 => ?_
 refine ra 1 hF tk rfl fun a hF => ?_
 refine wl_call hF rfl rfl rfl (r_call1 en145 (hF.ev rfl)) (l1Byte_c hbs (q := 0) hS rfl) ?_; clear hF a; rintro v w5 a ⟨⟨x24, rfl, h24⟩, hS⟩ hF
 refine ra 1 hF tk rfl fun a hF => ?_
 refine wl_nil (hK11 _ _ ?_)
 refine ws fun K12 hK12 => ?_
 refine ra 11 hF tk rfl fun a hF => ?_
 refine wl hF rfl rfl rfl (r_rem (by first | decide | omega) (hF.ev rfl) (hF.ev rfl)) fun a hF => ?_
 refine ra 1 hF tk rfl fun a hF => ?_
 refine wl_nil (hK12 _ _ ?_)
 refine wp_ret ?_
 try simp only [Exit.then, Exit.inBlock, ↓reduceIte]
 first
   | exact ret1 rfl hF rfl ⟨⟨0, rfl, by omega, by omega⟩, hS⟩
   | exact ret1 rfl hF rfl ⟨⟨_, rfl, Int.tmod_nonneg _ (by omega), .inl (Int.tmod_lt_of_pos _ (by omega))⟩, hS⟩
   | exact ret1 rfl hF rfl ⟨⟨_, rfl, Int.tmod_nonneg _ (four_bytes h18 h20 h22 h24), .inl (Int.tmod_lt_of_pos _ (by omega))⟩, hS⟩
theorem l1Below_c {W : World} {g : Nat} {vb : Value} {bs : List Int} (hbs : byteEK.Rd W vb bs) {l : List Res} {w : World} {q : Nat} (n : Int) (hS : Sep W l w) (hq : l[q]? = some (Cur g vb bs.length)) : Calls Tryz.prog 83 #[.pointer (some ⟨g, 0, none⟩), vi n] w (Ret fun v w' => (∃ x : Int, v = vi x ∧ 0 ≤ x ∧ (x < n ∨ (n ≤ 0 ∧ x = 0))) ∧ Sep W l w') :=
  draw_at (R := fun v => ∃ x : Int, v = vi x ∧ 0 ≤ x ∧ (x < n ∨ (n ≤ 0 ∧ x = 0))) (fun _ _ h => l1Below_h hbs h n) hS hq
set_option maxHeartbeats 4000000 in
set_option maxRecDepth 20000 in
theorem l1Once_h {W : World} {g : Nat} {vb : Value} {bs : List Int} (hbs : byteEK.Rd W vb bs) {l : List Res} {w : World} (hS : Sep W (Cur g vb bs.length :: l) w) (n : Int) : Calls Tryz.prog 101 #[.pointer (some ⟨g, 0, none⟩), vi n] w (Ret fun v w' => (∃ b : Bool, v = .bool b) ∧ Sep W (Cur g vb bs.length :: l) w') := by
 refine calls_fr Tryz.func101 rfl Tryz.ntmps101 rfl ?_
 intro a hF
 refine ws fun K1 hK1 => ?_
 refine ra 1 hF tk rfl fun a hF => ?_
 refine wl_nil (hK1 _ _ ?_)
 refine ws fun K2 hK2 => ?_
 refine ra 2 hF tk rfl fun a hF => ?_
 refine wl_call hF rfl rfl rfl (r_call2 en83 (hF.ev rfl) (hF.ev rfl)) (l1Below_c hbs (q := 0) _ hS rfl) ?_; clear hF a; rintro v w1 a ⟨⟨x7, rfl, h7⟩, hS⟩ hF
 refine ra 2 hF tk rfl fun a hF => ?_
 refine wl_nil (hK2 _ _ ?_)
 refine wp_ret ?_
 try simp only [Exit.then, Exit.inBlock, ↓reduceIte]
 exact ret1 rfl hF rfl ⟨⟨_, rfl⟩, hS⟩
theorem l1Once_c {W : World} {g : Nat} {vb : Value} {bs : List Int} (hbs : byteEK.Rd W vb bs) {l : List Res} {w : World} {q : Nat} (n : Int) (hS : Sep W l w) (hq : l[q]? = some (Cur g vb bs.length)) : Calls Tryz.prog 101 #[.pointer (some ⟨g, 0, none⟩), vi n] w (Ret fun v w' => (∃ b : Bool, v = .bool b) ∧ Sep W l w') :=
  draw_at (R := fun v => ∃ b : Bool, v = .bool b) (fun _ _ h => l1Once_h hbs h n) hS hq
set_option maxHeartbeats 4000000 in
set_option maxRecDepth 20000 in
theorem l1PickInt_h {W : World} {g : Nat} {vb : Value} {bs : List Int} (hbs : byteEK.Rd W vb bs) {l : List Res} {w : World} {vx : Value} {xs : List Int} (hx : ∀ w, Sep W (Cur g vb bs.length :: l) w → intEK.Rd w vx xs) (h0 : 0 < xs.length) (hS : Sep W (Cur g vb bs.length :: l) w) : Calls Tryz.prog 85 #[.pointer (some ⟨g, 0, none⟩), vx] w (Ret fun v w' => (∃ x : Int, v = vi x ∧ x ∈ xs) ∧ Sep W (Cur g vb bs.length :: l) w') := by
 refine calls_fr Tryz.func85 rfl Tryz.ntmps85 rfl ?_
 intro a hF
 obtain ⟨A_x, q_x, rfl, hq_x, hn_x⟩ := (hx _ hS).sl; unfold maxLen at hn_x
 refine ws fun K1 hK1 => ?_
 refine ra 1 hF tk rfl fun a hF => ?_
 refine wl_nil (hK1 _ _ ?_)
 refine ws fun K2 hK2 => ?_
 refine ra 4 hF tk rfl fun a hF => ?_
 refine wl_call hF rfl rfl rfl (r_call2 en83 (hF.ev rfl) (hF.ev rfl)) (l1Below_c hbs (q := 0) _ hS rfl) ?_; clear hF a; rintro v w1 a ⟨⟨x9, rfl, h9⟩, hS⟩ hF
 obtain ⟨g10, o10, m10, q10, hv10, hm10, hl10, hc10⟩ := Rd.atF ((hx _ hS)) (a := a) (X := .tmp 9) (hF.ev rfl) (by omega) (by omega)
 refine wl hF rfl rfl rfl (r_index sl26 ((hF.ev rfl).trans hv10) (hF.ev rfl) (by omega) (by first | omega | (simp at hm10; omega))) fun a hF => ?_
 refine wl hF rfl rfl rfl (r_load1 sc3 (hF.ev rfl) (hc10 0 _ rfl)) fun a hF => ?_
 refine ra 1 hF tk rfl fun a hF => ?_
 refine wl_nil (hK2 _ _ ?_)
 refine wp_ret ?_
 try simp only [Exit.then, Exit.inBlock, ↓reduceIte]
 exact ret1 rfl hF rfl ⟨⟨_, rfl, at0_mem (by omega) (by omega)⟩, hS⟩
theorem l1PickInt_c {W : World} {g : Nat} {vb : Value} {bs : List Int} (hbs : byteEK.Rd W vb bs) {l : List Res} {w : World} {q : Nat} {vx : Value} {xs : List Int} (hx : ∀ w, Sep W l w → intEK.Rd w vx xs) (h0 : 0 < xs.length) (hS : Sep W l w) (hq : l[q]? = some (Cur g vb bs.length)) : Calls Tryz.prog 85 #[.pointer (some ⟨g, 0, none⟩), vx] w (Ret fun v w' => (∃ x : Int, v = vi x ∧ x ∈ xs) ∧ Sep W l w') := by
 refine (l1PickInt_h hbs (fun w_ h_ => hx w_ (h_.unpull hq)) h0 (hS.pull hq)).mono ?_
 rintro e w' ⟨v, rfl, hr, h⟩
 exact ⟨v, rfl, hr, h.unpull hq⟩
set_option maxHeartbeats 4000000 in
set_option maxRecDepth 20000 in
theorem l3Config_h {W : World} {g : Nat} {vb : Value} {bs : List Int} (hbs : byteEK.Rd W vb bs) {l : List Res} {w : World} (hS : Sep W (Cur g vb bs.length :: l) w) : Calls Tryz.prog 159 #[.pointer (some ⟨g, 0, none⟩)] w (Ret fun v w' => (∃ c : Config, v = .agg c.enc.toArray ∧ c.ok) ∧ Sep W (Cur g vb bs.length :: l) w') := by
 refine calls_fr Tryz.func159 rfl Tryz.ntmps159 rfl ?_
 intro a hF
 refine ws fun K1 hK1 => ?_
 refine wl_alloc hF hS rfl zr25 ?_; clear hF a; intro g1 w1 a hS_ hB_ hF; replace hS := hS_; clear hS_ hB_
 refine wl_nil (hK1 _ _ ?_)
 refine ws fun K2 hK2 => ?_
 refine ra 1 hF tk rfl fun a hF => ?_
 refine wl_call hF rfl rfl rfl (r_call2 en83 (hF.ev rfl) ec) (l1Below_c hbs (q := 1) _ hS rfl) ?_; clear hF a; rintro v w2 a ⟨⟨x5, rfl, h5⟩, hS⟩ hF
 refine ra 2 hF tk rfl fun a hF => ?_
 refine wl_call hF rfl rfl rfl (r_call2 en83 (hF.ev rfl) ec) (l1Below_c hbs (q := 1) _ hS rfl) ?_; clear hF a; rintro v w3 a ⟨⟨x8, rfl, h8⟩, hS⟩ hF
 refine ra 2 hF tk rfl fun a hF => ?_
 refine wl_bslice intEK [vi 3, vi 6, vi 8, vi 12] [3, 6, 8, 12] rfl hF hS rfl mk26 rfl ⟨rfl, ec, rfl, ec, rfl, ec, rfl, ec, trivial⟩ rfl rfl rfl rfl ?_; clear hF a; intro gl_11 w4 a hS_ hF; replace hS := hS_; clear hS_
 refine wl_call hF rfl rfl rfl (r_call2 en85 (hF.ev rfl) (hF.ev rfl)) (l1PickInt_c hbs (q := 2) (fun w_ hS => (hS.own_rd (i := 0) rfl)) (by decide) hS rfl) ?_; clear hF a; rintro v w5 a ⟨⟨x12, rfl, h12⟩, hS⟩ hF
 refine ra 1 hF tk rfl fun a hF => ?_
 refine wl_call hF rfl rfl rfl (r_call2 en83 (hF.ev rfl) ec) (l1Below_c hbs (q := 2) _ hS rfl) ?_; clear hF a; rintro v w6 a ⟨⟨x14, rfl, h14⟩, hS⟩ hF
 refine ra 2 hF tk rfl fun a hF => ?_
 refine wl_call hF rfl rfl rfl (r_call2 en83 (hF.ev rfl) ec) (l1Below_c hbs (q := 2) _ hS rfl) ?_; clear hF a; rintro v w7 a ⟨⟨x17, rfl, h17⟩, hS⟩ hF
 refine ra 1 hF tk rfl fun a hF => ?_
 refine wl_bslice intEK [vi 99, vi 99, vi 99, vi 4] [99, 99, 99, 4] rfl hF hS rfl mk26 rfl ⟨rfl, ec, rfl, ec, rfl, ec, rfl, ec, trivial⟩ rfl rfl rfl rfl ?_; clear hF a; intro gl_19 w8 a hS_ hF; replace hS := hS_; clear hS_
 refine wl_call hF rfl rfl rfl (r_call2 en85 (hF.ev rfl) (hF.ev rfl)) (l1PickInt_c hbs (q := 3) (fun w_ hS => (hS.own_rd (i := 0) rfl)) (by decide) hS rfl) ?_; clear hF a; rintro v w9 a ⟨⟨x20, rfl, h20⟩, hS⟩ hF
 refine wl hF rfl rfl rfl (r_build (bd25_0_1_2_3_4_5 _ _ _ _ _ _) ⟨rfl, (hF.ev rfl), rfl, (hF.ev rfl), rfl, (hF.ev rfl), rfl, (hF.ev rfl), rfl, (hF.ev rfl), rfl, (hF.ev rfl), trivial⟩) fun a hF => ?_
 refine wl_alloc hF hS rfl zr25 ?_; clear hF a; intro g2 w10 a hS_ hB_ hF; replace hS := hS_; clear hS_ hB_
 refine wl_storew hF hS (i := 0) rfl (hF.ev rfl) (hF.ev rfl) sz25 rfl rfl fun w11 hS => ?_; dsimp only [List.set, Nat.reduceAdd] at hS
 refine wl_nil (hK2 _ _ ?_)
 refine ws fun K3 hK3 => ?_
 refine rb 1 0 hF tk hS rfl rfl rfl fun a hF => ?_
 refine wl_storew hF hS (i := 3) rfl (hF.ev rfl) (hF.ev rfl) sz25 rfl rfl fun w12 hS => ?_; dsimp only [List.set, Nat.reduceAdd] at hS
 refine wl_nil (hK3 _ _ ?_)
 refine wp_ret ?_
 try simp only [Exit.then, Exit.inBlock, ↓reduceIte]
 simp only [List.mem_cons, List.not_mem_nil, or_false] at h12 h20
 refine ret1c rfl ag25 hF hS (i := 3) rfl sz25 rfl ⟨⟨⟨IntKind.i64.wrap (1 + x5), IntKind.i64.wrap (1 + x8), x12, IntKind.i64.wrap (1 + x14), x17, x20⟩, rfl, ?_⟩, (Sep.headp (A := [_, _, _, _, _]) (B := [_]) hS [4] (by decide) rfl rfl)⟩
 rw [w64_id (q := 1 + x5) (by omega) (by omega), w64_id (q := 1 + x8) (by omega) (by omega), w64_id (q := 1 + x14) (by omega) (by omega)]
 unfold Config.ok; dsimp only; omega
theorem l3Config_c {W : World} {g : Nat} {vb : Value} {bs : List Int} (hbs : byteEK.Rd W vb bs) {l : List Res} {w : World} {q : Nat} (hS : Sep W l w) (hq : l[q]? = some (Cur g vb bs.length)) : Calls Tryz.prog 159 #[.pointer (some ⟨g, 0, none⟩)] w (Ret fun v w' => (∃ c : Config, v = .agg c.enc.toArray ∧ c.ok) ∧ Sep W l w') :=
  draw_at (R := fun v => ∃ c : Config, v = .agg c.enc.toArray ∧ c.ok) (fun _ _ h => l3Config_h hbs h ) hS hq
set_option maxHeartbeats 4000000 in
set_option maxRecDepth 20000 in
theorem l5Op_h {W : World} {g : Nat} {vb : Value} {bs : List Int} (hbs : byteEK.Rd W vb bs) {l : List Res} {w : World} (hS : Sep W (Cur g vb bs.length :: l) w) {n : Int} (hn : n ≤ 10) : Calls Tryz.prog 84 #[.pointer (some ⟨g, 0, none⟩), vi n] w (Ret fun v w' => (∃ o : Sl.Op, v = .agg o.enc.toArray ∧ o.ok) ∧ Sep W (Cur g vb bs.length :: l) w') := by
 refine calls_fr Tryz.func84 rfl Tryz.ntmps84 rfl ?_
 intro a hF
 refine ws fun K1 hK1 => ?_
 refine wl_alloc hF hS rfl zr31 ?_; clear hF a; intro g1 w1 a hS_ hB_ hF; replace hS := hS_; clear hS_ hB_
 refine wl_nil (hK1 _ _ ?_)
 refine wp_seq_k fun K2 hK2 => ?_
 refine ws fun K3 hK3 => ?_
 refine ra 1 hF tk rfl fun a hF => ?_
 refine wl_call hF rfl rfl rfl (r_call2 en83 (hF.ev rfl) ec) (l1Below_c hbs (q := 1) _ hS rfl) ?_; clear hF a; rintro v w2 a ⟨⟨x6, rfl, h6⟩, hS⟩ hF
 refine wl_nil (hK3 _ _ ?_)
 refine wp_block ?_
 refine wp_seq_k fun K4 hK4 => ?_
 refine ws fun K5 hK5 => ?_
 refine ra 2 hF tk rfl fun a hF => ?_
 refine wl_nil (hK5 _ _ ?_)
 refine wc_fx (t := 7) hF rfl ?_ ?_ <;> clear hF <;> intro c7 hF <;> try simp only [zb] at c7
 ·
  refine wp_skip ?_
  refine hK4 _ _ ?_
  refine wc_true (hF.ev rfl) ?_
  refine ws fun K6 hK6 => ?_
  refine wl hF rfl rfl rfl (r_build (bd31_0 _) ⟨rfl, ec, trivial⟩) fun a hF => ?_
  refine wl_storew hF hS (i := 0) rfl (hF.ev rfl) (hF.ev rfl) sz31 rfl rfl fun w3 hS => ?_; dsimp only [List.set, Nat.reduceAdd] at hS
  refine wl_nil (hK6 _ _ ?_)
  refine wp_ret ?_
  try simp only [Exit.then, Exit.inBlock, ↓reduceIte]
  refine ret1c rfl ag31 hF hS (i := 0) rfl sz31 rfl ⟨⟨⟨_, _, _⟩, rfl, ?_⟩, (Sep.headp (A := [_, _]) (B := [_]) hS [1] (by decide) rfl rfl)⟩
  unfold Sl.Op.ok; dsimp only; omega
 refine wp_region_lit ?_
 refine ra 2 hF tk rfl fun a hF => ?_
 refine wl_nil (hK4 _ _ ?_)
 refine wc_fx (t := 7) hF rfl ?_ ?_ <;> clear hF <;> intro c7 hF <;> try simp only [zb] at c7
 ·
  refine ws fun K7 hK7 => ?_
  refine wl hF rfl rfl rfl (r_build (bd31_0 _) ⟨rfl, ec, trivial⟩) fun a hF => ?_
  refine wl_storew hF hS (i := 0) rfl (hF.ev rfl) (hF.ev rfl) sz31 rfl rfl fun w4 hS => ?_; dsimp only [List.set, Nat.reduceAdd] at hS
  refine wl_nil (hK7 _ _ ?_)
  refine wp_ret ?_
  try simp only [Exit.then, Exit.inBlock, ↓reduceIte]
  refine ret1c rfl ag31 hF hS (i := 0) rfl sz31 rfl ⟨⟨⟨_, _, _⟩, rfl, ?_⟩, (Sep.headp (A := [_, _]) (B := [_]) hS [1] (by decide) rfl rfl)⟩
  unfold Sl.Op.ok; dsimp only; omega
 refine wp_seq_k fun K8 hK8 => ?_
 refine ws fun K9 hK9 => ?_
 refine ra 2 hF tk rfl fun a hF => ?_
 refine wl_nil (hK9 _ _ ?_)
 refine wc_fx (t := 11) hF rfl ?_ ?_ <;> clear hF <;> intro c11 hF <;> try simp only [zb] at c11
 ·
  refine wp_skip ?_
  refine hK8 _ _ ?_
  refine wc_true (hF.ev rfl) ?_
  refine ws fun K10 hK10 => ?_
  refine ra 2 hF tk rfl fun a hF => ?_
  refine wl_call hF rfl rfl rfl (r_call2 en83 (hF.ev rfl) (hF.ev rfl)) (l1Below_c hbs (q := 1) _ hS rfl) ?_; clear hF a; rintro v w5 a ⟨⟨x17, rfl, h17⟩, hS⟩ hF
  refine wl hF rfl rfl rfl (r_build (bd31_0_1 _ _) ⟨rfl, ec, rfl, (hF.ev rfl), trivial⟩) fun a hF => ?_
  refine wl_storew hF hS (i := 0) rfl (hF.ev rfl) (hF.ev rfl) sz31 rfl rfl fun w6 hS => ?_; dsimp only [List.set, Nat.reduceAdd] at hS
  refine wl_nil (hK10 _ _ ?_)
  refine wp_ret ?_
  try simp only [Exit.then, Exit.inBlock, ↓reduceIte]
  refine ret1c rfl ag31 hF hS (i := 0) rfl sz31 rfl ⟨⟨⟨_, _, _⟩, rfl, ?_⟩, (Sep.headp (A := [_, _]) (B := [_]) hS [1] (by decide) rfl rfl)⟩
  unfold Sl.Op.ok; dsimp only; omega
 refine ws fun K11 hK11 => ?_
 refine ra 2 hF tk rfl fun a hF => ?_
 refine wl_nil (hK11 _ _ ?_)
 refine wc_fx (t := 11) hF rfl ?_ ?_ <;> clear hF <;> intro c11 hF <;> try simp only [zb] at c11
 ·
  refine wp_skip ?_
  refine hK8 _ _ ?_
  refine wc_true (hF.ev rfl) ?_
  refine ws fun K12 hK12 => ?_
  refine ra 2 hF tk rfl fun a hF => ?_
  refine wl_call hF rfl rfl rfl (r_call2 en83 (hF.ev rfl) (hF.ev rfl)) (l1Below_c hbs (q := 1) _ hS rfl) ?_; clear hF a; rintro v w7 a ⟨⟨x17, rfl, h17⟩, hS⟩ hF
  refine wl hF rfl rfl rfl (r_build (bd31_0_1 _ _) ⟨rfl, ec, rfl, (hF.ev rfl), trivial⟩) fun a hF => ?_
  refine wl_storew hF hS (i := 0) rfl (hF.ev rfl) (hF.ev rfl) sz31 rfl rfl fun w8 hS => ?_; dsimp only [List.set, Nat.reduceAdd] at hS
  refine wl_nil (hK12 _ _ ?_)
  refine wp_ret ?_
  try simp only [Exit.then, Exit.inBlock, ↓reduceIte]
  refine ret1c rfl ag31 hF hS (i := 0) rfl sz31 rfl ⟨⟨⟨_, _, _⟩, rfl, ?_⟩, (Sep.headp (A := [_, _]) (B := [_]) hS [1] (by decide) rfl rfl)⟩
  unfold Sl.Op.ok; dsimp only; omega
 refine wp_region_lit ?_
 refine ra 2 hF tk rfl fun a hF => ?_
 refine wl_nil (hK8 _ _ ?_)
 refine wc_fx (t := 11) hF rfl ?_ ?_ <;> clear hF <;> intro c11 hF <;> try simp only [zb] at c11
 ·
  refine ws fun K13 hK13 => ?_
  refine ra 2 hF tk rfl fun a hF => ?_
  refine wl_call hF rfl rfl rfl (r_call2 en83 (hF.ev rfl) (hF.ev rfl)) (l1Below_c hbs (q := 1) _ hS rfl) ?_; clear hF a; rintro v w9 a ⟨⟨x17, rfl, h17⟩, hS⟩ hF
  refine wl hF rfl rfl rfl (r_build (bd31_0_1 _ _) ⟨rfl, ec, rfl, (hF.ev rfl), trivial⟩) fun a hF => ?_
  refine wl_storew hF hS (i := 0) rfl (hF.ev rfl) (hF.ev rfl) sz31 rfl rfl fun w10 hS => ?_; dsimp only [List.set, Nat.reduceAdd] at hS
  refine wl_nil (hK13 _ _ ?_)
  refine wp_ret ?_
  try simp only [Exit.then, Exit.inBlock, ↓reduceIte]
  refine ret1c rfl ag31 hF hS (i := 0) rfl sz31 rfl ⟨⟨⟨_, _, _⟩, rfl, ?_⟩, (Sep.headp (A := [_, _]) (B := [_]) hS [1] (by decide) rfl rfl)⟩
  unfold Sl.Op.ok; dsimp only; omega
 refine ws fun K14 hK14 => ?_
 refine ra 2 hF tk rfl fun a hF => ?_
 refine wl_nil (hK14 _ _ ?_)
 refine wc_fx (t := 19) hF rfl ?_ ?_ <;> clear hF <;> intro c19 hF <;> try simp only [zb] at c19
 ·
  refine ws fun K15 hK15 => ?_
  refine wl hF rfl rfl rfl (r_build (bd31_0 _) ⟨rfl, ec, trivial⟩) fun a hF => ?_
  refine wl_storew hF hS (i := 0) rfl (hF.ev rfl) (hF.ev rfl) sz31 rfl rfl fun w11 hS => ?_; dsimp only [List.set, Nat.reduceAdd] at hS
  refine wl_nil (hK15 _ _ ?_)
  refine wp_ret ?_
  try simp only [Exit.then, Exit.inBlock, ↓reduceIte]
  refine ret1c rfl ag31 hF hS (i := 0) rfl sz31 rfl ⟨⟨⟨_, _, _⟩, rfl, ?_⟩, (Sep.headp (A := [_, _]) (B := [_]) hS [1] (by decide) rfl rfl)⟩
  unfold Sl.Op.ok; dsimp only; omega
 refine ws fun K16 hK16 => ?_
 refine ra 2 hF tk rfl fun a hF => ?_
 refine wl_nil (hK16 _ _ ?_)
 refine wc_fx (t := 22) hF rfl ?_ ?_ <;> clear hF <;> intro c22 hF <;> try simp only [zb] at c22
 ·
  refine ws fun K17 hK17 => ?_
  refine wl hF rfl rfl rfl (r_build (bd31_0 _) ⟨rfl, ec, trivial⟩) fun a hF => ?_
  refine wl_storew hF hS (i := 0) rfl (hF.ev rfl) (hF.ev rfl) sz31 rfl rfl fun w12 hS => ?_; dsimp only [List.set, Nat.reduceAdd] at hS
  refine wl_nil (hK17 _ _ ?_)
  refine wp_ret ?_
  try simp only [Exit.then, Exit.inBlock, ↓reduceIte]
  refine ret1c rfl ag31 hF hS (i := 0) rfl sz31 rfl ⟨⟨⟨_, _, _⟩, rfl, ?_⟩, (Sep.headp (A := [_, _]) (B := [_]) hS [1] (by decide) rfl rfl)⟩
  unfold Sl.Op.ok; dsimp only; omega
 refine wp_skip ?_
 simp only [Exit.then, Exit.inBlock, ↓reduceIte]
 refine hK2 _ _ ?_
 refine ws fun K18 hK18 => ?_
 refine ra 2 hF tk rfl fun a hF => ?_
 refine wl_call hF rfl rfl rfl (r_call2 en83 (hF.ev rfl) (hF.ev rfl)) (l1Below_c hbs (q := 1) _ hS rfl) ?_; clear hF a; rintro v w13 a ⟨⟨x27, rfl, h27⟩, hS⟩ hF
 refine ra 1 hF tk rfl fun a hF => ?_
 refine wl_call hF rfl rfl rfl (r_call2 en83 (hF.ev rfl) ec) (l1Below_c hbs (q := 1) _ hS rfl) ?_; clear hF a; rintro v w14 a ⟨⟨x29, rfl, h29⟩, hS⟩ hF
 refine wl hF rfl rfl rfl (r_build (bd31_0_1_2 _ _ _) ⟨rfl, ec, rfl, (hF.ev rfl), rfl, (hF.ev rfl), trivial⟩) fun a hF => ?_
 refine wl_storew hF hS (i := 0) rfl (hF.ev rfl) (hF.ev rfl) sz31 rfl rfl fun w15 hS => ?_; dsimp only [List.set, Nat.reduceAdd] at hS
 refine wl_nil (hK18 _ _ ?_)
 refine wp_ret ?_
 try simp only [Exit.then, Exit.inBlock, ↓reduceIte]
 refine ret1c rfl ag31 hF hS (i := 0) rfl sz31 rfl ⟨⟨⟨_, _, _⟩, rfl, ?_⟩, (Sep.headp (A := [_, _]) (B := [_]) hS [1] (by decide) rfl rfl)⟩
 unfold Sl.Op.ok; dsimp only; omega
theorem l5Op_c {W : World} {g : Nat} {vb : Value} {bs : List Int} (hbs : byteEK.Rd W vb bs) {l : List Res} {w : World} {q : Nat} {n : Int} (hn : n ≤ 10) (hS : Sep W l w) (hq : l[q]? = some (Cur g vb bs.length)) : Calls Tryz.prog 84 #[.pointer (some ⟨g, 0, none⟩), vi n] w (Ret fun v w' => (∃ o : Sl.Op, v = .agg o.enc.toArray ∧ o.ok) ∧ Sep W l w') :=
  draw_at (R := fun v => ∃ o : Sl.Op, v = .agg o.enc.toArray ∧ o.ok) (fun _ _ h => l5Op_h hbs h hn) hS hq
set_option maxHeartbeats 4000000 in
set_option maxRecDepth 20000 in
theorem l5Any_h {W : World} {g : Nat} {vb : Value} {bs : List Int} (hbs : byteEK.Rd W vb bs) {l : List Res} {w : World} (hS : Sep W (Cur g vb bs.length :: l) w) : Calls Tryz.prog 38 #[.pointer (some ⟨g, 0, none⟩)] w (Ret fun v w' => (∃ o : Sl.Op, v = .agg o.enc.toArray ∧ o.wf) ∧ Sep W (Cur g vb bs.length :: l) w') := by
 refine calls_fr Tryz.func38 rfl Tryz.ntmps38 rfl ?_
 intro a hF
 refine ws fun K1 hK1 => ?_
 refine wl_alloc hF hS rfl zr31 ?_; clear hF a; intro g1 w1 a hS_ hB_ hF; replace hS := hS_; clear hS_ hB_
 refine wl_nil (hK1 _ _ ?_)
 refine ws fun K2 hK2 => ?_
 refine ra 1 hF tk rfl fun a hF => ?_
 refine wl_call hF rfl rfl rfl (r_call2 en84 (hF.ev rfl) ec) (l5Op_c hbs (q := 1) (by omega) hS rfl) ?_; clear hF a; rintro v w2 a ⟨⟨o5, rfl, h5⟩, hS⟩ hF
 refine wl_alloc hF hS rfl zr31 ?_; clear hF a; intro g2 w3 a hS_ hB_ hF; replace hS := hS_; clear hS_ hB_
 refine wl_storen (cs' := [_, _, _]) hF hS (i := 0) rfl (hF.ev rfl) (hF.ev rfl) sz31 ⟨rfl, rfl⟩ rfl rfl fun w4 hS => ?_; dsimp only [List.set] at hS
 refine wl_nil (hK2 _ _ ?_)
 refine wp_seq_k fun K3 hK3 => ?_
 refine ws fun K4 hK4 => ?_
 refine ra 1 hF tk rfl fun a hF => ?_
 refine wl_call hF rfl rfl rfl (r_call2 en83 (hF.ev rfl) ec) (l1Below_c hbs (q := 2) _ hS rfl) ?_; clear hF a; rintro v w5 a ⟨⟨x7, rfl, h7⟩, hS⟩ hF
 refine wl_nil (hK4 _ _ ?_)
 refine wp_block ?_
 refine ws fun K5 hK5 => ?_
 refine ra 2 hF tk rfl fun a hF => ?_
 refine wl_nil (hK5 _ _ ?_)
 refine wc_fx (t := 8) hF rfl ?_ ?_ <;> clear hF <;> intro c8 hF <;> try simp only [zb] at c8
 ·
  refine wp_region_lit ?_
  refine ra 1 hF tk rfl fun a hF => ?_
  refine wl_bslice intEK [vi 0, vi 5, vi 6] [0, 5, 6] rfl hF hS rfl mk26 rfl ⟨rfl, ec, rfl, ec, rfl, ec, trivial⟩ rfl rfl rfl rfl ?_; clear hF a; intro gl_11 w6 a hS_ hF; replace hS := hS_; clear hS_
  refine wl_call hF rfl rfl rfl (r_call2 en85 (hF.ev rfl) (hF.ev rfl)) (l1PickInt_c hbs (q := 3) (fun w_ hS => (hS.own_rd (i := 0) rfl)) (by decide) hS rfl) ?_; clear hF a; rintro v w7 a ⟨⟨x12, rfl, h12⟩, hS⟩ hF
  refine ra 1 hF tk rfl fun a hF => ?_
  refine wl_store hF hS (i := 1) rfl sz3 (hF.ev rfl) (hF.ev rfl) rfl rfl fun w8 hS => ?_; dsimp only [List.set, Nat.reduceAdd] at hS
  refine wl_nil ?_
  simp only [Exit.then, Exit.inBlock, ↓reduceIte]
  refine hK3 _ _ ?_
  refine ws fun K6 hK6 => ?_
  refine rb 1 1 hF tk hS rfl rfl rfl fun a hF => ?_
  refine wl_storew hF hS (i := 2) rfl (hF.ev rfl) (hF.ev rfl) sz31 rfl rfl fun w9 hS => ?_; dsimp only [List.set, Nat.reduceAdd] at hS
  refine wl_nil (hK6 _ _ ?_)
  refine wp_ret ?_
  try simp only [Exit.then, Exit.inBlock, ↓reduceIte]
  unfold Sl.Op.ok at h5
  refine ret1c rfl ag31 hF hS (i := 2) rfl sz31 rfl ⟨⟨⟨x12, o5.key, o5.value⟩, rfl, ?_⟩, (Sep.headp (A := [_, _, _, _]) (B := [_]) hS [3] (by decide) rfl rfl)⟩
  unfold Sl.Op.wf int64; dsimp only
  simp only [List.mem_cons, List.not_mem_nil, or_false] at h12
  omega
 refine ws fun K7 hK7 => ?_
 refine ra 2 hF tk rfl fun a hF => ?_
 refine wl_nil (hK7 _ _ ?_)
 refine wc_fx (t := 14) hF rfl ?_ ?_ <;> clear hF <;> intro c14 hF <;> try simp only [zb] at c14
 ·
  refine wp_region_lit ?_
  refine ra 1 hF tk rfl fun a hF => ?_
  refine wl_bslice intEK [vi (-1), vi 0, vi 9, vi 10] [-1, 0, 9, 10] rfl hF hS rfl mk26 rfl ⟨rfl, ec, rfl, ec, rfl, ec, rfl, ec, trivial⟩ rfl rfl rfl rfl ?_; clear hF a; intro gl_17 w10 a hS_ hF; replace hS := hS_; clear hS_
  refine wl_call hF rfl rfl rfl (r_call2 en85 (hF.ev rfl) (hF.ev rfl)) (l1PickInt_c hbs (q := 3) (fun w_ hS => (hS.own_rd (i := 0) rfl)) (by decide) hS rfl) ?_; clear hF a; rintro v w11 a ⟨⟨x18, rfl, h18⟩, hS⟩ hF
  refine ra 1 hF tk rfl fun a hF => ?_
  refine wl_store hF hS (i := 1) rfl sz3 (hF.ev rfl) (hF.ev rfl) rfl rfl fun w12 hS => ?_; dsimp only [List.set, Nat.reduceAdd] at hS
  refine wl_nil ?_
  simp only [Exit.then, Exit.inBlock, ↓reduceIte]
  refine hK3 _ _ ?_
  refine ws fun K8 hK8 => ?_
  refine rb 1 1 hF tk hS rfl rfl rfl fun a hF => ?_
  refine wl_storew hF hS (i := 2) rfl (hF.ev rfl) (hF.ev rfl) sz31 rfl rfl fun w13 hS => ?_; dsimp only [List.set, Nat.reduceAdd] at hS
  refine wl_nil (hK8 _ _ ?_)
  refine wp_ret ?_
  try simp only [Exit.then, Exit.inBlock, ↓reduceIte]
  unfold Sl.Op.ok at h5
  refine ret1c rfl ag31 hF hS (i := 2) rfl sz31 rfl ⟨⟨⟨o5.kind, x18, o5.value⟩, rfl, ?_⟩, (Sep.headp (A := [_, _, _, _]) (B := [_]) hS [3] (by decide) rfl rfl)⟩
  unfold Sl.Op.wf int64; dsimp only
  simp only [List.mem_cons, List.not_mem_nil, or_false] at h18
  omega
 refine ws fun K9 hK9 => ?_
 refine ra 2 hF tk rfl fun a hF => ?_
 refine wl_nil (hK9 _ _ ?_)
 refine wc_fx (t := 20) hF rfl ?_ ?_ <;> clear hF <;> intro c20 hF <;> try simp only [zb] at c20
 ·
  refine wp_region_lit ?_
  refine ra 1 hF tk rfl fun a hF => ?_
  refine wl_bslice intEK [vi (-1), vi 0, vi 99, vi 100] [-1, 0, 99, 100] rfl hF hS rfl mk26 rfl ⟨rfl, ec, rfl, ec, rfl, ec, rfl, ec, trivial⟩ rfl rfl rfl rfl ?_; clear hF a; intro gl_23 w14 a hS_ hF; replace hS := hS_; clear hS_
  refine wl_call hF rfl rfl rfl (r_call2 en85 (hF.ev rfl) (hF.ev rfl)) (l1PickInt_c hbs (q := 3) (fun w_ hS => (hS.own_rd (i := 0) rfl)) (by decide) hS rfl) ?_; clear hF a; rintro v w15 a ⟨⟨x24, rfl, h24⟩, hS⟩ hF
  refine ra 1 hF tk rfl fun a hF => ?_
  refine wl_store hF hS (i := 1) rfl sz3 (hF.ev rfl) (hF.ev rfl) rfl rfl fun w16 hS => ?_; dsimp only [List.set, Nat.reduceAdd] at hS
  refine wl_nil ?_
  simp only [Exit.then, Exit.inBlock, ↓reduceIte]
  refine hK3 _ _ ?_
  refine ws fun K10 hK10 => ?_
  refine rb 1 1 hF tk hS rfl rfl rfl fun a hF => ?_
  refine wl_storew hF hS (i := 2) rfl (hF.ev rfl) (hF.ev rfl) sz31 rfl rfl fun w17 hS => ?_; dsimp only [List.set, Nat.reduceAdd] at hS
  refine wl_nil (hK10 _ _ ?_)
  refine wp_ret ?_
  try simp only [Exit.then, Exit.inBlock, ↓reduceIte]
  unfold Sl.Op.ok at h5
  refine ret1c rfl ag31 hF hS (i := 2) rfl sz31 rfl ⟨⟨⟨o5.kind, o5.key, x24⟩, rfl, ?_⟩, (Sep.headp (A := [_, _, _, _]) (B := [_]) hS [3] (by decide) rfl rfl)⟩
  unfold Sl.Op.wf int64; dsimp only
  simp only [List.mem_cons, List.not_mem_nil, or_false] at h24
  omega
 refine wp_skip ?_
 simp only [Exit.then, Exit.inBlock, ↓reduceIte]
 refine hK3 _ _ ?_
 refine ws fun K11 hK11 => ?_
 refine rb 1 0 hF tk hS rfl rfl rfl fun a hF => ?_
 refine wl_storew hF hS (i := 1) rfl (hF.ev rfl) (hF.ev rfl) sz31 rfl rfl fun w18 hS => ?_; dsimp only [List.set, Nat.reduceAdd] at hS
 refine wl_nil (hK11 _ _ ?_)
 refine wp_ret ?_
 try simp only [Exit.then, Exit.inBlock, ↓reduceIte]
 unfold Sl.Op.ok at h5
 refine ret1c rfl ag31 hF hS (i := 1) rfl sz31 rfl ⟨⟨⟨o5.kind, o5.key, o5.value⟩, rfl, ?_⟩, (Sep.headp (A := [_, _, _]) (B := [_]) hS [2] (by decide) rfl rfl)⟩
 unfold Sl.Op.wf int64; dsimp only
 omega
theorem l5Any_c {W : World} {g : Nat} {vb : Value} {bs : List Int} (hbs : byteEK.Rd W vb bs) {l : List Res} {w : World} {q : Nat} (hS : Sep W l w) (hq : l[q]? = some (Cur g vb bs.length)) : Calls Tryz.prog 38 #[.pointer (some ⟨g, 0, none⟩)] w (Ret fun v w' => (∃ o : Sl.Op, v = .agg o.enc.toArray ∧ o.wf) ∧ Sep W l w') :=
  draw_at (R := fun v => ∃ o : Sl.Op, v = .agg o.enc.toArray ∧ o.wf) (fun _ _ h => l5Any_h hbs h ) hS hq
set_option maxHeartbeats 4000000 in
set_option maxRecDepth 20000 in
theorem l1New_c {W : World} {vb : Value} {bs : List Int} (hb : byteEK.Rd W vb bs) (hz : bs.length ≤ 1048576) : Calls Tryz.prog 53 #[vb] W (Ret (Mk W (fun g : Nat => .pointer (some ⟨g, 0, none⟩)) (fun g => [Cur g vb bs.length]))) := by
 refine calls_fr Tryz.func53 rfl Tryz.ntmps53 rfl ?_
 intro a hF
 have hS := Sep.refl W
 obtain ⟨A_b, q_b, rfl, hq_b, hn_b⟩ := hb.sl; unfold maxLen at hn_b
 refine ws fun K1 hK1 => ?_
 refine ra 1 hF tk rfl fun a hF => ?_
 refine wl_nil (hK1 _ _ ?_)
 refine ws fun K2 hK2 => ?_
 refine ra 4 hF tk rfl fun a hF => ?_
 refine wl_nil (hK2 _ _ ?_)
 refine wp_seq_k fun K3 hK3 => ?_
 refine ws fun K4 hK4 => ?_
 refine ra 1 hF tk rfl fun a hF => ?_
 refine wl_nil (hK4 _ _ ?_)
 refine wp_block ?_
 have hL_ := ((hF.nil.keep hF (t := 2) rfl).keep hF (t := 0) rfl)
 refine wp_loop_r (σ := Nat × Int) (fun z L_ => (4, vi z.1) :: (3, vi z.2) :: L_) (fun z => (z.1 ≤ bs.length)) (fun z => bs.length - z.1) (0, _) hS ((hL_.keepE hF (t := 3) rfl rfl).keepE hF (t := 4) rfl rfl) ?_ ?_
 · exact Nat.zero_le _
 clear hF hS hL_ a
 rintro ⟨k, h⟩ a w1 hk hS hF; try dsimp only at hF; try dsimp only at hS; try dsimp only at hk
 refine wp_seq_k fun K5 hK5 => ?_
 refine ws fun K6 hK6 => ?_
 refine ra 5 hF tk rfl fun a hF => ?_
 apply wl_and (A := [_, _, _]) (pk := 15) hF hS (tc := 12) rfl
 ·
  intro hg12 a hF; try simp only [zb] at hg12
  refine ra 3 hF tk rfl fun a hF => ?_
  exact wl_nil ⟨rfl, (Fr.pre (A := [_, _, _]) hF rfl).keep hF (t := 15) rfl, hS⟩
 ·
  intro hg12 a hF; try simp only [zb] at hg12
  refine ra 3 hF tk rfl fun a hF => ?_
  exact wl_nil ⟨rfl, (Fr.pre (A := [_, _, _]) hF rfl).keep hF (t := 15) rfl, hS⟩
 clear hF a hS; intro a w2 hF hS
 refine wl_nil (hK6 _ _ ?_)
 refine wc_fx (t := 15) hF rfl ?_ ?_ <;> clear hF <;> intro c15 hF <;> try simp only [zb] at c15
 ·
  refine wp_skip ?_
  refine hK5 _ _ ?_
  refine wp_seq_k fun K7 hK7 => ?_
  refine wp_block ?_
  refine wp_region_lit ?_
  refine ra 4 hF tk rfl fun a hF => ?_
  obtain ⟨g22, o22, m22, q22, hv22, hm22, hl22, hc22⟩ := Rd.atF (hb) (a := a) (X := .tmp 21) (hF.ev rfl) (by omega) (by omega)
  refine wl hF rfl rfl rfl (r_index sl22 ((hF.ev rfl).trans hv22) (hF.ev rfl) (by omega) (by first | omega | (simp at hm22; omega))) fun a hF => ?_
  refine wl hF rfl rfl rfl (r_load1 sc5 (hF.ev rfl) (cellB hS.old (hc22 0 _ rfl))) fun a hF => ?_
  refine wl hF rfl rfl rfl (r_convw iu5 iu3 (hF.ev rfl)) fun a hF => ?_
  refine ra 2 hF tk rfl fun a hF => ?_
  refine wl hF rfl rfl rfl (r_and (hF.ev rfl) ec) fun a hF => ?_
  refine ra 1 hF tk rfl fun a hF => ?_
  refine wl_nil ?_
  simp only [Exit.then, Exit.inBlock, ↓reduceIte]
  refine hK7 _ _ ?_
  refine wp_region_lit ?_
  refine ra 3 hF tk rfl fun a hF => ?_
  refine wl_nil ?_
  try simp only [Exit.then, Exit.inBlock, ↓reduceIte]
  refine ⟨(k + 1, _), (by dsimp only; omega), hS, ((((hF.nil.keep hF (t := 2) rfl).keep hF (t := 0) rfl).keepE hF (t := 3) rfl rfl).keepE hF (t := 4) rfl (wk (by omega))), by dsimp only; omega⟩
 refine wp_exit ?_
 simp only [Exit.then, Exit.inBlock, ↓reduceIte]
 refine hK3 _ _ ?_
 refine ws fun K8 hK8 => ?_
 refine ra 2 hF tk rfl fun a hF => ?_
 refine wl hF rfl rfl rfl (r_build (bd97_0_2 _ _ _ _) ⟨rfl, (hF.ev rfl), rfl, (hF.ev rfl), trivial⟩) fun a hF => ?_
 refine wl_box (cs := [_, _, _]) hF hS rfl (hF.ev rfl) rfl ?_; clear hF a; intro g1 w3 a hS_ hB_ hF; replace hS := hS_; clear hS_ hB_
 refine ra 1 hF tk rfl fun a hF => ?_
 refine wl_nil (hK8 _ _ ?_)
 refine wp_ret ?_
 try simp only [Exit.then, Exit.inBlock, ↓reduceIte]
 exact ret1 rfl hF rfl ⟨g1, rfl, (hS.pick [0] (by decide) rfl).cur_close ⟨by omega, by omega⟩⟩
end Go.Proofs.YtgofolgogfmhgaaGreat.Wk
namespace Go.Proofs.YtgofolgogfmhgaaGreat.Wk
open Go Go.RowKit Sl
theorem en197 : enterB Tryz.prog 197 = true := by kernel_rfl
theorem en206 : enterB Tryz.prog 206 = true := by kernel_rfl
theorem en207 : enterB Tryz.prog 207 = true := by kernel_rfl
end Go.Proofs.YtgofolgogfmhgaaGreat.Wk
namespace Go.Proofs.YtgofolgogfmhgaaGreat.Wk
open Go Go.RowKit Sl
set_option linter.unusedVariables false
set_option linter.unusedSimpArgs false
set_option maxRecDepth 20000
set_option maxHeartbeats 4000000 in
set_option maxRecDepth 20000 in
theorem l2Handle_h {W : World} {g : Nat} {vb : Value} {bs : List Int} (hbs : byteEK.Rd W vb bs) {l : List Res} {w : World} (hS : Sep W (Cur g vb bs.length :: l) w) : Calls Tryz.prog 197 #[.pointer (some ⟨g, 0, none⟩)] w (Ret fun v w' => (∃ x : Int, v = vi x ∧ int64 x) ∧ Sep W (Cur g vb bs.length :: l) w') := by
 refine calls_fr Tryz.func197 rfl Tryz.ntmps197 rfl ?_
 intro a hF
 refine ws fun K1 hK1 => ?_
 refine ra 1 hF tk rfl fun a hF => ?_
 refine wl_nil (hK1 _ _ ?_)
 refine wp_seq_k fun K2 hK2 => ?_
 refine ws fun K3 hK3 => ?_
 refine ra 1 hF tk rfl fun a hF => ?_
 refine wl_call hF rfl rfl rfl (r_call2 en83 (hF.ev rfl) ec) (l1Below_c hbs (q := 0) _ hS rfl) ?_; clear hF a; rintro v w1 a ⟨⟨x4, rfl, h4⟩, hS⟩ hF
 refine wl_nil (hK3 _ _ ?_)
 refine wp_block ?_
 refine ws fun K4 hK4 => ?_
 refine ra 2 hF tk rfl fun a hF => ?_
 refine wl_nil (hK4 _ _ ?_)
 refine wc_fx (t := 5) hF rfl ?_ ?_ <;> clear hF <;> intro c5 hF <;> try simp only [zb] at c5
 ·
  refine ws fun K5 hK5 => ?_
  refine ra 1 hF tk rfl fun a hF => ?_
  refine wl_nil (hK5 _ _ ?_)
  refine wp_ret ?_
  try simp only [Exit.then, Exit.inBlock, ↓reduceIte]
  exact ret1 rfl hF rfl ⟨⟨0, rfl, int64_zero⟩, hS⟩
 refine ws fun K6 hK6 => ?_
 refine ra 2 hF tk rfl fun a hF => ?_
 refine wl_nil (hK6 _ _ ?_)
 refine wc_fx (t := 7) hF rfl ?_ ?_ <;> clear hF <;> intro c7 hF <;> try simp only [zb] at c7
 ·
  refine ws fun K7 hK7 => ?_
  refine ra 1 hF tk rfl fun a hF => ?_
  refine wl_bslice intEK [vi (-2), vi (-1), vi 1, vi 128, vi 129, vi 1280000, vi 1280126, vi 1280127, vi 9223372036854775807] [-2, -1, 1, 128, 129, 1280000, 1280126, 1280127, 9223372036854775807] rfl hF hS rfl mk26 rfl ⟨rfl, ec, rfl, ec, rfl, ec, rfl, ec, rfl, ec, rfl, ec, rfl, ec, rfl, ec, rfl, ec, trivial⟩ rfl rfl rfl rfl ?_; clear hF a; intro gl_10 w2 a hS_ hF; replace hS := hS_; clear hS_
  refine wl_call hF rfl rfl rfl (r_call2 en85 (hF.ev rfl) (hF.ev rfl)) (l1PickInt_c hbs (q := 1) (fun w_ hS => (hS.own_rd (i := 0) rfl)) (by decide) hS rfl) ?_; clear hF a; rintro v w3 a ⟨⟨x11, rfl, h11⟩, hS⟩ hF
  refine ra 1 hF tk rfl fun a hF => ?_
  refine wl_nil (hK7 _ _ ?_)
  refine wp_ret ?_
  try simp only [Exit.then, Exit.inBlock, ↓reduceIte]
  simp only [List.mem_cons, List.not_mem_nil, or_false] at h11
  exact ret1 rfl hF rfl ⟨⟨x11, rfl, by unfold int64; omega⟩, (Sep.headp (A := [_, _]) (B := [_]) hS [1] (by decide) rfl rfl)⟩
 refine wp_skip ?_
 simp only [Exit.then, Exit.inBlock, ↓reduceIte]
 refine hK2 _ _ ?_
 refine ws fun K8 hK8 => ?_
 refine ra 1 hF tk rfl fun a hF => ?_
 refine wl_call hF rfl rfl rfl (r_call2 en83 (hF.ev rfl) ec) (l1Below_c hbs (q := 0) _ hS rfl) ?_; clear hF a; rintro v w4 a ⟨⟨x13, rfl, h13⟩, hS⟩ hF
 refine ra 1 hF tk rfl fun a hF => ?_
 refine wl_call hF rfl rfl rfl (r_call2 en83 (hF.ev rfl) ec) (l1Below_c hbs (q := 0) _ hS rfl) ?_; clear hF a; rintro v w5 a ⟨⟨x15, rfl, h15⟩, hS⟩ hF
 refine wl_call hF rfl rfl rfl (r_call2 en50 (hF.ev rfl) (hF.ev rfl)) (specMakeHandle_c) ?_; clear hF a; rintro v w6 a ⟨rfl, hB_⟩ hF; have hS := hS.ext hB_
 refine ra 1 hF tk rfl fun a hF => ?_
 refine wl_call hF rfl rfl rfl (r_call2 en83 (hF.ev rfl) ec) (l1Below_c hbs (q := 0) _ hS rfl) ?_; clear hF a; rintro v w7 a ⟨⟨x18, rfl, h18⟩, hS⟩ hF
 refine ra 2 hF tk rfl fun a hF => ?_
 refine wl_nil (hK8 _ _ ?_)
 refine wp_ret ?_
 try simp only [Exit.then, Exit.inBlock, ↓reduceIte]
 exact ret1 rfl hF rfl ⟨⟨_, rfl, int64_wrap _⟩, hS⟩
theorem l2Handle_c {W : World} {g : Nat} {vb : Value} {bs : List Int} (hbs : byteEK.Rd W vb bs) {l : List Res} {w : World} {q : Nat} (hS : Sep W l w) (hq : l[q]? = some (Cur g vb bs.length)) : Calls Tryz.prog 197 #[.pointer (some ⟨g, 0, none⟩)] w (Ret fun v w' => (∃ x : Int, v = vi x ∧ int64 x) ∧ Sep W l w') :=
  draw_at (R := fun v => ∃ x : Int, v = vi x ∧ int64 x) (fun _ _ h => l2Handle_h hbs h ) hS hq
set_option maxHeartbeats 4000000 in
set_option maxRecDepth 20000 in
theorem l6Entry_h {W : World} {g : Nat} {vb : Value} {bs : List Int} (hbs : byteEK.Rd W vb bs) {l : List Res} {w : World} (hS : Sep W (Cur g vb bs.length :: l) w) : Calls Tryz.prog 207 #[.pointer (some ⟨g, 0, none⟩)] w (Ret fun v w' => (∃ e : Entry, v = .agg e.enc.toArray ∧ e.wf) ∧ Sep W (Cur g vb bs.length :: l) w') := by
 refine calls_fr Tryz.func207 rfl Tryz.ntmps207 rfl ?_
 intro a hF
 refine ws fun K1 hK1 => ?_
 refine wl_alloc hF hS rfl zr83 ?_; clear hF a; intro g1 w1 a hS_ hB_ hF; replace hS := hS_; clear hS_ hB_
 refine wl_nil (hK1 _ _ ?_)
 refine ws fun K2 hK2 => ?_
 refine ra 1 hF tk rfl fun a hF => ?_
 refine wl_call hF rfl rfl rfl (r_call2 en83 (hF.ev rfl) ec) (l1Below_c hbs (q := 1) _ hS rfl) ?_; clear hF a; rintro v w2 a ⟨⟨x5, rfl, h5⟩, hS⟩ hF
 refine ra 2 hF tk rfl fun a hF => ?_
 refine wl_nil (hK2 _ _ ?_)
 refine ws fun K3 hK3 => ?_
 refine ra 1 hF tk rfl fun a hF => ?_
 refine wl_call hF rfl rfl rfl (r_call2 en83 (hF.ev rfl) ec) (l1Below_c hbs (q := 1) _ hS rfl) ?_; clear hF a; rintro v w3 a ⟨⟨x8, rfl, h8⟩, hS⟩ hF
 refine ra 1 hF tk rfl fun a hF => ?_
 refine wl_call hF rfl rfl rfl (r_call2 en83 (hF.ev rfl) ec) (l1Below_c hbs (q := 1) _ hS rfl) ?_; clear hF a; rintro v w4 a ⟨⟨x10, rfl, h10⟩, hS⟩ hF
 refine wl_call hF rfl rfl rfl (r_call2 en50 (hF.ev rfl) (hF.ev rfl)) (specMakeHandle_c) ?_; clear hF a; rintro v w5 a ⟨rfl, hB_⟩ hF; have hS := hS.ext hB_
 refine ra 1 hF tk rfl fun a hF => ?_
 refine wl_call hF rfl rfl rfl (r_call2 en83 (hF.ev rfl) ec) (l1Below_c hbs (q := 1) _ hS rfl) ?_; clear hF a; rintro v w6 a ⟨⟨x13, rfl, h13⟩, hS⟩ hF
 refine ra 3 hF tk rfl fun a hF => ?_
 refine wl_call hF rfl rfl rfl (r_call2 en83 (hF.ev rfl) ec) (l1Below_c hbs (q := 1) _ hS rfl) ?_; clear hF a; rintro v w7 a ⟨⟨x17, rfl, h17⟩, hS⟩ hF
 refine ra 1 hF tk rfl fun a hF => ?_
 refine wl hF rfl rfl rfl (r_build (bd83_0_1_2_3 _ _ _ _) ⟨rfl, (hF.ev rfl), rfl, (hF.ev rfl), rfl, (hF.ev rfl), rfl, (hF.ev rfl), trivial⟩) fun a hF => ?_
 refine wl_storew hF hS (i := 0) rfl (hF.ev rfl) (hF.ev rfl) sz83 rfl rfl fun w8 hS => ?_; dsimp only [List.set, Nat.reduceAdd] at hS
 refine wl_nil (hK3 _ _ ?_)
 refine wp_ret ?_
 try simp only [Exit.then, Exit.inBlock, ↓reduceIte]
 exact ret1c rfl ag83 hF hS (i := 0) rfl sz83 rfl ⟨⟨⟨_, _, _, _⟩, rfl, int64_makeHandle, by unfold int64; dsimp only; omega, int64_wrap _, int64_wrap _⟩, (Sep.headp (A := [_, _]) (B := [_]) hS [1] (by decide) rfl rfl)⟩
theorem l6Entry_c {W : World} {g : Nat} {vb : Value} {bs : List Int} (hbs : byteEK.Rd W vb bs) {l : List Res} {w : World} {q : Nat} (hS : Sep W l w) (hq : l[q]? = some (Cur g vb bs.length)) : Calls Tryz.prog 207 #[.pointer (some ⟨g, 0, none⟩)] w (Ret fun v w' => (∃ e : Entry, v = .agg e.enc.toArray ∧ e.wf) ∧ Sep W l w') :=
  draw_at (R := fun v => ∃ e : Entry, v = .agg e.enc.toArray ∧ e.wf) (fun _ _ h => l6Entry_h hbs h ) hS hq
set_option maxHeartbeats 4000000 in
set_option maxRecDepth 20000 in
theorem l6Any_h {W : World} {g : Nat} {vb : Value} {bs : List Int} (hbs : byteEK.Rd W vb bs) {l : List Res} {w : World} (hS : Sep W (Cur g vb bs.length :: l) w) : Calls Tryz.prog 206 #[.pointer (some ⟨g, 0, none⟩)] w (Ret fun v w' => (∃ e : Entry, v = .agg e.enc.toArray ∧ e.wf) ∧ Sep W (Cur g vb bs.length :: l) w') := by
 refine calls_fr Tryz.func206 rfl Tryz.ntmps206 rfl ?_
 intro a hF
 refine ws fun K1 hK1 => ?_
 refine wl_alloc hF hS rfl zr83 ?_; clear hF a; intro g1 w1 a hS_ hB_ hF; replace hS := hS_; clear hS_ hB_
 refine wl_nil (hK1 _ _ ?_)
 refine ws fun K2 hK2 => ?_
 refine ra 1 hF tk rfl fun a hF => ?_
 refine wl_call hF rfl rfl rfl (r_call1 en207 (hF.ev rfl)) (l6Entry_c hbs (q := 1) hS rfl) ?_; clear hF a; rintro v w2 a ⟨⟨e5, rfl, h5⟩, hS⟩ hF
 refine wl_alloc hF hS rfl zr83 ?_; clear hF a; intro g2 w3 a hS_ hB_ hF; replace hS := hS_; clear hS_ hB_
 refine wl_storen (cs' := [_, _, _, _]) hF hS (i := 0) rfl (hF.ev rfl) (hF.ev rfl) sz83 ⟨rfl, rfl⟩ rfl rfl fun w4 hS => ?_; dsimp only [List.set] at hS
 refine wl_nil (hK2 _ _ ?_)
 refine wp_seq_k fun K3 hK3 => ?_
 refine ws fun K4 hK4 => ?_
 refine ra 1 hF tk rfl fun a hF => ?_
 refine wl_call hF rfl rfl rfl (r_call2 en83 (hF.ev rfl) ec) (l1Below_c hbs (q := 2) _ hS rfl) ?_; clear hF a; rintro v w5 a ⟨⟨x7, rfl, h7⟩, hS⟩ hF
 refine wl_nil (hK4 _ _ ?_)
 refine wp_block ?_
 refine ws fun K5 hK5 => ?_
 refine ra 2 hF tk rfl fun a hF => ?_
 refine wl_nil (hK5 _ _ ?_)
 refine wc_fx (t := 8) hF rfl ?_ ?_ <;> clear hF <;> intro c8 hF <;> try simp only [zb] at c8
 ·
  refine wp_region_lit ?_
  refine ra 1 hF tk rfl fun a hF => ?_
  refine wl_call hF rfl rfl rfl (r_call1 en197 (hF.ev rfl)) (l2Handle_c hbs (q := 2) hS rfl) ?_; clear hF a; rintro v w6 a ⟨⟨x11, rfl, h11⟩, hS⟩ hF
  refine ra 1 hF tk rfl fun a hF => ?_
  refine wl_store hF hS (i := 0) rfl sz3 (hF.ev rfl) (hF.ev rfl) rfl rfl fun w7 hS => ?_; dsimp only [List.set, Nat.reduceAdd] at hS
  refine wl_nil ?_
  simp only [Exit.then, Exit.inBlock, ↓reduceIte]
  refine hK3 _ _ ?_
  refine ws fun K6 hK6 => ?_
  refine rb 1 0 hF tk hS rfl rfl rfl fun a hF => ?_
  refine wl_storew hF hS (i := 1) rfl (hF.ev rfl) (hF.ev rfl) sz83 rfl rfl fun w8 hS => ?_; dsimp only [List.set, Nat.reduceAdd] at hS
  refine wl_nil (hK6 _ _ ?_)
  refine wp_ret ?_
  try simp only [Exit.then, Exit.inBlock, ↓reduceIte]
  obtain ⟨g1_, g2_, g3_, g4_⟩ := h5
  refine ret1c rfl ag83 hF hS (i := 1) rfl sz83 rfl ⟨⟨⟨x11, e5.key, e5.low, e5.high⟩, rfl, h11, g2_, g3_, g4_⟩, (Sep.headp (A := [_, _, _]) (B := [_]) hS [2] (by decide) rfl rfl)⟩
 refine ws fun K7 hK7 => ?_
 refine ra 2 hF tk rfl fun a hF => ?_
 refine wl_nil (hK7 _ _ ?_)
 refine wc_fx (t := 13) hF rfl ?_ ?_ <;> clear hF <;> intro c13 hF <;> try simp only [zb] at c13
 ·
  refine wp_region_lit ?_
  refine ra 1 hF tk rfl fun a hF => ?_
  refine wl_bslice intEK [vi 0, vi 1, vi 99, vi 100] [0, 1, 99, 100] rfl hF hS rfl mk26 rfl ⟨rfl, ec, rfl, ec, rfl, ec, rfl, ec, trivial⟩ rfl rfl rfl rfl ?_; clear hF a; intro gl_16 w9 a hS_ hF; replace hS := hS_; clear hS_
  refine wl_call hF rfl rfl rfl (r_call2 en85 (hF.ev rfl) (hF.ev rfl)) (l1PickInt_c hbs (q := 3) (fun w_ hS => (hS.own_rd (i := 0) rfl)) (by decide) hS rfl) ?_; clear hF a; rintro v w10 a ⟨⟨x17, rfl, h17⟩, hS⟩ hF
  refine ra 1 hF tk rfl fun a hF => ?_
  refine wl_store hF hS (i := 1) rfl sz3 (hF.ev rfl) (hF.ev rfl) rfl rfl fun w11 hS => ?_; dsimp only [List.set, Nat.reduceAdd] at hS
  refine wl_nil ?_
  simp only [Exit.then, Exit.inBlock, ↓reduceIte]
  refine hK3 _ _ ?_
  refine ws fun K8 hK8 => ?_
  refine rb 1 1 hF tk hS rfl rfl rfl fun a hF => ?_
  refine wl_storew hF hS (i := 2) rfl (hF.ev rfl) (hF.ev rfl) sz83 rfl rfl fun w12 hS => ?_; dsimp only [List.set, Nat.reduceAdd] at hS
  refine wl_nil (hK8 _ _ ?_)
  refine wp_ret ?_
  try simp only [Exit.then, Exit.inBlock, ↓reduceIte]
  obtain ⟨g1_, g2_, g3_, g4_⟩ := h5
  simp only [List.mem_cons, List.not_mem_nil, or_false] at h17
  refine ret1c rfl ag83 hF hS (i := 2) rfl sz83 rfl ⟨⟨⟨e5.handle, e5.key, x17, e5.high⟩, rfl, g1_, g2_, (by unfold int64; dsimp only; omega), g4_⟩, (Sep.headp (A := [_, _, _, _]) (B := [_]) hS [3] (by decide) rfl rfl)⟩
 refine ws fun K9 hK9 => ?_
 refine ra 2 hF tk rfl fun a hF => ?_
 refine wl_nil (hK9 _ _ ?_)
 refine wc_fx (t := 19) hF rfl ?_ ?_ <;> clear hF <;> intro c19 hF <;> try simp only [zb] at c19
 ·
  refine wp_region_lit ?_
  refine ra 1 hF tk rfl fun a hF => ?_
  refine wl_bslice intEK [vi 0, vi 99, vi 100] [0, 99, 100] rfl hF hS rfl mk26 rfl ⟨rfl, ec, rfl, ec, rfl, ec, trivial⟩ rfl rfl rfl rfl ?_; clear hF a; intro gl_22 w13 a hS_ hF; replace hS := hS_; clear hS_
  refine wl_call hF rfl rfl rfl (r_call2 en85 (hF.ev rfl) (hF.ev rfl)) (l1PickInt_c hbs (q := 3) (fun w_ hS => (hS.own_rd (i := 0) rfl)) (by decide) hS rfl) ?_; clear hF a; rintro v w14 a ⟨⟨x23, rfl, h23⟩, hS⟩ hF
  refine ra 1 hF tk rfl fun a hF => ?_
  refine wl_store hF hS (i := 1) rfl sz3 (hF.ev rfl) (hF.ev rfl) rfl rfl fun w15 hS => ?_; dsimp only [List.set, Nat.reduceAdd] at hS
  refine wl_nil ?_
  simp only [Exit.then, Exit.inBlock, ↓reduceIte]
  refine hK3 _ _ ?_
  refine ws fun K10 hK10 => ?_
  refine rb 1 1 hF tk hS rfl rfl rfl fun a hF => ?_
  refine wl_storew hF hS (i := 2) rfl (hF.ev rfl) (hF.ev rfl) sz83 rfl rfl fun w16 hS => ?_; dsimp only [List.set, Nat.reduceAdd] at hS
  refine wl_nil (hK10 _ _ ?_)
  refine wp_ret ?_
  try simp only [Exit.then, Exit.inBlock, ↓reduceIte]
  obtain ⟨g1_, g2_, g3_, g4_⟩ := h5
  simp only [List.mem_cons, List.not_mem_nil, or_false] at h23
  refine ret1c rfl ag83 hF hS (i := 2) rfl sz83 rfl ⟨⟨⟨e5.handle, e5.key, e5.low, x23⟩, rfl, g1_, g2_, g3_, (by unfold int64; dsimp only; omega)⟩, (Sep.headp (A := [_, _, _, _]) (B := [_]) hS [3] (by decide) rfl rfl)⟩
 refine ws fun K11 hK11 => ?_
 refine ra 2 hF tk rfl fun a hF => ?_
 refine wl_nil (hK11 _ _ ?_)
 refine wc_fx (t := 25) hF rfl ?_ ?_ <;> clear hF <;> intro c25 hF <;> try simp only [zb] at c25
 ·
  refine wp_region_lit ?_
  refine ra 1 hF tk rfl fun a hF => ?_
  refine wl_bslice intEK [vi (-1), vi 9, vi 10] [-1, 9, 10] rfl hF hS rfl mk26 rfl ⟨rfl, ec, rfl, ec, rfl, ec, trivial⟩ rfl rfl rfl rfl ?_; clear hF a; intro gl_28 w17 a hS_ hF; replace hS := hS_; clear hS_
  refine wl_call hF rfl rfl rfl (r_call2 en85 (hF.ev rfl) (hF.ev rfl)) (l1PickInt_c hbs (q := 3) (fun w_ hS => (hS.own_rd (i := 0) rfl)) (by decide) hS rfl) ?_; clear hF a; rintro v w18 a ⟨⟨x29, rfl, h29⟩, hS⟩ hF
  refine ra 1 hF tk rfl fun a hF => ?_
  refine wl_store hF hS (i := 1) rfl sz3 (hF.ev rfl) (hF.ev rfl) rfl rfl fun w19 hS => ?_; dsimp only [List.set, Nat.reduceAdd] at hS
  refine wl_nil ?_
  simp only [Exit.then, Exit.inBlock, ↓reduceIte]
  refine hK3 _ _ ?_
  refine ws fun K12 hK12 => ?_
  refine rb 1 1 hF tk hS rfl rfl rfl fun a hF => ?_
  refine wl_storew hF hS (i := 2) rfl (hF.ev rfl) (hF.ev rfl) sz83 rfl rfl fun w20 hS => ?_; dsimp only [List.set, Nat.reduceAdd] at hS
  refine wl_nil (hK12 _ _ ?_)
  refine wp_ret ?_
  try simp only [Exit.then, Exit.inBlock, ↓reduceIte]
  obtain ⟨g1_, g2_, g3_, g4_⟩ := h5
  simp only [List.mem_cons, List.not_mem_nil, or_false] at h29
  refine ret1c rfl ag83 hF hS (i := 2) rfl sz83 rfl ⟨⟨⟨e5.handle, x29, e5.low, e5.high⟩, rfl, g1_, (by unfold int64; dsimp only; omega), g3_, g4_⟩, (Sep.headp (A := [_, _, _, _]) (B := [_]) hS [3] (by decide) rfl rfl)⟩
 refine wp_skip ?_
 simp only [Exit.then, Exit.inBlock, ↓reduceIte]
 refine hK3 _ _ ?_
 refine ws fun K13 hK13 => ?_
 refine rb 1 0 hF tk hS rfl rfl rfl fun a hF => ?_
 refine wl_storew hF hS (i := 1) rfl (hF.ev rfl) (hF.ev rfl) sz83 rfl rfl fun w21 hS => ?_; dsimp only [List.set, Nat.reduceAdd] at hS
 refine wl_nil (hK13 _ _ ?_)
 refine wp_ret ?_
 try simp only [Exit.then, Exit.inBlock, ↓reduceIte]
 obtain ⟨g1_, g2_, g3_, g4_⟩ := h5
 refine ret1c rfl ag83 hF hS (i := 1) rfl sz83 rfl ⟨⟨⟨e5.handle, e5.key, e5.low, e5.high⟩, rfl, g1_, g2_, g3_, g4_⟩, (Sep.headp (A := [_, _, _]) (B := [_]) hS [2] (by decide) rfl rfl)⟩
theorem l6Any_c {W : World} {g : Nat} {vb : Value} {bs : List Int} (hbs : byteEK.Rd W vb bs) {l : List Res} {w : World} {q : Nat} (hS : Sep W l w) (hq : l[q]? = some (Cur g vb bs.length)) : Calls Tryz.prog 206 #[.pointer (some ⟨g, 0, none⟩)] w (Ret fun v w' => (∃ e : Entry, v = .agg e.enc.toArray ∧ e.wf) ∧ Sep W l w') :=
  draw_at (R := fun v => ∃ e : Entry, v = .agg e.enc.toArray ∧ e.wf) (fun _ _ h => l6Any_h hbs h ) hS hq
set_option maxHeartbeats 4000000 in
set_option maxRecDepth 20000 in
theorem l6Stamps_h {W : World} {g : Nat} {vb : Value} {bs : List Int} (hbs : byteEK.Rd W vb bs) {l : List Res} {w : World} (hS : Sep W (Cur g vb bs.length :: l) w) : Calls Tryz.prog 54 #[.pointer (some ⟨g, 0, none⟩)] w (Ret fun v w' => ∃ z : List Int × Slv, (v = sv z.2 ∧ (∀ x ∈ z.1, int64 x) ∧ z.1.length ≤ 10) ∧ Sep W (Own intEK (sv z.2) z.1 :: Cur g vb bs.length :: l) w') := by
 refine calls_fr Tryz.func54 rfl Tryz.ntmps54 rfl ?_
 intro a hF
 refine ws fun K1 hK1 => ?_
 refine ra 1 hF tk rfl fun a hF => ?_
 refine wl_nil (hK1 _ _ ?_)
 refine ws fun K2 hK2 => ?_
 refine wl_bslice intEK [] [] rfl hF hS rfl mk26 rfl trivial rfl rfl rfl rfl ?_; clear hF a; intro gl_6 w1 a hS_ hF; replace hS := hS_; clear hS_
 refine ra 1 hF tk rfl fun a hF => ?_
 refine wl_nil (hK2 _ _ ?_)
 refine wp_seq_k fun K3 hK3 => ?_
 refine ws fun K4 hK4 => ?_
 refine ra 1 hF tk rfl fun a hF => ?_
 refine wl_call hF rfl rfl rfl (r_call2 en83 (hF.ev rfl) ec) (l1Below_c hbs (q := 1) _ hS rfl) ?_; clear hF a; rintro v w2 a ⟨⟨x8, rfl, h8⟩, hS⟩ hF
 refine ra 1 hF tk rfl fun a hF => ?_
 refine wl_nil (hK4 _ _ ?_)
 refine wp_block ?_
 replace hS := hS.pull (p := 0) rfl; dsimp only [List.eraseIdx] at hS
 have hL_ := ((hF.nil.keep hF (t := 2) rfl).keep hF (t := 0) rfl)
 refine wp_loop_m (σ := Int × List Int × Slv) (fun z L_ => (4, vi z.1) :: (3, sv z.2.2) :: L_) (fun z l_ => (Own intEK (sv z.2.2) z.2.1) :: l_) (fun z => (∀ x ∈ z.2.1, int64 x) ∧ (0 ≤ z.1 ∧ z.1 + (z.2.1.length : Int) ≤ 10)) (fun z => z.1.toNat) (x8, [], (some ⟨gl_6, 0, none⟩, 0, 0)) (hS) ((hL_.keepE hF (t := 3) rfl rfl).keepE hF (t := 4) rfl rfl) ?_ ?_
 · exact ⟨(fun _ h => by cases h), by dsimp only; simp; omega⟩
 clear hF hS hL_ a
 rintro ⟨n, xs, q⟩ a w3 ⟨hx, hn⟩ hS hF; try dsimp only at hF; try dsimp only at hS; try dsimp only at hx; try dsimp only at hn
 refine wp_seq_k fun K5 hK5 => ?_
 refine ws fun K6 hK6 => ?_
 refine ra 2 hF tk rfl fun a hF => ?_
 refine wl_nil (hK6 _ _ ?_)
 refine wc_fx (t := 10) hF rfl ?_ ?_ <;> clear hF <;> intro c10 hF <;> try simp only [zb] at c10
 ·
  refine wp_skip ?_
  refine hK5 _ _ ?_
  refine wp_seq_k fun K7 hK7 => ?_
  refine wp_block ?_
  refine ws fun K8 hK8 => ?_
  refine ra 1 hF tk rfl fun a hF => ?_
  refine wl_call hF rfl rfl rfl (r_call2 en83 (hF.ev rfl) ec) (l1Below_c hbs (q := 1) _ hS rfl) ?_; clear hF a; rintro v w4 a ⟨⟨x14, rfl, h14⟩, hS⟩ hF
  refine ra 2 hF tk rfl fun a hF => ?_
  refine wl_nil (hK8 _ _ ?_)
  refine wp_region_lit ?_
  refine ra 2 hF tk rfl fun a hF => ?_
  refine wl_bslice intEK [vi (IntKind.i64.wrap (1 + x14))] [IntKind.i64.wrap (1 + x14)] rfl hF hS rfl mk26 rfl ⟨rfl, (hF.ev rfl), trivial⟩ rfl rfl rfl rfl ?_; clear hF a; intro gl_18 w5 a hS_ hF; replace hS := hS_; clear hS_
  refine wl_append (q := 1) hF hS rfl rfl (hS.own_rd (i := 0) rfl) mk26 rfl (hF.ev rfl) (hF.ev rfl) (by simp; omega) (by unfold maxLen; simp; omega) ?_; clear hF a; intro A_19 c_19 w6 a hS_ hF; replace hS := hS_; clear hS_; dsimp only [List.set, List.length_cons, List.length_nil] at hS hF
  refine ra 1 hF tk rfl fun a hF => ?_
  refine wl_nil ?_
  simp only [Exit.then, Exit.inBlock, ↓reduceIte]
  refine hK7 _ _ ?_
  refine wp_region_lit ?_
  refine ra 3 hF tk rfl fun a hF => ?_
  refine wl_nil ?_
  try simp only [Exit.then, Exit.inBlock, ↓reduceIte]
  refine ⟨(n - 1, xs ++ [_], (_, _, _)), ⟨all_snoc hx (int64_wrap _), by dsimp only; simp; omega⟩, (Sep.headp (A := [_, _, _]) (B := [_, _]) hS [1, 2] (by decide) rfl rfl), ((((hF.nil.keep hF (t := 2) rfl).keep hF (t := 0) rfl).keepE hF (t := 3) rfl rfl).keepE hF (t := 4) rfl (congrArg vi (w64_id (by omega) (by omega)))), by dsimp only; omega⟩
 refine wp_exit ?_
 simp only [Exit.then, Exit.inBlock, ↓reduceIte]
 refine hK3 _ _ ?_
 refine ws fun K9 hK9 => ?_
 refine ra 2 hF tk rfl fun a hF => ?_
 refine wl_nil (hK9 _ _ ?_)
 refine wp_ret ?_
 try simp only [Exit.then, Exit.inBlock, ↓reduceIte]
 exact ret1 rfl hF rfl ⟨(xs, q), ⟨rfl, hx, by dsimp only; omega⟩, (Sep.headp (A := [_, _]) (B := [_, _]) hS [0, 1] (by decide) rfl rfl)⟩
set_option maxHeartbeats 4000000 in
set_option maxRecDepth 20000 in
theorem l6Entries_h {W : World} {g : Nat} {vb : Value} {bs : List Int} (hbs : byteEK.Rd W vb bs) {l : List Res} {w : World} (hS : Sep W (Cur g vb bs.length :: l) w) : Calls Tryz.prog 198 #[.pointer (some ⟨g, 0, none⟩)] w (Ret fun v w' => ∃ z : List Entry × Slv, (v = sv z.2 ∧ (∀ x ∈ z.1, x.wf) ∧ z.1.length ≤ 10) ∧ Sep W (Own entryEK (sv z.2) z.1 :: Cur g vb bs.length :: l) w') := by
 refine calls_fr Tryz.func198 rfl Tryz.ntmps198 rfl ?_
 intro a hF
 refine ws fun K1 hK1 => ?_
 refine ra 1 hF tk rfl fun a hF => ?_
 refine wl_nil (hK1 _ _ ?_)
 refine ws fun K2 hK2 => ?_
 refine wl_bslice entryEK [] [] rfl hF hS rfl mk40 rfl trivial rfl rfl rfl rfl ?_; clear hF a; intro gl_6 w1 a hS_ hF; replace hS := hS_; clear hS_
 refine ra 1 hF tk rfl fun a hF => ?_
 refine wl_nil (hK2 _ _ ?_)
 refine wp_seq_k fun K3 hK3 => ?_
 refine ws fun K4 hK4 => ?_
 refine ra 1 hF tk rfl fun a hF => ?_
 refine wl_call hF rfl rfl rfl (r_call2 en83 (hF.ev rfl) ec) (l1Below_c hbs (q := 1) _ hS rfl) ?_; clear hF a; rintro v w2 a ⟨⟨x8, rfl, h8⟩, hS⟩ hF
 refine ra 1 hF tk rfl fun a hF => ?_
 refine wl_nil (hK4 _ _ ?_)
 refine wp_block ?_
 replace hS := hS.pull (p := 0) rfl; dsimp only [List.eraseIdx] at hS
 have hL_ := ((hF.nil.keep hF (t := 2) rfl).keep hF (t := 0) rfl)
 refine wp_loop_m (σ := Int × List Entry × Slv) (fun z L_ => (4, vi z.1) :: (3, sv z.2.2) :: L_) (fun z l_ => (Own entryEK (sv z.2.2) z.2.1) :: l_) (fun z => (∀ x ∈ z.2.1, x.wf) ∧ (0 ≤ z.1 ∧ z.1 + (z.2.1.length : Int) ≤ 10)) (fun z => z.1.toNat) (x8, [], (some ⟨gl_6, 0, none⟩, 0, 0)) (hS) ((hL_.keepE hF (t := 3) rfl rfl).keepE hF (t := 4) rfl rfl) ?_ ?_
 · exact ⟨(fun _ h => by cases h), by dsimp only; simp; omega⟩
 clear hF hS hL_ a
 rintro ⟨n, xs, q⟩ a w3 ⟨hx, hn⟩ hS hF; try dsimp only at hF; try dsimp only at hS; try dsimp only at hx; try dsimp only at hn
 refine wp_seq_k fun K5 hK5 => ?_
 refine ws fun K6 hK6 => ?_
 refine ra 2 hF tk rfl fun a hF => ?_
 refine wl_nil (hK6 _ _ ?_)
 refine wc_fx (t := 10) hF rfl ?_ ?_ <;> clear hF <;> intro c10 hF <;> try simp only [zb] at c10
 ·
  refine wp_skip ?_
  refine hK5 _ _ ?_
  refine wp_seq_k fun K7 hK7 => ?_
  refine wp_block ?_
  refine ws fun K8 hK8 => ?_
  refine ra 1 hF tk rfl fun a hF => ?_
  refine wl_call hF rfl rfl rfl (r_call1 en206 (hF.ev rfl)) (l6Any_c hbs (q := 1) hS rfl) ?_; clear hF a; rintro v w4 a ⟨⟨e14, rfl, h14⟩, hS⟩ hF
  refine wl_alloc hF hS rfl zr83 ?_; clear hF a; intro g1 w5 a hS_ hB_ hF; replace hS := hS_; clear hS_ hB_
  refine wl_storen (cs' := [_, _, _, _]) hF hS (i := 0) rfl (hF.ev rfl) (hF.ev rfl) sz83 ⟨rfl, rfl⟩ rfl rfl fun w6 hS => ?_; dsimp only [List.set] at hS
  refine wl_nil (hK8 _ _ ?_)
  refine wp_region_lit ?_
  refine rb 2 0 hF tk hS rfl rfl rfl fun a hF => ?_
  refine wl_bslice entryEK [.agg e14.enc.toArray] [e14] rfl hF hS rfl mk40 rfl ⟨rfl, (hF.ev rfl), trivial⟩ rfl rfl rfl rfl ?_; clear hF a; intro gl_17 w7 a hS_ hF; replace hS := hS_; clear hS_
  refine wl_append (q := 2) hF hS rfl rfl (hS.own_rd (i := 0) rfl) mk40 rfl (hF.ev rfl) (hF.ev rfl) (by simp; omega) (by unfold maxLen; simp; omega) ?_; clear hF a; intro A_18 c_18 w8 a hS_ hF; replace hS := hS_; clear hS_; dsimp only [List.set, List.length_cons, List.length_nil] at hS hF
  refine ra 1 hF tk rfl fun a hF => ?_
  refine wl_nil ?_
  simp only [Exit.then, Exit.inBlock, ↓reduceIte]
  refine hK7 _ _ ?_
  refine wp_region_lit ?_
  refine ra 3 hF tk rfl fun a hF => ?_
  refine wl_nil ?_
  try simp only [Exit.then, Exit.inBlock, ↓reduceIte]
  refine ⟨(n - 1, xs ++ [_], (_, _, _)), ⟨all_snoc hx h14, by dsimp only; simp; omega⟩, (Sep.headp (A := [_, _, _, _]) (B := [_, _]) hS [2, 3] (by decide) rfl rfl), ((((hF.nil.keep hF (t := 2) rfl).keep hF (t := 0) rfl).keepE hF (t := 3) rfl rfl).keepE hF (t := 4) rfl (congrArg vi (w64_id (by omega) (by omega)))), by dsimp only; omega⟩
 refine wp_exit ?_
 simp only [Exit.then, Exit.inBlock, ↓reduceIte]
 refine hK3 _ _ ?_
 refine ws fun K9 hK9 => ?_
 refine ra 2 hF tk rfl fun a hF => ?_
 refine wl_nil (hK9 _ _ ?_)
 refine wp_ret ?_
 try simp only [Exit.then, Exit.inBlock, ↓reduceIte]
 exact ret1 rfl hF rfl ⟨(xs, q), ⟨rfl, hx, by dsimp only; omega⟩, (Sep.headp (A := [_, _]) (B := [_, _]) hS [0, 1] (by decide) rfl rfl)⟩
end Go.Proofs.YtgofolgogfmhgaaGreat.Wk
namespace Go.Proofs.YtgofolgogfmhgaaGreat.Wk
open Go Go.RowKit Sl
theorem bd42_0_1_3_6_8 (x0) (x1) (x2) (x3) (x4) (x5) (x6) : Tryz.prog.built 42 [(0, .int .i64 x0), (1, .agg #[.int .i64 x1, .int .i64 x2, .int .i64 x3]), (3, .int .i64 x4), (6, .int .i64 x5), (8, .int .i64 x6)] = some [.int .i64 x0, .int .i64 x1, .int .i64 x2, .int .i64 x3, .int .i64 0, .int .i64 0, .int .i64 x4, .int .i64 0, .int .i64 0, .int .i64 x5, .int .i64 0, .int .i64 x6, .int .i64 0, .int .i64 0, .slice none 0 0, .slice none 0 0, .slice none 0 0, .slice none 0 0, .slice none 0 0].toArray := by kernel_rfl
theorem en54 : enterB Tryz.prog 54 = true := by kernel_rfl
theorem en101 : enterB Tryz.prog 101 = true := by kernel_rfl
theorem en198 : enterB Tryz.prog 198 = true := by kernel_rfl
end Go.Proofs.YtgofolgogfmhgaaGreat.Wk
namespace Go.Proofs.YtgofolgogfmhgaaGreat.Wk
open Go Go.RowKit Sl
theorem bd29 : Tryz.prog.built 29 [] = some [.int .i64 0, .int .i64 0, .int .i64 0, .int .i64 0, .int .i64 0, .int .i64 0, .slice none 0 0, .slice none 0 0, .slice none 0 0, .int .i64 0, .int .i64 0, .int .i64 0, .int .i64 0].toArray := by kernel_rfl
theorem bd29_0_1_2 (x0) (x1) (x2) (x3) (x4) (x5) (x6) (x7) (x8) (x9) (x10) (x11) : Tryz.prog.built 29 [(0, .agg #[.int .i64 x0, .int .i64 x1, .int .i64 x2, .int .i64 x3, .int .i64 x4, .int .i64 x5]), (1, .slice x6 x7 x8), (2, .slice x9 x10 x11)] = some [.int .i64 x0, .int .i64 x1, .int .i64 x2, .int .i64 x3, .int .i64 x4, .int .i64 x5, .slice x6 x7 x8, .slice x9 x10 x11, .slice none 0 0, .int .i64 0, .int .i64 0, .int .i64 0, .int .i64 0].toArray := by kernel_rfl
theorem bd42 : Tryz.prog.built 42 [] = some [.int .i64 0, .int .i64 0, .int .i64 0, .int .i64 0, .int .i64 0, .int .i64 0, .int .i64 0, .int .i64 0, .int .i64 0, .int .i64 0, .int .i64 0, .int .i64 0, .int .i64 0, .int .i64 0, .slice none 0 0, .slice none 0 0, .slice none 0 0, .slice none 0 0, .slice none 0 0].toArray := by kernel_rfl
theorem en188 : enterB Tryz.prog 188 = true := by kernel_rfl
theorem en203 : enterB Tryz.prog 203 = true := by kernel_rfl
end Go.Proofs.YtgofolgogfmhgaaGreat.Wk
namespace Go.Proofs.YtgofolgogfmhgaaGreat.Wk
open Go Go.RowKit Sl
set_option linter.unusedVariables false
set_option linter.unusedSimpArgs false
set_option maxRecDepth 20000
def newCells (c : Config) : List Int := if c.ok then (List.replicate (cellCount c).toNat 0).set 0 1 else []
def zeroState : Sl.State := ⟨⟨0, 0, 0, 0, 0, 0⟩, [], [], [], 0, 0, 0, 0⟩
def newState (c : Config) : Sl.State := if c.ok then ⟨c, newCells c, List.replicate c.capacity.toNat 0, List.replicate c.threads.toNat default, 0, 0, 0, 0⟩ else zeroState
theorem _root_.Go.Proofs.YtgofolgogfmhgaaGreat.Sl.Sep.nilpart {α : Type} {ek : EK α} {x : α} {vs : List Slv} {w0 w : World} {l : List Res} (h : Sep w0 l w) (hin : Sat (ek.inner x vs) (fun _ => False) w) : Sep w0 (Part ek x vs :: l) w := h.new (Below.refl _ _) (hin.mono (fun k hk => hk.elim))
theorem nil_sat {α : Type} (ek : EK α) {l : List Res} {w : World} (h : Sat l (fun _ => False) w) : Sat (Own ek (sv (none, 0, 0)) [] :: l) (fun _ => False) w := Sat.cons (S1 := fun _ => False) (S' := fun _ => False) h (own_nil ek _ w) (fun k hk => hk) (fun k hk => hk) (fun k hk _ => hk)
theorem state_inner0 (w : World) : Sat (stateEK.inner zeroState []) (fun _ => False) w := nil_sat intEK (nil_sat intEK (nil_sat threadEK (Sat.nil _ _)))
theorem newCells_len {c : Config} (h : c.ok) : (newCells c).length = (cellCount c).toNat := by unfold newCells; rw [if_pos h]; simp
theorem rep_nx {α : Type} (k : Nat) (x : α) : List.replicate k x ++ [x] = List.replicate (k + 1) x := List.replicate_succ'.symm
theorem newState_size {c : Config} : (newState c).size ≤ 200 := by
 unfold newState
 split
 · rename_i hok
   have hc := newCells_len hok
   have hb := hok
   unfold Config.ok at hb
   have hcc := cellCount_eq hok
   have hz : ∀ n : Nat, crow Sl.Thread.size (List.replicate n default) = 0 := fun n => by
     induction n with
     | zero => rfl
     | succ n ih => rw [List.replicate_succ]; simp only [crow, ih]; rfl
   unfold Sl.State.size
   simp only [List.length_replicate, hz, hc]
   omega
 · unfold zeroState Sl.State.size; simp [crow]
theorem thread0_wf : (default : Sl.Thread).wf := ⟨int64_zero, ⟨int64_zero, int64_zero, int64_zero⟩, ⟨int64_zero, int64_zero⟩, int64_zero, int64_zero, int64_zero, int64_zero, int64_zero, int64_zero, int64_zero, int64_zero, (fun _ h => by cases h), (fun _ h => by cases h), (fun _ h => by cases h), (fun _ h => by cases h), (fun _ h => by cases h)⟩
theorem ok_cwf {c : Config} (h : c.ok) : c.wf := by
 unfold Config.ok at h; refine ⟨?_, ?_, ?_, ?_, ?_, ?_⟩ <;> (unfold int64; omega)
theorem newCells_wf {c : Config} : ∀ x ∈ newCells c, int64 x := by
 unfold newCells
 split
 · intro x hx
   rcases List.mem_or_eq_of_mem_set hx with h | h
   · rw [(List.mem_replicate.1 h).2]; exact int64_zero
   · subst h; unfold int64; omega
 · intro x hx; cases hx
theorem new_eq {c : Config} (h : c.ok) : newState c = ⟨c, newCells c, List.replicate c.capacity.toNat 0, List.replicate c.threads.toNat default, 0, 0, 0, 0⟩ := if_pos h
theorem good_new {c : Config} (h : c.ok) : Good (newState c) := by
 have hb := h; unfold Config.ok at hb
 have hcc := cellCount_eq h
 have hcl := newCells_len h
 have hz := newState_size (c := c)
 refine ⟨?_, ?_, by omega, ?_⟩ <;> rw [new_eq h] <;> try dsimp only
 · refine ⟨h, ?_, ?_, ?_⟩ <;> dsimp only
   · rw [hcl]; omega
   · rw [List.length_replicate]; omega
   · rw [List.length_replicate]; omega
 · refine ⟨ok_cwf h, newCells_wf, ?_, ?_, int64_zero, int64_zero, int64_zero, int64_zero⟩
   · intro x hx; rw [(List.mem_replicate.1 hx).2]; exact int64_zero
   · intro x hx; rw [(List.mem_replicate.1 hx).2]; exact thread0_wf
 · intro t ht; rw [(List.mem_replicate.1 ht).2]; intro h0; exact absurd h0 (by decide)
set_option maxHeartbeats 4000000 in
set_option maxRecDepth 20000 in
theorem specNewCells_c {W : World} (c : Config) : Calls Tryz.prog 188 #[.agg c.enc.toArray] W (Ret (Mk W (fun z : Slv => sv z) (fun z => [Own intEK (sv z) (newCells c)]))) := by
 refine calls_fr Tryz.func188 rfl Tryz.ntmps188 rfl ?_
 intro a hF
 have hS := Sep.refl W
 refine ws fun K1 hK1 => ?_
 refine wl_box (cs := [_, _, _, _, _, _]) hF hS rfl (hF.ev rfl) rfl ?_; clear hF a; intro g1 w1 a hS_ hB_ hF; replace hS := hS_; clear hS_ hB_
 refine ra 1 hF tk rfl fun a hF => ?_
 refine wl_nil (hK1 _ _ ?_)
 refine wp_seq_k fun K2 hK2 => ?_
 refine ws fun K3 hK3 => ?_
 refine rb 1 0 hF tk hS rfl rfl rfl fun a hF => ?_
 refine wl_call hF rfl rfl rfl (r_call1 en91 (hF.ev rfl)) (specIsConfig_c _) ?_; clear hF a; rintro v w2 a ⟨rfl, hB_⟩ hF; have hS := hS.ext hB_
 refine ra 1 hF tk rfl fun a hF => ?_
 refine wl_nil (hK3 _ _ ?_)
 refine wc_fx (t := 6) hF rfl ?_ ?_ <;> clear hF <;> intro c6 hF <;> try simp only [zb] at c6
 ·
  refine ws fun K4 hK4 => ?_
  refine wl_bslice intEK [] [] rfl hF hS rfl mk26 rfl trivial rfl rfl rfl rfl ?_; clear hF a; intro gl_7 w3 a hS_ hF; replace hS := hS_; clear hS_
  refine ra 1 hF tk rfl fun a hF => ?_
  refine wl_nil (hK4 _ _ ?_)
  refine wp_ret ?_
  try simp only [Exit.then, Exit.inBlock, ↓reduceIte]
  first
    | (refine ret1 rfl hF rfl ⟨(_, _, _), rfl, ?_⟩; rw [show newCells c = [] from if_neg c6]; exact hS.pick [0] (by decide) rfl)
    | (refine ret1 rfl hF rfl ⟨(_, _, _), rfl, ?_⟩; rw [show newCells c = _ from if_pos c6]; exact hS.pick [99] (by decide) rfl)
 have hb := c6; unfold Config.ok at hb
 have hcc := cellCount_eq c6
 refine wp_skip ?_
 refine hK2 _ _ ?_
 refine ws fun K5 hK5 => ?_
 refine rb 1 0 hF tk hS rfl rfl rfl fun a hF => ?_
 refine wl_call hF rfl rfl rfl (r_call1 en92 (hF.ev rfl)) (specCellCount_c _) ?_; clear hF a; rintro v w4 a ⟨rfl, hB_⟩ hF; have hS := hS.ext hB_
 refine wl_make intEK 0 [] hF hS rfl mk26 rfl (fun _ => Sat.nil _ _) ((hF.ev rfl).trans (show vi (cellCount c) = Value.int .i64 ((Int.toNat (cellCount c) : Nat) : Int) from by rw [Int.toNat_of_nonneg (by omega)])) (by omega) (by unfold maxLen; omega) ?_; clear hF a; intro gm_10 w5 a hS_ hF; replace hS := hS_; clear hS_
 refine ra 1 hF tk rfl fun a hF => ?_
 refine wl_nil (hK5 _ _ ?_)
 refine ws fun K6 hK6 => ?_
 refine ra 1 hF tk rfl fun a hF => ?_
 refine wl_call hF rfl rfl rfl (r_call0 en203 ) (specClockCell_c) ?_; clear hF a; rintro v w6 a ⟨rfl, hB_⟩ hF; have hS := hS.ext hB_
 obtain ⟨g13, o13, m13, q13, hv13, hm13, hl13, hc13⟩ := Rd.atF ((hS.own_rd (i := 0) rfl)) (a := a) (X := .tmp 12) (hF.ev rfl) (by omega) (by simp; omega)
 refine wl hF rfl rfl rfl (r_index sl26 ((hF.ev rfl).trans hv13) (hF.ev rfl) (by omega) (by first | omega | (simp at hm13; omega))) fun a hF => ?_
 refine wl_istore (q := 0) hF hS rfl hv13 (by omega) (by omega) sz3 (hF.ev rfl) rfl ec fun w7 hS => ?_; dsimp only [List.set] at hS
 refine wl_nil (hK6 _ _ ?_)
 refine ws fun K7 hK7 => ?_
 refine ra 2 hF tk rfl fun a hF => ?_
 refine wl_nil (hK7 _ _ ?_)
 refine wp_ret ?_
 try simp only [Exit.then, Exit.inBlock, ↓reduceIte]
 first
   | (refine ret1 rfl hF rfl ⟨(_, _, _), rfl, ?_⟩; rw [show newCells c = [] from if_neg c6]; exact hS.pick [99] (by decide) rfl)
   | (refine ret1 rfl hF rfl ⟨(_, _, _), rfl, ?_⟩; rw [show newCells c = _ from if_pos c6]; exact hS.pick [0] (by decide) rfl)
set_option maxHeartbeats 4000000 in
set_option maxRecDepth 20000 in
theorem specNewState_c {W : World} (c : Config) : Calls Tryz.prog 158 #[.agg c.enc.toArray] W (Ret (Mk W (fun vs => .agg (stateEK.cells (newState c) vs).toArray) (fun vs => [Part stateEK (newState c) vs]))) := by
 refine calls_fr Tryz.func158 rfl Tryz.ntmps158 rfl ?_
 intro a hF
 have hS := Sep.refl W
 refine ws fun K1 hK1 => ?_
 refine wl_box (cs := [_, _, _, _, _, _]) hF hS rfl (hF.ev rfl) rfl ?_; clear hF a; intro g1 w1 a hS_ hB_ hF; replace hS := hS_; clear hS_ hB_
 refine wl_alloc hF hS rfl zr29 ?_; clear hF a; intro g2 w2 a hS_ hB_ hF; replace hS := hS_; clear hS_ hB_
 refine wl_nil (hK1 _ _ ?_)
 refine wp_seq_k fun K2 hK2 => ?_
 refine ws fun K3 hK3 => ?_
 refine rb 1 1 hF tk hS rfl rfl rfl fun a hF => ?_
 refine wl_call hF rfl rfl rfl (r_call1 en91 (hF.ev rfl)) (specIsConfig_c _) ?_; clear hF a; rintro v w3 a ⟨rfl, hB_⟩ hF; have hS := hS.ext hB_
 refine ra 1 hF tk rfl fun a hF => ?_
 refine wl_nil (hK3 _ _ ?_)
 refine wc_fx (t := 7) hF rfl ?_ ?_ <;> clear hF <;> intro c7 hF <;> try simp only [zb] at c7
 ·
  refine ws fun K4 hK4 => ?_
  refine wl hF rfl rfl rfl (r_build (bd29) trivial) fun a hF => ?_
  refine wl_storew hF hS (i := 0) rfl (hF.ev rfl) (hF.ev rfl) sz29 rfl rfl fun w4 hS => ?_; dsimp only [List.set, Nat.reduceAdd] at hS
  refine wl_nil (hK4 _ _ ?_)
  refine wp_ret ?_
  try simp only [Exit.then, Exit.inBlock, ↓reduceIte]
  first
    | (refine ret1c rfl ag29 hF hS (i := 0) rfl sz29 rfl ⟨[], ?_, ?_⟩
       · rw [show newState c = zeroState from if_neg c7]; rfl
       · rw [show newState c = zeroState from if_neg c7]; exact (Sep.nilpart (hS.pick [] (by decide) rfl) (state_inner0 _)))
    | (obtain rfl : k = c.threads.toNat := by omega
       have e : newState c = ⟨c, newCells c, List.replicate c.capacity.toNat 0, List.replicate c.threads.toNat default, 0, 0, 0, 0⟩ := if_pos c7
       refine ret1c rfl ag29 hF hS (i := 0) rfl sz29 rfl ⟨[s11, (some ⟨gm_14, 0, none⟩, c.capacity.toNat, c.capacity.toNat), q], ?_, ?_⟩
       · rw [e]; rfl
       · rw [e]; exact hS.part_of [99, 99, 99] (by decide) rfl)
 have hb := c7; unfold Config.ok at hb
 refine wp_skip ?_
 refine hK2 _ _ ?_
 refine wp_seq_k fun K5 hK5 => ?_
 refine wp_region_todo (is := [0, 1, 3, 4, 2, 5, 6, 8]) [(7, 3, [.int .i64 0, .int .i64 0, .int .i64 0, .int .i64 0, .int .i64 0, .int .i64 0, .slice none 0 0, .slice none 0 0, .slice none 0 0, .int .i64 0, .int .i64 0, .int .i64 0, .int .i64 0])] [8] (by kernel_rfl) hF hS ⟨⟨⟨_, _, _, rfl, zr29⟩, trivial⟩, by decide, by decide, by decide⟩ (by kernel_rfl) ?_; clear hF; intro hl_ wd hSd
 refine todo_load [6, 8] hl_ (by kernel_rfl) rfl (gw0 rfl) rfl rfl rfl (fun a w_ hF hB_ => r_loadn ag25 (hF.ev rfl) ((hSd.ext hB_).box_rd (i := 1) rfl) sz25) ?_
 refine todo_load [2, 6, 8] hl_ (by kernel_rfl) rfl (gw0 rfl) rfl rfl rfl (fun a w_ hF hB_ => r_loadn ag25 (hF.ev rfl) ((hSd.ext hB_).box_rd (i := 1) rfl) sz25) ?_
 refine todo_pure hl_ (by kernel_rfl) rfl (gw0 rfl) rfl rfl rfl (fun a w_ hF => r_field fo25_2 (hF.ev rfl)) ?_
 refine todo_load [5, 6, 8] hl_ (by kernel_rfl) rfl (gw0 rfl) rfl rfl rfl (fun a w_ hF hB_ => r_load1 sc3 (hF.ev rfl) ((hSd.ext hB_).box (i := 1) rfl rfl)) ?_
 refine todo_fork [(2, [5, 6, 8]), (5, [2, 6, 8])] hl_ rfl (by kernel_rfl) (List.forall_mem_cons.2 ⟨?_, List.forall_mem_cons.2 ⟨?_, fun _ h_ => nomatch h_⟩⟩)
 ·
  refine op_mk rfl rfl (gw0 rfl) rfl rfl rfl (fun a w_ hF => r_call1 en188 (hF.ev rfl)) (fun w_ hS => specNewCells_c _) ?_; rintro s11
  refine todo_op hl_ rfl (by kernel_rfl) rfl rfl rfl rfl rfl (fun a w_ hF hS => r_make0 intEK 0 [] mk26 rfl (fun _ => Sat.nil _ _) ((hF.ev rfl).trans (show vi (c.capacity) = Value.int .i64 ((Int.toNat (c.capacity) : Nat) : Int) from by rw [Int.toNat_of_nonneg (by omega)])) (by omega) (by unfold maxLen; omega)) ?_; intro gm_14
  refine todo_pure hl_ (by kernel_rfl) rfl (gw0 rfl) rfl rfl rfl (fun a w_ hF => r_build (bd29_0_1_2 _ _ _ _ _ _ _ _ _ _ _ _) ⟨rfl, (hF.ev rfl), rfl, (hF.ev rfl), rfl, (hF.ev rfl), trivial⟩) ?_
  refine todo_fin hl_ rfl (by kernel_rfl) (tl := [_]) rfl ?_; clear hS a; intro a w6 hF hA_
  obtain ⟨g3, hS, he_0⟩ := hA_.open1; clear hA_
  replace hF := hF.more he_0; clear he_0
  clear hl_; try clear hSd
  try dsimp only [List.cons_append, List.nil_append, List.set] at hS
  try clear wd
  refine wl_storew hF hS (i := 0) rfl (hF.ev rfl) (hF.ev rfl) sz29 rfl rfl fun w7 hS => ?_; dsimp only [List.set, Nat.reduceAdd] at hS
  refine wl_nil ⟨rfl, ?_⟩
  refine hK5 _ _ ?_
  refine wp_seq_k fun K6 hK6 => ?_
  refine ws fun K7 hK7 => ?_
  refine ra 1 hF tk rfl fun a hF => ?_
  refine wl_nil (hK7 _ _ ?_)
  refine wp_block ?_
  replace hS := hS.own_nil threadEK
  replace hS := hS.pull (p := 1) rfl; dsimp only [List.eraseIdx] at hS
  replace hS := hS.pull (p := 1) rfl; dsimp only [List.eraseIdx] at hS
  have hL_ := (((hF.nil.keep hF (t := 3) rfl).keep hF (t := 2) rfl).keep hF (t := 1) rfl)
  refine wp_loop_m (σ := Nat × Slv) (fun z L_ => (4, vi z.1) :: L_) (fun z l_ => (Own threadEK (sv z.2) (List.replicate z.1 default)) :: (Box g3 [vi c.threads, vi c.keys, vi c.capacity, vi c.batch, vi c.policy, vi c.clockMax, sv s11, .slice (some ⟨gm_14, 0, none⟩) c.capacity.toNat c.capacity.toNat, sv z.2, vi 0, vi 0, vi 0, vi 0]) :: l_) (fun z => ((z.1 : Int) ≤ c.threads)) (fun z => c.threads.toNat - z.1) (0, (none, 0, 0)) (hS) (hL_.keepE hF (t := 4) rfl rfl) ?_ ?_
  · exact by dsimp only; omega
  clear hF hS hL_ a
  rintro ⟨k, q⟩ a w8 hk hS hF; try dsimp only at hF; try dsimp only at hS; try dsimp only at hk
  refine wp_seq_k fun K8 hK8 => ?_
  refine ws fun K9 hK9 => ?_
  refine rb 4 5 hF tk hS rfl rfl rfl fun a hF => ?_
  refine wl_nil (hK9 _ _ ?_)
  refine wc_fx (t := 19) hF rfl ?_ ?_ <;> clear hF <;> intro c19 hF <;> try simp only [zb] at c19
  ·
   refine wp_skip ?_
   refine hK8 _ _ ?_
   refine wp_seq_k fun K10 hK10 => ?_
   refine wp_block ?_
   refine wp_region_lit ?_
   refine rb 2 1 hF tk hS rfl rfl rfl fun a hF => ?_
   refine wl hF rfl rfl rfl (r_build (bd42) trivial) fun a hF => ?_
   replace hS := hS.nilpart (ek := threadEK) (x := default) (vs := []) (thread_inner0 _)
   refine wl_bslice (rawEK threadEK.sz) [.agg (threadEK.cells (default) []).toArray] [raw threadEK (default) []] rfl hF hS rfl mk27 rfl ⟨rfl, (hF.ev rfl), trivial⟩ rfl rfl rfl rfl ?_; clear hF a; intro gl_25 w9 a hS_ hF; replace hS := hS_; clear hS_
   have hu_ := hS.own_rd (i := 0) rfl
   replace hS := hS.pull (p := 1) rfl; dsimp only [List.eraseIdx] at hS
   replace hS := hS.pull (p := 2) rfl; dsimp only [List.eraseIdx] at hS
   refine wl_appendn (ek := threadEK) hF hS rfl hu_ mk27 rfl (hF.ev rfl) (hF.ev rfl) (by simp; omega) (by unfold maxLen; simp; omega) ?_; clear hF a hu_; intro A_26 c_26 w10 a hS_ hF; replace hS := hS_; clear hS_
   refine ra 1 hF tk rfl fun a hF => ?_
   refine wl_store hF hS (i := 2) rfl sz27 (hF.ev rfl) (hF.ev rfl) rfl rfl fun w11 hS => ?_; dsimp only [List.set, Nat.reduceAdd] at hS
   refine wl_nil ?_
   simp only [Exit.then, Exit.inBlock, ↓reduceIte]
   refine hK10 _ _ ?_
   refine wp_region_lit ?_
   refine ra 3 hF tk rfl fun a hF => ?_
   refine wl_nil ?_
   try simp only [Exit.then, Exit.inBlock, ↓reduceIte]
   rw [rep_nx] at hS
   refine ⟨(k + 1, (_, _, _)), (by dsimp only; omega), (hS.pick [0, 2, 3, 4, 5, 6] (by decide) rfl), ((((hF.nil.keep hF (t := 3) rfl).keep hF (t := 2) rfl).keep hF (t := 1) rfl).keepE hF (t := 4) rfl (wk (by omega))), by dsimp only; omega⟩
  refine wp_exit ?_
  simp only [Exit.then, Exit.inBlock, ↓reduceIte]
  refine hK6 _ _ ?_
  refine ws fun K11 hK11 => ?_
  refine rb 1 1 hF tk hS rfl rfl rfl fun a hF => ?_
  refine wl_storew hF hS (i := 4) rfl (hF.ev rfl) (hF.ev rfl) sz29 rfl rfl fun w12 hS => ?_; dsimp only [List.set, Nat.reduceAdd] at hS
  refine wl_nil (hK11 _ _ ?_)
  refine wp_ret ?_
  try simp only [Exit.then, Exit.inBlock, ↓reduceIte]
  first
    | (refine ret1c rfl ag29 hF hS (i := 4) rfl sz29 rfl ⟨[], ?_, ?_⟩
       · rw [show newState c = zeroState from if_neg c7]; rfl
       · rw [show newState c = zeroState from if_neg c7]; exact (Sep.nilpart (hS.pick [] (by decide) rfl) (state_inner0 _)))
    | (obtain rfl : k = c.threads.toNat := by omega
       have e : newState c = ⟨c, newCells c, List.replicate c.capacity.toNat 0, List.replicate c.threads.toNat default, 0, 0, 0, 0⟩ := if_pos c7
       refine ret1c rfl ag29 hF hS (i := 4) rfl sz29 rfl ⟨[s11, (some ⟨gm_14, 0, none⟩, c.capacity.toNat, c.capacity.toNat), q], ?_, ?_⟩
       · rw [e]; rfl
       · rw [e]; exact hS.part_of [3, 2, 0] (by decide) rfl)
 ·
  refine op_op rfl rfl (gw0 rfl) rfl rfl rfl (fun a w_ hF hS => r_make0 intEK 0 [] mk26 rfl (fun _ => Sat.nil _ _) ((hF.ev rfl).trans (show vi (c.capacity) = Value.int .i64 ((Int.toNat (c.capacity) : Nat) : Int) from by rw [Int.toNat_of_nonneg (by omega)])) (by omega) (by unfold maxLen; omega)) ?_; intro gm_14
  refine todo_mk hl_ rfl (by kernel_rfl) rfl rfl rfl rfl rfl (fun a w_ hF => r_call1 en188 (hF.ev rfl)) (fun w_ hS => specNewCells_c _) ?_; rintro s11
  refine todo_pure hl_ (by kernel_rfl) rfl (gw0 rfl) rfl rfl rfl (fun a w_ hF => r_build (bd29_0_1_2 _ _ _ _ _ _ _ _ _ _ _ _) ⟨rfl, (hF.ev rfl), rfl, (hF.ev rfl), rfl, (hF.ev rfl), trivial⟩) ?_
  refine todo_fin hl_ rfl (by kernel_rfl) (tl := [_]) rfl ?_; clear hS a; intro a w14 hF hA_
  obtain ⟨g3, hS, he_0⟩ := hA_.open1; clear hA_
  replace hF := hF.more he_0; clear he_0
  clear hl_; try clear hSd
  try dsimp only [List.cons_append, List.nil_append, List.set] at hS
  try clear wd
  refine wl_storew hF hS (i := 0) rfl (hF.ev rfl) (hF.ev rfl) sz29 rfl rfl fun w15 hS => ?_; dsimp only [List.set, Nat.reduceAdd] at hS
  refine wl_nil ⟨rfl, ?_⟩
  refine hK5 _ _ ?_
  refine wp_seq_k fun K12 hK12 => ?_
  refine ws fun K13 hK13 => ?_
  refine ra 1 hF tk rfl fun a hF => ?_
  refine wl_nil (hK13 _ _ ?_)
  refine wp_block ?_
  replace hS := hS.own_nil threadEK
  replace hS := hS.pull (p := 1) rfl; dsimp only [List.eraseIdx] at hS
  replace hS := hS.pull (p := 1) rfl; dsimp only [List.eraseIdx] at hS
  have hL_ := (((hF.nil.keep hF (t := 3) rfl).keep hF (t := 2) rfl).keep hF (t := 1) rfl)
  refine wp_loop_m (σ := Nat × Slv) (fun z L_ => (4, vi z.1) :: L_) (fun z l_ => (Own threadEK (sv z.2) (List.replicate z.1 default)) :: (Box g3 [vi c.threads, vi c.keys, vi c.capacity, vi c.batch, vi c.policy, vi c.clockMax, sv s11, .slice (some ⟨gm_14, 0, none⟩) c.capacity.toNat c.capacity.toNat, sv z.2, vi 0, vi 0, vi 0, vi 0]) :: l_) (fun z => ((z.1 : Int) ≤ c.threads)) (fun z => c.threads.toNat - z.1) (0, (none, 0, 0)) (hS) (hL_.keepE hF (t := 4) rfl rfl) ?_ ?_
  · exact by dsimp only; omega
  clear hF hS hL_ a
  rintro ⟨k, q⟩ a w16 hk hS hF; try dsimp only at hF; try dsimp only at hS; try dsimp only at hk
  refine wp_seq_k fun K14 hK14 => ?_
  refine ws fun K15 hK15 => ?_
  refine rb 4 5 hF tk hS rfl rfl rfl fun a hF => ?_
  refine wl_nil (hK15 _ _ ?_)
  refine wc_fx (t := 19) hF rfl ?_ ?_ <;> clear hF <;> intro c19 hF <;> try simp only [zb] at c19
  ·
   refine wp_skip ?_
   refine hK14 _ _ ?_
   refine wp_seq_k fun K16 hK16 => ?_
   refine wp_block ?_
   refine wp_region_lit ?_
   refine rb 2 1 hF tk hS rfl rfl rfl fun a hF => ?_
   refine wl hF rfl rfl rfl (r_build (bd42) trivial) fun a hF => ?_
   replace hS := hS.nilpart (ek := threadEK) (x := default) (vs := []) (thread_inner0 _)
   refine wl_bslice (rawEK threadEK.sz) [.agg (threadEK.cells (default) []).toArray] [raw threadEK (default) []] rfl hF hS rfl mk27 rfl ⟨rfl, (hF.ev rfl), trivial⟩ rfl rfl rfl rfl ?_; clear hF a; intro gl_25 w17 a hS_ hF; replace hS := hS_; clear hS_
   have hu_ := hS.own_rd (i := 0) rfl
   replace hS := hS.pull (p := 1) rfl; dsimp only [List.eraseIdx] at hS
   replace hS := hS.pull (p := 2) rfl; dsimp only [List.eraseIdx] at hS
   refine wl_appendn (ek := threadEK) hF hS rfl hu_ mk27 rfl (hF.ev rfl) (hF.ev rfl) (by simp; omega) (by unfold maxLen; simp; omega) ?_; clear hF a hu_; intro A_26 c_26 w18 a hS_ hF; replace hS := hS_; clear hS_
   refine ra 1 hF tk rfl fun a hF => ?_
   refine wl_store hF hS (i := 2) rfl sz27 (hF.ev rfl) (hF.ev rfl) rfl rfl fun w19 hS => ?_; dsimp only [List.set, Nat.reduceAdd] at hS
   refine wl_nil ?_
   simp only [Exit.then, Exit.inBlock, ↓reduceIte]
   refine hK16 _ _ ?_
   refine wp_region_lit ?_
   refine ra 3 hF tk rfl fun a hF => ?_
   refine wl_nil ?_
   try simp only [Exit.then, Exit.inBlock, ↓reduceIte]
   rw [rep_nx] at hS
   refine ⟨(k + 1, (_, _, _)), (by dsimp only; omega), (hS.pick [0, 2, 3, 4, 5, 6] (by decide) rfl), ((((hF.nil.keep hF (t := 3) rfl).keep hF (t := 2) rfl).keep hF (t := 1) rfl).keepE hF (t := 4) rfl (wk (by omega))), by dsimp only; omega⟩
  refine wp_exit ?_
  simp only [Exit.then, Exit.inBlock, ↓reduceIte]
  refine hK12 _ _ ?_
  refine ws fun K17 hK17 => ?_
  refine rb 1 1 hF tk hS rfl rfl rfl fun a hF => ?_
  refine wl_storew hF hS (i := 4) rfl (hF.ev rfl) (hF.ev rfl) sz29 rfl rfl fun w20 hS => ?_; dsimp only [List.set, Nat.reduceAdd] at hS
  refine wl_nil (hK17 _ _ ?_)
  refine wp_ret ?_
  try simp only [Exit.then, Exit.inBlock, ↓reduceIte]
  first
    | (refine ret1c rfl ag29 hF hS (i := 4) rfl sz29 rfl ⟨[], ?_, ?_⟩
       · rw [show newState c = zeroState from if_neg c7]; rfl
       · rw [show newState c = zeroState from if_neg c7]; exact (Sep.nilpart (hS.pick [] (by decide) rfl) (state_inner0 _)))
    | (obtain rfl : k = c.threads.toNat := by omega
       have e : newState c = ⟨c, newCells c, List.replicate c.capacity.toNat 0, List.replicate c.threads.toNat default, 0, 0, 0, 0⟩ := if_pos c7
       refine ret1c rfl ag29 hF hS (i := 4) rfl sz29 rfl ⟨[s11, (some ⟨gm_14, 0, none⟩, c.capacity.toNat, c.capacity.toNat), q], ?_, ?_⟩
       · rw [e]; rfl
       · rw [e]; exact hS.part_of [2, 3, 0] (by decide) rfl)
end Go.Proofs.YtgofolgogfmhgaaGreat.Wk
namespace Go.Proofs.YtgofolgogfmhgaaGreat.Wk
open Go Go.RowKit Sl
set_option linter.unusedVariables false
set_option linter.unusedSimpArgs false
set_option maxRecDepth 20000
theorem pcs_int {x : Int} (h : x ∈ pcs) : int64 x := by
 unfold pcs at h; simp only [List.mem_cons, List.not_mem_nil, or_false] at h; unfold int64; omega
theorem ok_opwf {o : Sl.Op} (h : o.ok) : o.wf := by
 unfold Sl.Op.ok at h; refine ⟨?_, ?_, ?_⟩ <;> (unfold int64; omega)
set_option maxHeartbeats 4000000 in
set_option maxRecDepth 20000 in
theorem l7Thread_h {W : World} {g : Nat} {vb : Value} {bs : List Int} (hbs : byteEK.Rd W vb bs) {l : List Res} {w : World} (hS : Sep W (Cur g vb bs.length :: l) w) : Calls Tryz.prog 179 #[.pointer (some ⟨g, 0, none⟩)] w (Ret fun v w' => ∃ z : Sl.Thread × List Slv, (v = .agg (threadEK.cells z.1 z.2).toArray ∧ z.1.wf ∧ z.1.size ≤ 60 ∧ 0 ≤ z.1.seen) ∧ Sep W (Part threadEK z.1 z.2 :: Cur g vb bs.length :: l) w') := by
 refine calls_fr Tryz.func179 rfl Tryz.ntmps179 rfl ?_
 intro a hF
 refine ws fun K1 hK1 => ?_
 refine wl_alloc hF hS rfl zr42 ?_; clear hF a; intro g1 w1 a hS_ hB_ hF; replace hS := hS_; clear hS_ hB_
 refine wl_nil (hK1 _ _ ?_)
 refine ws fun K2 hK2 => ?_
 refine ra 1 hF tk rfl fun a hF => ?_
 refine wl_mk hF hS rfl rfl rfl (r_call0 en196 ) (l7Pcs_c) ?_; clear hF a; rintro s5 w2 a hS_ hF; replace hS := hS_; clear hS_; dsimp only [List.cons_append, List.nil_append] at hS
 have hln5 := hS.own_len (q := 0) rfl
 refine wl_call hF rfl rfl rfl (r_call2 en85 (hF.ev rfl) (hF.ev rfl)) (l1PickInt_c hbs (q := 2) (fun w_ hS => (hS.own_rd (i := 0) rfl)) (by decide) hS rfl) ?_; clear hF a; rintro v w3 a ⟨⟨x6, rfl, h6⟩, hS⟩ hF
 refine ra 1 hF tk rfl fun a hF => ?_
 refine wl_call hF rfl rfl rfl (r_call2 en84 (hF.ev rfl) ec) (l5Op_c hbs (q := 2) (by omega) hS rfl) ?_; clear hF a; rintro v w4 a ⟨⟨o8, rfl, h8⟩, hS⟩ hF
 refine ra 1 hF tk rfl fun a hF => ?_
 refine wl_call hF rfl rfl rfl (r_call2 en83 (hF.ev rfl) ec) (l1Below_c hbs (q := 2) _ hS rfl) ?_; clear hF a; rintro v w5 a ⟨⟨x10, rfl, h10⟩, hS⟩ hF
 refine ra 1 hF tk rfl fun a hF => ?_
 refine wl_call hF rfl rfl rfl (r_call1 en197 (hF.ev rfl)) (l2Handle_c hbs (q := 2) hS rfl) ?_; clear hF a; rintro v w6 a ⟨⟨x12, rfl, h12⟩, hS⟩ hF
 refine ra 1 hF tk rfl fun a hF => ?_
 refine wl_call hF rfl rfl rfl (r_call2 en83 (hF.ev rfl) ec) (l1Below_c hbs (q := 2) _ hS rfl) ?_; clear hF a; rintro v w7 a ⟨⟨x14, rfl, h14⟩, hS⟩ hF
 refine wl hF rfl rfl rfl (r_build (bd42_0_1_3_6_8 _ _ _ _ _ _ _) ⟨rfl, (hF.ev rfl), rfl, (hF.ev rfl), rfl, (hF.ev rfl), rfl, (hF.ev rfl), rfl, (hF.ev rfl), trivial⟩) fun a hF => ?_
 refine wl_alloc hF hS rfl zr42 ?_; clear hF a; intro g2 w8 a hS_ hB_ hF; replace hS := hS_; clear hS_ hB_
 refine wl_storew hF hS (i := 0) rfl (hF.ev rfl) (hF.ev rfl) sz42 rfl rfl fun w9 hS => ?_; dsimp only [List.set, Nat.reduceAdd] at hS
 refine wl_nil (hK2 _ _ ?_)
 refine wp_cut (fun a w => ∃ (bu : List Entry) (qb : Slv), ((∀ x ∈ bu, x.wf) ∧ bu.length ≤ 10) ∧ Sep W (Own entryEK (sv qb) bu :: Box g2 [vi x6, vi o8.kind, vi o8.key, vi o8.value, vi 0, vi 0, vi x10, vi 0, vi 0, vi x12, vi 0, vi x14, vi 0, vi 0, .slice none 0 0, .slice none 0 0, sv qb, .slice none 0 0, .slice none 0 0] :: Box g1 [vi 0, vi 0, vi 0, vi 0, vi 0, vi 0, vi 0, vi 0, vi 0, vi 0, vi 0, vi 0, vi 0, vi 0, .slice none 0 0, .slice none 0 0, .slice none 0 0, .slice none 0 0, .slice none 0 0] :: Cur g vb bs.length :: l) w ∧ Fr 58 [(0, .pointer (some ⟨g, 0, none⟩)), (2, .pointer (some ⟨g1, 0, none⟩)), (3, .pointer (some ⟨g2, 0, none⟩))] a) ?_ ?_
 ·
  refine ws fun K3 hK3 => ?_
  refine ra 1 hF tk rfl fun a hF => ?_
  refine wl_call hF rfl rfl rfl (r_call2 en101 (hF.ev rfl) ec) (l1Once_c hbs (q := 3) _ hS rfl) ?_; clear hF a; rintro v w10 a ⟨⟨b17, rfl⟩, hS⟩ hF
  refine wl_nil (hK3 _ _ ?_)
  refine wc_fx (t := 17) hF rfl ?_ ?_ <;> clear hF <;> intro c17 hF <;> try simp only [zb] at c17
  ·
   refine wp_region_lit ?_
   refine ra 1 hF tk rfl fun a hF => ?_
   replace hS := hS.pull (p := 3) rfl; dsimp only [List.eraseIdx] at hS
   refine wl_call hF rfl rfl rfl (r_call1 en198 (hF.ev rfl)) (l6Entries_h hbs hS) ?_; clear hF a; rintro v w11 a ⟨⟨xs19, q19⟩, ⟨rfl, hx19, hn19⟩, hS⟩ hF
   try dsimp only at hz19
   refine ra 1 hF tk rfl fun a hF => ?_
   refine wl_store hF hS (i := 2) rfl sz40 (hF.ev rfl) (hF.ev rfl) rfl rfl fun w12 hS => ?_; dsimp only [List.set, Nat.reduceAdd] at hS
   refine wl_nil ?_
   try simp only [Exit.then, Exit.inBlock, ↓reduceIte]
   dsimp only at hx19 hn19
   exact ⟨xs19, q19, ⟨hx19, hn19⟩, Sep.headp (A := [_, _, _, _, _]) (B := [_, _, _, _]) hS [0, 2, 4, 1] (by decide) rfl rfl, (((hF.nil.keepE hF (t := 3) rfl rfl).keepE hF (t := 2) rfl rfl).keepE hF (t := 0) rfl rfl)⟩
  refine wp_skip ?_
  try simp only [Exit.then, Exit.inBlock, ↓reduceIte]
  replace hS := hS.own_nil entryEK
  exact ⟨[], (none, 0, 0), ⟨(fun _ h => by cases h), by simp⟩, Sep.headp (A := [_, _, _, _, _]) (B := [_, _, _, _]) hS [0, 1, 3, 4] (by decide) rfl rfl, (((hF.nil.keepE hF (t := 3) rfl rfl).keepE hF (t := 2) rfl rfl).keepE hF (t := 0) rfl rfl)⟩
 clear hF hS a; rintro a w13 ⟨bu, qb, ⟨hxb, hnb⟩, hS, hF⟩
 refine wp_cut (fun a w => ∃ (fr : List Int) (qf : Slv), ((∀ x ∈ fr, int64 x) ∧ fr.length ≤ 10) ∧ Sep W (Own intEK (sv qf) fr :: Own entryEK (sv qb) bu :: Box g2 [vi x6, vi o8.kind, vi o8.key, vi o8.value, vi 0, vi 0, vi x10, vi 0, vi 0, vi x12, vi 0, vi x14, vi 0, vi 0, .slice none 0 0, sv qf, sv qb, .slice none 0 0, .slice none 0 0] :: Box g1 [vi 0, vi 0, vi 0, vi 0, vi 0, vi 0, vi 0, vi 0, vi 0, vi 0, vi 0, vi 0, vi 0, vi 0, .slice none 0 0, .slice none 0 0, .slice none 0 0, .slice none 0 0, .slice none 0 0] :: Cur g vb bs.length :: l) w ∧ Fr 58 [(0, .pointer (some ⟨g, 0, none⟩)), (2, .pointer (some ⟨g1, 0, none⟩)), (3, .pointer (some ⟨g2, 0, none⟩))] a) ?_ ?_
 ·
  refine ws fun K4 hK4 => ?_
  refine ra 1 hF tk rfl fun a hF => ?_
  refine wl_call hF rfl rfl rfl (r_call2 en101 (hF.ev rfl) ec) (l1Once_c hbs (q := 3) _ hS rfl) ?_; clear hF a; rintro v w14 a ⟨⟨b22, rfl⟩, hS⟩ hF
  refine wl_nil (hK4 _ _ ?_)
  refine wc_fx (t := 22) hF rfl ?_ ?_ <;> clear hF <;> intro c22 hF <;> try simp only [zb] at c22
  ·
   refine wp_region_lit ?_
   refine ra 1 hF tk rfl fun a hF => ?_
   replace hS := hS.pull (p := 3) rfl; dsimp only [List.eraseIdx] at hS
   refine wl_call hF rfl rfl rfl (r_call1 en54 (hF.ev rfl)) (l6Stamps_h hbs hS) ?_; clear hF a; rintro v w15 a ⟨⟨xs24, q24⟩, ⟨rfl, hx24, hn24⟩, hS⟩ hF
   try dsimp only at hz24
   refine ra 1 hF tk rfl fun a hF => ?_
   refine wl_store hF hS (i := 3) rfl sz26 (hF.ev rfl) (hF.ev rfl) rfl rfl fun w16 hS => ?_; dsimp only [List.set, Nat.reduceAdd] at hS
   refine wl_nil ?_
   try simp only [Exit.then, Exit.inBlock, ↓reduceIte]
   dsimp only at hx24 hn24
   exact ⟨xs24, q24, ⟨hx24, hn24⟩, Sep.headp (A := [_, _, _, _, _]) (B := [_, _, _, _, _]) hS [0, 2, 3, 4, 1] (by decide) rfl rfl, (((hF.nil.keepE hF (t := 3) rfl rfl).keepE hF (t := 2) rfl rfl).keepE hF (t := 0) rfl rfl)⟩
  refine wp_skip ?_
  try simp only [Exit.then, Exit.inBlock, ↓reduceIte]
  replace hS := hS.own_nil intEK
  exact ⟨[], (none, 0, 0), ⟨(fun _ h => by cases h), by simp⟩, Sep.headp (A := [_, _, _, _, _]) (B := [_, _, _, _, _]) hS [0, 1, 2, 3, 4] (by decide) rfl rfl, (((hF.nil.keepE hF (t := 3) rfl rfl).keepE hF (t := 2) rfl rfl).keepE hF (t := 0) rfl rfl)⟩
 clear hF hS a; rintro a w17 ⟨fr, qf, ⟨hxf, hnf⟩, hS, hF⟩
 refine wp_cut (fun a w => ∃ (li : List Int) (qm : Slv), ((∀ x ∈ li, int64 x) ∧ li.length ≤ 10) ∧ Sep W (Own intEK (sv qm) li :: Own intEK (sv qf) fr :: Own entryEK (sv qb) bu :: Box g2 [vi x6, vi o8.kind, vi o8.key, vi o8.value, vi 0, vi 0, vi x10, vi 0, vi 0, vi x12, vi 0, vi x14, vi 0, vi 0, .slice none 0 0, sv qf, sv qb, .slice none 0 0, sv qm] :: Box g1 [vi 0, vi 0, vi 0, vi 0, vi 0, vi 0, vi 0, vi 0, vi 0, vi 0, vi 0, vi 0, vi 0, vi 0, .slice none 0 0, .slice none 0 0, .slice none 0 0, .slice none 0 0, .slice none 0 0] :: Cur g vb bs.length :: l) w ∧ Fr 58 [(0, .pointer (some ⟨g, 0, none⟩)), (2, .pointer (some ⟨g1, 0, none⟩)), (3, .pointer (some ⟨g2, 0, none⟩))] a) ?_ ?_
 ·
  refine ws fun K5 hK5 => ?_
  refine ra 1 hF tk rfl fun a hF => ?_
  refine wl_call hF rfl rfl rfl (r_call2 en101 (hF.ev rfl) ec) (l1Once_c hbs (q := 4) _ hS rfl) ?_; clear hF a; rintro v w18 a ⟨⟨b27, rfl⟩, hS⟩ hF
  refine wl_nil (hK5 _ _ ?_)
  refine wc_fx (t := 27) hF rfl ?_ ?_ <;> clear hF <;> intro c27 hF <;> try simp only [zb] at c27
  ·
   refine wp_region_lit ?_
   refine ra 1 hF tk rfl fun a hF => ?_
   replace hS := hS.pull (p := 4) rfl; dsimp only [List.eraseIdx] at hS
   refine wl_call hF rfl rfl rfl (r_call1 en54 (hF.ev rfl)) (l6Stamps_h hbs hS) ?_; clear hF a; rintro v w19 a ⟨⟨xs29, q29⟩, ⟨rfl, hx29, hn29⟩, hS⟩ hF
   try dsimp only at hz29
   refine ra 1 hF tk rfl fun a hF => ?_
   refine wl_store hF hS (i := 4) rfl sz26 (hF.ev rfl) (hF.ev rfl) rfl rfl fun w20 hS => ?_; dsimp only [List.set, Nat.reduceAdd] at hS
   refine wl_nil ?_
   try simp only [Exit.then, Exit.inBlock, ↓reduceIte]
   dsimp only at hx29 hn29
   exact ⟨xs29, q29, ⟨hx29, hn29⟩, Sep.headp (A := [_, _, _, _, _, _]) (B := [_, _, _, _, _, _]) hS [0, 2, 3, 4, 5, 1] (by decide) rfl rfl, (((hF.nil.keepE hF (t := 3) rfl rfl).keepE hF (t := 2) rfl rfl).keepE hF (t := 0) rfl rfl)⟩
  refine wp_skip ?_
  try simp only [Exit.then, Exit.inBlock, ↓reduceIte]
  replace hS := hS.own_nil intEK
  exact ⟨[], (none, 0, 0), ⟨(fun _ h => by cases h), by simp⟩, Sep.headp (A := [_, _, _, _, _, _]) (B := [_, _, _, _, _, _]) hS [0, 1, 2, 3, 4, 5] (by decide) rfl rfl, (((hF.nil.keepE hF (t := 3) rfl rfl).keepE hF (t := 2) rfl rfl).keepE hF (t := 0) rfl rfl)⟩
 clear hF hS a; rintro a w21 ⟨li, qm, ⟨hxm, hnm⟩, hS, hF⟩
 refine wp_seq_k fun K6 hK6 => ?_
 refine ws fun K7 hK7 => ?_
 refine ra 1 hF tk rfl fun a hF => ?_
 refine wl_call hF rfl rfl rfl (r_call2 en83 (hF.ev rfl) ec) (l1Below_c hbs (q := 5) _ hS rfl) ?_; clear hF a; rintro v w22 a ⟨⟨x32, rfl, h32⟩, hS⟩ hF
 refine wl_nil (hK7 _ _ ?_)
 refine wp_block ?_
 refine ws fun K8 hK8 => ?_
 refine ra 2 hF tk rfl fun a hF => ?_
 refine wl_nil (hK8 _ _ ?_)
 refine wc_fx (t := 33) hF rfl ?_ ?_ <;> clear hF <;> intro c33 hF <;> try simp only [zb] at c33
 ·
  refine wp_region_lit ?_
  refine ra 1 hF tk rfl fun a hF => ?_
  refine wl_bslice intEK [vi (-1), vi 6, vi 22, vi 81] [-1, 6, 22, 81] rfl hF hS rfl mk26 rfl ⟨rfl, ec, rfl, ec, rfl, ec, rfl, ec, trivial⟩ rfl rfl rfl rfl ?_; clear hF a; intro gl_36 w23 a hS_ hF; replace hS := hS_; clear hS_
  refine wl_call hF rfl rfl rfl (r_call2 en85 (hF.ev rfl) (hF.ev rfl)) (l1PickInt_c hbs (q := 6) (fun w_ hS => (hS.own_rd (i := 0) rfl)) (by decide) hS rfl) ?_; clear hF a; rintro v w24 a ⟨⟨x37, rfl, h37⟩, hS⟩ hF
  refine ra 1 hF tk rfl fun a hF => ?_
  refine wl_store hF hS (i := 4) rfl sz3 (hF.ev rfl) (hF.ev rfl) rfl rfl fun w25 hS => ?_; dsimp only [List.set, Nat.reduceAdd] at hS
  refine wl_nil ?_
  simp only [Exit.then, Exit.inBlock, ↓reduceIte]
  refine hK6 _ _ ?_
  refine ws fun K9 hK9 => ?_
  refine rb 1 4 hF tk hS rfl rfl rfl fun a hF => ?_
  refine wl_storew hF hS (i := 5) rfl (hF.ev rfl) (hF.ev rfl) sz42 rfl rfl fun w26 hS => ?_; dsimp only [List.set, Nat.reduceAdd] at hS
  refine wl_nil (hK9 _ _ ?_)
  refine wp_ret ?_
  try simp only [Exit.then, Exit.inBlock, ↓reduceIte]
  simp only [List.mem_cons, List.not_mem_nil, or_false] at h37
  have hT := hS
  replace hT := hT.own_nil entryEK
  replace hT := hT.own_nil intEK
  replace hT := Sep.headp (A := [_, _, _, _, _, _, _, _, _]) (B := [_, _, _, _, _, _]) hT [0, 4, 5, 1, 3, 8] (by decide) rfl rfl
  refine ret1c rfl ag42 hF hS (i := 5) rfl sz42 rfl ⟨((⟨x37, o8, ⟨0, 0⟩, x10, 0, 0, x12, 0, x14, 0, 0, [], fr, bu, [], li⟩ : Sl.Thread), [(none, 0, 0), qf, qb, (none, 0, 0), qm]), ⟨rfl, ⟨(by unfold int64; dsimp only; omega), ok_opwf h8, ⟨int64_zero, int64_zero⟩, (by unfold int64; dsimp only; omega), int64_zero, int64_zero, h12, int64_zero, (by unfold int64; dsimp only; omega), int64_zero, int64_zero, (fun _ h => by cases h), hxf, hxb, (fun _ h => by cases h), hxm⟩, ?_, by dsimp only; omega⟩, ?_⟩
  · unfold Sl.Thread.size; simp only [List.length_nil]; omega
  · exact Sep.part_mk (ek := threadEK) (x := (⟨x37, o8, ⟨0, 0⟩, x10, 0, 0, x12, 0, x14, 0, 0, [], fr, bu, [], li⟩ : Sl.Thread)) (vs := [(none, 0, 0), qf, qb, (none, 0, 0), qm]) hT rfl
 refine ws fun K10 hK10 => ?_
 refine ra 2 hF tk rfl fun a hF => ?_
 refine wl_nil (hK10 _ _ ?_)
 refine wc_fx (t := 39) hF rfl ?_ ?_ <;> clear hF <;> intro c39 hF <;> try simp only [zb] at c39
 ·
  refine wp_region_lit ?_
  refine ra 1 hF tk rfl fun a hF => ?_
  replace hS := hS.pull (p := 5) rfl; dsimp only [List.eraseIdx] at hS
  refine wl_call hF rfl rfl rfl (r_call1 en54 (hF.ev rfl)) (l6Stamps_h hbs hS) ?_; clear hF a; rintro v w27 a ⟨⟨xs42, q42⟩, ⟨rfl, hx42, hn42⟩, hS⟩ hF
  try dsimp only at hz42
  refine ra 1 hF tk rfl fun a hF => ?_
  refine wl_store hF hS (i := 5) rfl sz26 (hF.ev rfl) (hF.ev rfl) rfl rfl fun w28 hS => ?_; dsimp only [List.set, Nat.reduceAdd] at hS
  refine wl_nil ?_
  simp only [Exit.then, Exit.inBlock, ↓reduceIte]
  refine hK6 _ _ ?_
  refine ws fun K11 hK11 => ?_
  refine rb 1 5 hF tk hS rfl rfl rfl fun a hF => ?_
  refine wl_storew hF hS (i := 6) rfl (hF.ev rfl) (hF.ev rfl) sz42 rfl rfl fun w29 hS => ?_; dsimp only [List.set, Nat.reduceAdd] at hS
  refine wl_nil (hK11 _ _ ?_)
  refine wp_ret ?_
  try simp only [Exit.then, Exit.inBlock, ↓reduceIte]
  dsimp only at hx42 hn42
  have hT := hS
  replace hT := hT.own_nil entryEK
  replace hT := Sep.headp (A := [_, _, _, _, _, _, _, _]) (B := [_, _, _, _, _, _]) hT [1, 4, 5, 0, 3, 2] (by decide) rfl rfl
  refine ret1c rfl ag42 hF hS (i := 6) rfl sz42 rfl ⟨((⟨x6, o8, ⟨0, 0⟩, x10, 0, 0, x12, 0, x14, 0, 0, xs42, fr, bu, [], li⟩ : Sl.Thread), [q42, qf, qb, (none, 0, 0), qm]), ⟨rfl, ⟨(pcs_int h6), ok_opwf h8, ⟨int64_zero, int64_zero⟩, (by unfold int64; dsimp only; omega), int64_zero, int64_zero, h12, int64_zero, (by unfold int64; dsimp only; omega), int64_zero, int64_zero, hx42, hxf, hxb, (fun _ h => by cases h), hxm⟩, ?_, by dsimp only; omega⟩, ?_⟩
  · unfold Sl.Thread.size; simp only [List.length_nil]; omega
  · exact Sep.part_mk (ek := threadEK) (x := (⟨x6, o8, ⟨0, 0⟩, x10, 0, 0, x12, 0, x14, 0, 0, xs42, fr, bu, [], li⟩ : Sl.Thread)) (vs := [q42, qf, qb, (none, 0, 0), qm]) hT rfl
 refine ws fun K12 hK12 => ?_
 refine ra 2 hF tk rfl fun a hF => ?_
 refine wl_nil (hK12 _ _ ?_)
 refine wc_fx (t := 44) hF rfl ?_ ?_ <;> clear hF <;> intro c44 hF <;> try simp only [zb] at c44
 ·
  refine wp_region_lit ?_
  refine ra 1 hF tk rfl fun a hF => ?_
  replace hS := hS.pull (p := 5) rfl; dsimp only [List.eraseIdx] at hS
  refine wl_call hF rfl rfl rfl (r_call1 en198 (hF.ev rfl)) (l6Entries_h hbs hS) ?_; clear hF a; rintro v w30 a ⟨⟨xs47, q47⟩, ⟨rfl, hx47, hn47⟩, hS⟩ hF
  try dsimp only at hz47
  refine ra 1 hF tk rfl fun a hF => ?_
  refine wl_store hF hS (i := 5) rfl sz40 (hF.ev rfl) (hF.ev rfl) rfl rfl fun w31 hS => ?_; dsimp only [List.set, Nat.reduceAdd] at hS
  refine wl_nil ?_
  simp only [Exit.then, Exit.inBlock, ↓reduceIte]
  refine hK6 _ _ ?_
  refine ws fun K13 hK13 => ?_
  refine rb 1 5 hF tk hS rfl rfl rfl fun a hF => ?_
  refine wl_storew hF hS (i := 6) rfl (hF.ev rfl) (hF.ev rfl) sz42 rfl rfl fun w32 hS => ?_; dsimp only [List.set, Nat.reduceAdd] at hS
  refine wl_nil (hK13 _ _ ?_)
  refine wp_ret ?_
  try simp only [Exit.then, Exit.inBlock, ↓reduceIte]
  dsimp only at hx47 hn47
  have hT := hS
  replace hT := hT.own_nil intEK
  replace hT := Sep.headp (A := [_, _, _, _, _, _, _, _]) (B := [_, _, _, _, _, _]) hT [0, 4, 5, 1, 3, 2] (by decide) rfl rfl
  refine ret1c rfl ag42 hF hS (i := 6) rfl sz42 rfl ⟨((⟨x6, o8, ⟨0, 0⟩, x10, 0, 0, x12, 0, x14, 0, 0, [], fr, bu, xs47, li⟩ : Sl.Thread), [(none, 0, 0), qf, qb, q47, qm]), ⟨rfl, ⟨(pcs_int h6), ok_opwf h8, ⟨int64_zero, int64_zero⟩, (by unfold int64; dsimp only; omega), int64_zero, int64_zero, h12, int64_zero, (by unfold int64; dsimp only; omega), int64_zero, int64_zero, (fun _ h => by cases h), hxf, hxb, hx47, hxm⟩, ?_, by dsimp only; omega⟩, ?_⟩
  · unfold Sl.Thread.size; simp only [List.length_nil]; omega
  · exact Sep.part_mk (ek := threadEK) (x := (⟨x6, o8, ⟨0, 0⟩, x10, 0, 0, x12, 0, x14, 0, 0, [], fr, bu, xs47, li⟩ : Sl.Thread)) (vs := [(none, 0, 0), qf, qb, q47, qm]) hT rfl
 refine ws fun K14 hK14 => ?_
 refine ra 2 hF tk rfl fun a hF => ?_
 refine wl_nil (hK14 _ _ ?_)
 refine wc_fx (t := 49) hF rfl ?_ ?_ <;> clear hF <;> intro c49 hF <;> try simp only [zb] at c49
 ·
  refine wp_region_lit ?_
  refine ra 1 hF tk rfl fun a hF => ?_
  refine wl_call hF rfl rfl rfl (r_call2 en83 (hF.ev rfl) ec) (l1Below_c hbs (q := 5) _ hS rfl) ?_; clear hF a; rintro v w33 a ⟨⟨x52, rfl, h52⟩, hS⟩ hF
  refine ra 1 hF tk rfl fun a hF => ?_
  refine wl_call hF rfl rfl rfl (r_call2 en83 (hF.ev rfl) ec) (l1Below_c hbs (q := 5) _ hS rfl) ?_; clear hF a; rintro v w34 a ⟨⟨x54, rfl, h54⟩, hS⟩ hF
  refine wl hF rfl rfl rfl (r_build (bd39_0_1 _ _) ⟨rfl, (hF.ev rfl), rfl, (hF.ev rfl), trivial⟩) fun a hF => ?_
  refine ra 1 hF tk rfl fun a hF => ?_
  refine wl_storen (cs' := [_, _, _, _, _, _, _, _, _, _, _, _, _, _, _, _, _, _, _]) hF hS (i := 3) rfl (hF.ev rfl) (hF.ev rfl) sz39 ⟨rfl, rfl⟩ rfl rfl fun w35 hS => ?_; dsimp only [List.set] at hS
  refine wl_nil ?_
  simp only [Exit.then, Exit.inBlock, ↓reduceIte]
  refine hK6 _ _ ?_
  refine ws fun K15 hK15 => ?_
  refine rb 1 3 hF tk hS rfl rfl rfl fun a hF => ?_
  refine wl_storew hF hS (i := 4) rfl (hF.ev rfl) (hF.ev rfl) sz42 rfl rfl fun w36 hS => ?_; dsimp only [List.set, Nat.reduceAdd] at hS
  refine wl_nil (hK15 _ _ ?_)
  refine wp_ret ?_
  try simp only [Exit.then, Exit.inBlock, ↓reduceIte]
  have hT := hS
  replace hT := hT.own_nil entryEK
  replace hT := hT.own_nil intEK
  replace hT := Sep.headp (A := [_, _, _, _, _, _, _, _]) (B := [_, _, _, _, _, _]) hT [0, 3, 4, 1, 2, 7] (by decide) rfl rfl
  refine ret1c rfl ag42 hF hS (i := 4) rfl sz42 rfl ⟨((⟨x6, o8, ⟨x52, x54⟩, x10, 0, 0, x12, 0, x14, 0, 0, [], fr, bu, [], li⟩ : Sl.Thread), [(none, 0, 0), qf, qb, (none, 0, 0), qm]), ⟨rfl, ⟨(pcs_int h6), ok_opwf h8, ⟨by unfold int64; dsimp only; omega, by unfold int64; dsimp only; omega⟩, (by unfold int64; dsimp only; omega), int64_zero, int64_zero, h12, int64_zero, (by unfold int64; dsimp only; omega), int64_zero, int64_zero, (fun _ h => by cases h), hxf, hxb, (fun _ h => by cases h), hxm⟩, ?_, by dsimp only; omega⟩, ?_⟩
  · unfold Sl.Thread.size; simp only [List.length_nil]; omega
  · exact Sep.part_mk (ek := threadEK) (x := (⟨x6, o8, ⟨x52, x54⟩, x10, 0, 0, x12, 0, x14, 0, 0, [], fr, bu, [], li⟩ : Sl.Thread)) (vs := [(none, 0, 0), qf, qb, (none, 0, 0), qm]) hT rfl
 refine wp_skip ?_
 simp only [Exit.then, Exit.inBlock, ↓reduceIte]
 refine hK6 _ _ ?_
 refine ws fun K16 hK16 => ?_
 refine rb 1 3 hF tk hS rfl rfl rfl fun a hF => ?_
 refine wl_storew hF hS (i := 4) rfl (hF.ev rfl) (hF.ev rfl) sz42 rfl rfl fun w37 hS => ?_; dsimp only [List.set, Nat.reduceAdd] at hS
 refine wl_nil (hK16 _ _ ?_)
 refine wp_ret ?_
 try simp only [Exit.then, Exit.inBlock, ↓reduceIte]
 have hT := hS
 replace hT := hT.own_nil entryEK
 replace hT := hT.own_nil intEK
 replace hT := Sep.headp (A := [_, _, _, _, _, _, _, _]) (B := [_, _, _, _, _, _]) hT [0, 3, 4, 1, 2, 7] (by decide) rfl rfl
 refine ret1c rfl ag42 hF hS (i := 4) rfl sz42 rfl ⟨((⟨x6, o8, ⟨0, 0⟩, x10, 0, 0, x12, 0, x14, 0, 0, [], fr, bu, [], li⟩ : Sl.Thread), [(none, 0, 0), qf, qb, (none, 0, 0), qm]), ⟨rfl, ⟨(pcs_int h6), ok_opwf h8, ⟨int64_zero, int64_zero⟩, (by unfold int64; dsimp only; omega), int64_zero, int64_zero, h12, int64_zero, (by unfold int64; dsimp only; omega), int64_zero, int64_zero, (fun _ h => by cases h), hxf, hxb, (fun _ h => by cases h), hxm⟩, ?_, by dsimp only; omega⟩, ?_⟩
 · unfold Sl.Thread.size; simp only [List.length_nil]; omega
 · exact Sep.part_mk (ek := threadEK) (x := (⟨x6, o8, ⟨0, 0⟩, x10, 0, 0, x12, 0, x14, 0, 0, [], fr, bu, [], li⟩ : Sl.Thread)) (vs := [(none, 0, 0), qf, qb, (none, 0, 0), qm]) hT rfl
end Go.Proofs.YtgofolgogfmhgaaGreat.Wk
namespace Go.Proofs.YtgofolgogfmhgaaGreat.Wk
open Go Go.RowKit Sl
theorem en10 : enterB Tryz.prog 10 = true := by kernel_rfl
theorem en158 : enterB Tryz.prog 158 = true := by kernel_rfl
theorem en159 : enterB Tryz.prog 159 = true := by kernel_rfl
theorem en160 : enterB Tryz.prog 160 = true := by kernel_rfl
end Go.Proofs.YtgofolgogfmhgaaGreat.Wk
namespace Go.Proofs.YtgofolgogfmhgaaGreat.Wk
open Go Go.RowKit Sl
set_option linter.unusedVariables false
set_option linter.unusedSimpArgs false
set_option maxRecDepth 20000
theorem stateK_of {w : World} {s : Sl.State} {v0 v1 v2 : Value} (h0 : intEK.Rd w v0 s.cells) (h1 : intEK.Rd w v1 s.generations) (h2 : threadEK.Rd w v2 s.threads) : stateEK.K w s (s.encv v0 v1 v2) := ⟨_, _, _, rfl, h0, h1, h2⟩
set_option maxHeartbeats 4000000 in
set_option maxRecDepth 20000 in
theorem l18Run_h {W : World} {g : Nat} {vb : Value} {bs : List Int} (hbs : byteEK.Rd W vb bs) {l : List Res} {w : World} {most : Int} (hm : most ≤ 1000) (hS : Sep W (Cur g vb bs.length :: l) w) : Calls Tryz.prog 100 #[.pointer (some ⟨g, 0, none⟩), vi most] w (Ret fun v w' => ∃ z : Sl.State × List Slv, (v = .agg (stateEK.cells z.1 z.2).toArray ∧ Good z.1) ∧ Sep W (Part stateEK z.1 z.2 :: Cur g vb bs.length :: l) w') := by
 refine calls_fr Tryz.func100 rfl Tryz.ntmps100 rfl ?_
 intro a hF
 refine ws fun K1 hK1 => ?_
 refine wl_alloc hF hS rfl zr29 ?_; clear hF a; intro g1 w1 a hS_ hB_ hF; replace hS := hS_; clear hS_ hB_
 refine wl_nil (hK1 _ _ ?_)
 refine ws fun K2 hK2 => ?_
 refine ra 1 hF tk rfl fun a hF => ?_
 refine wl_call hF rfl rfl rfl (r_call1 en159 (hF.ev rfl)) (l3Config_c hbs (q := 1) hS rfl) ?_; clear hF a; rintro v w2 a ⟨⟨c13, rfl, h13⟩, hS⟩ hF
 refine wl_mk hF hS rfl rfl rfl (r_call1 en158 (hF.ev rfl)) (specNewState_c _) ?_; clear hF a; rintro vs14 w3 a hS_ hF; replace hS := hS_; clear hS_; dsimp only [List.cons_append, List.nil_append] at hS
 refine wl_alloc hF hS rfl zr29 ?_; clear hF a; intro g2 w4 a hS_ hB_ hF; replace hS := hS_; clear hS_ hB_
 refine wl_storew hF hS (i := 0) rfl (hF.ev rfl) (hF.ev rfl) sz29 rfl rfl fun w5 hS => ?_; dsimp only [List.set, Nat.reduceAdd] at hS
 refine wl_nil (hK2 _ _ ?_)
 refine wp_seq_k fun K3 hK3 => ?_
 refine ws fun K4 hK4 => ?_
 refine ra 2 hF tk rfl fun a hF => ?_
 refine wl_call hF rfl rfl rfl (r_call2 en83 (hF.ev rfl) (hF.ev rfl)) (l1Below_c hbs (q := 3) _ hS rfl) ?_; clear hF a; rintro v w6 a ⟨⟨x17, rfl, h17⟩, hS⟩ hF
 refine ra 1 hF tk rfl fun a hF => ?_
 refine wl_nil (hK4 _ _ ?_)
 refine wp_block ?_
 replace hS := hS.pull (p := 1) rfl; dsimp only [List.eraseIdx] at hS
 replace hS := hS.pull (p := 1) rfl; dsimp only [List.eraseIdx] at hS
 have hL_ := (((hF.nil.keep hF (t := 5) rfl).keep hF (t := 4) rfl).keep hF (t := 0) rfl)
 refine wp_loop_m (σ := Int × Sl.State × List Slv) (fun z L_ => (6, vi z.1) :: L_) (fun z l_ => (Box g2 (stateEK.cells z.2.1 z.2.2)) :: (Part stateEK z.2.1 z.2.2) :: l_) (fun z => (Good z.2.1) ∧ (0 ≤ z.1 ∧ z.1 ≤ 1000)) (fun z => z.1.toNat) (x17, newState c13, vs14) (hS) (hL_.keepE hF (t := 6) rfl rfl) ?_ ?_
 · exact ⟨good_new h13, by dsimp only; omega⟩
 clear hF hS hL_ a
 rintro ⟨n, x, vs⟩ a w7 ⟨hgx, hn⟩ hS hF; try dsimp only at hF; try dsimp only at hS; try dsimp only at hgx; try dsimp only at hn
 refine wp_seq_k fun K5 hK5 => ?_
 refine ws fun K6 hK6 => ?_
 refine ra 2 hF tk rfl fun a hF => ?_
 refine wl_nil (hK6 _ _ ?_)
 refine wc_fx (t := 19) hF rfl ?_ ?_ <;> clear hF <;> intro c19 hF <;> try simp only [zb] at c19
 ·
  obtain ⟨ho_, hc_, hgl_, ht_⟩ := hgx.sh
  have hb_ := ho_; unfold Config.ok at hb_
  have hz_ := hgx.sz
  replace hS := hS.pull (p := 1) rfl; dsimp only [List.eraseIdx] at hS
  replace hS : Sep W (Own intEK (sv (vs.getD 0 (none, 0, 0))) (x).cells :: Own intEK (sv (vs.getD 1 (none, 0, 0))) (x).generations :: Own threadEK (sv (vs.getD 2 (none, 0, 0))) (x).threads :: _) _ := hS.part_open
  dsimp only [stateEK] at hS
  generalize vs.getD 0 (none, 0, 0) = z0 at hS
  generalize vs.getD 1 (none, 0, 0) = z1 at hS
  generalize vs.getD 2 (none, 0, 0) = z2 at hS
  have hl0_ := hS.own_len (q := 0) rfl
  have hl1_ := hS.own_len (q := 1) rfl
  have hl2_ := hS.own_len (q := 2) rfl
  refine wp_skip ?_
  refine hK5 _ _ ?_
  refine wp_seq_k fun K7 hK7 => ?_
  refine wp_block ?_
  refine ws fun K8 hK8 => ?_
  refine rb 4 3 hF tk hS rfl rfl rfl fun a hF => ?_
  refine wl_call hF rfl rfl rfl (r_call2 en83 (hF.ev rfl) (hF.ev rfl)) (l1Below_c hbs (q := 5) _ hS rfl) ?_; clear hF a; rintro v w8 a ⟨⟨x26, rfl, h26⟩, hS⟩ hF
  refine ra 1 hF tk rfl fun a hF => ?_
  refine wl_nil (hK8 _ _ ?_)
  refine wp_seq_k fun K9 hK9 => ?_
  refine ws fun K10 hK10 => ?_
  refine rb 3 3 hF tk hS rfl rfl rfl fun a hF => ?_
  obtain ⟨g30, o30, m30, q30, cs30, hv30, hm30, hl30, hk30, hz30, hc30⟩ := Rd.at ((hS.own_rd (i := 2) rfl)) (a := a) (X := .tmp 29) (hF.ev rfl) (by omega) (by omega)
  have hkk30 := hk30; obtain ⟨v30_0, v30_1, v30_2, v30_3, v30_4, rfl, r30_0, r30_1, r30_2, r30_3, r30_4⟩ := hk30
  refine wl hF rfl rfl rfl (r_index sl27 ((hF.ev rfl).trans hv30) (hF.ev rfl) (by omega) (by first | omega | (simp at hm30; omega))) fun a hF => ?_
  refine ra 1 hF tk rfl fun a hF => ?_
  refine wl hF rfl rfl rfl (r_load1 sc3 (hF.ev rfl) (hc30 0 _ rfl)) fun a hF => ?_
  refine ra 1 hF tk rfl fun a hF => ?_
  refine wl_nil (hK10 _ _ ?_)
  refine wc_fx (t := 33) hF rfl ?_ ?_ <;> clear hF <;> intro c33 hF <;> try simp only [zb] at c33
  ·
   refine wp_seq_k fun K11 hK11 => ?_
   refine wp_region_todo (is := [1, 2, 3, 4, 5, 6, 0, 7, 8, 9, 10, 12, 13]) [(11, 8, [.int .i64 0, .int .i64 0, .int .i64 0, .int .i64 0, .int .i64 0, .int .i64 0, .slice none 0 0, .slice none 0 0, .slice none 0 0, .int .i64 0, .int .i64 0, .int .i64 0, .int .i64 0])] [6, 12, 13] (by kernel_rfl) hF hS ⟨⟨⟨_, _, _, rfl, zr29⟩, trivial⟩, by decide, by decide, by decide⟩ (by kernel_rfl) ?_; clear hF; intro hl_ wd hSd
   refine todo_pure hl_ (by kernel_rfl) rfl (gw0 rfl) rfl rfl rfl (fun a w_ hF => r_move (hF.ev rfl)) ?_
   refine todo_pure hl_ (by kernel_rfl) rfl (gw0 rfl) rfl rfl rfl (fun a w_ hF => r_move (hF.ev rfl)) ?_
   refine todo_pure hl_ (by kernel_rfl) rfl (gw0 rfl) rfl rfl rfl (fun a w_ hF => r_field fo29_0 (hF.ev rfl)) ?_
   refine todo_pure hl_ (by kernel_rfl) rfl (gw0 rfl) rfl rfl rfl (fun a w_ hF => r_field fo25_1 (hF.ev rfl)) ?_
   refine todo_load [6, 7, 8, 9, 10, 12, 13] hl_ (by kernel_rfl) rfl (gw0 rfl) rfl rfl rfl (fun a w_ hF hB_ => r_load1 sc3 (hF.ev rfl) ((hSd.ext hB_).box (i := 3) rfl rfl)) ?_
   refine todo_fork [(6, [0, 7, 8, 9, 10, 12, 13]), (0, [6, 7, 8, 9, 10, 12, 13])] hl_ rfl (by kernel_rfl) (List.forall_mem_cons.2 ⟨?_, List.forall_mem_cons.2 ⟨?_, fun _ h_ => nomatch h_⟩⟩)
   ·
    refine op_dw (m' := [12, 13]) (val := fun o : Sl.Op => .agg o.enc.toArray) (R := fun o => o.ok) rfl rfl (gw0 rfl) rfl rfl rfl rfl (fun a w_ hF => r_call2 en84 (hF.ev rfl) (hF.ev rfl)) (fun M_ w_ hS => l5Op_c hbs (q := 6) (by omega) hS rfl) ?_; intro o41 h41; try clear hSd; try clear wd; intro wd hSd
    refine todo_load [7, 8, 9, 10, 12, 13] hl_ (by kernel_rfl) rfl (gw0 rfl) rfl rfl rfl (fun a w_ hF hB_ => r_loadn ag29 (hF.ev rfl) ((hSd.ext hB_).box_rd (i := 3) rfl) sz29) ?_
    refine todo_mk hl_ rfl (by kernel_rfl) rfl rfl rfl rfl rfl (fun a w_ hF => r_call3 en10 (hF.ev rfl) (hF.ev rfl) (hF.ev rfl)) (fun w_ hS => specStartOp_c (stateK_of (hS.own_rd (i := 0) rfl) (hS.own_rd (i := 1) rfl) (hS.own_rd (i := 2) rfl)) hgx.wf (by omega) (by unfold int64; omega)) ?_; rintro vs42
    refine todo_pure hl_ (by kernel_rfl) rfl (gw0 rfl) rfl rfl rfl (fun a w_ hF => r_move (hF.ev rfl)) ?_
    refine todo_pure hl_ (by kernel_rfl) rfl (gw0 rfl) rfl rfl rfl (fun a w_ hF => r_extract (hF.ev rfl) rfl) ?_
    refine todo_pure hl_ (by kernel_rfl) rfl (gw0 rfl) rfl rfl rfl (fun a w_ hF => r_extract (hF.ev rfl) rfl) ?_
    refine todo_fin hl_ rfl (by kernel_rfl) (tl := [_, _]) rfl ?_; clear hS a; intro a w9 hF hA_
    obtain ⟨g3, hS, he_0⟩ := hA_.open1; clear hA_
    replace hF := hF.more he_0; clear he_0
    clear hl_; try clear hSd
    try dsimp only [List.cons_append, List.nil_append, List.set] at hS
    try clear wd
    refine wl_storew hF hS (i := 0) rfl (hF.ev rfl) (hF.ev rfl) sz29 rfl rfl fun w10 hS => ?_; dsimp only [List.set, Nat.reduceAdd] at hS
    refine ra 1 hF tk rfl fun a hF => ?_
    refine wl_nil ⟨rfl, ?_⟩
    refine hK11 _ _ ?_
    refine wp_region_lit ?_
    refine rb 1 0 hF tk hS rfl rfl rfl fun a hF => ?_
    refine wl_storew hF hS (i := 5) rfl (hF.ev rfl) (hF.ev rfl) sz29 rfl rfl fun w11 hS => ?_; dsimp only [List.set, Nat.reduceAdd] at hS
    refine wl_nil (hK9 _ _ ?_)
    refine wp_seq_k fun K12 hK12 => ?_
    refine wp_region_todo (is := [1, 2, 3, 0, 4, 5, 6, 7, 8, 10, 11]) [(9, 10, [.int .i64 0, .int .i64 0, .int .i64 0, .int .i64 0, .int .i64 0, .int .i64 0, .slice none 0 0, .slice none 0 0, .slice none 0 0, .int .i64 0, .int .i64 0, .int .i64 0, .int .i64 0])] [3, 10, 11] (by kernel_rfl) hF hS ⟨⟨⟨_, _, _, rfl, zr29⟩, trivial⟩, by decide, by decide, by decide⟩ (by kernel_rfl) ?_; clear hF; intro hl_ wd hSd
    refine todo_pure hl_ (by kernel_rfl) rfl (gw0 rfl) rfl rfl rfl (fun a w_ hF => r_move (hF.ev rfl)) ?_
    refine todo_pure hl_ (by kernel_rfl) rfl (gw0 rfl) rfl rfl rfl (fun a w_ hF => r_move (hF.ev rfl)) ?_
    refine todo_fork [(3, [0, 4, 5, 6, 7, 8, 10, 11]), (0, [3, 4, 5, 6, 7, 8, 10, 11])] hl_ rfl (by kernel_rfl) (List.forall_mem_cons.2 ⟨?_, List.forall_mem_cons.2 ⟨?_, fun _ h_ => nomatch h_⟩⟩)
    ·
     refine op_dw (m' := [10, 11]) (val := fun x : Int => vi x) (R := fun x => 0 ≤ x ∧ (x < 12 ∨ (12 ≤ 0 ∧ x = 0))) rfl rfl (gw0 rfl) rfl rfl rfl rfl (fun a w_ hF => r_call2 en83 (hF.ev rfl) ec) (fun M_ w_ hS => l1Below_c hbs (q := 8) _ hS rfl) ?_; intro x50 h50; try clear hSd; try clear wd; intro wd hSd
     refine todo_load [5, 6, 7, 8, 10, 11] hl_ (by kernel_rfl) rfl (gw0 rfl) rfl rfl rfl (fun a w_ hF hB_ => r_loadn ag29 (hF.ev rfl) ((hSd.ext hB_).box_rd (i := 5) rfl) sz29) ?_
     refine todo_pure hl_ (by kernel_rfl) rfl (gw0 rfl) rfl rfl rfl (fun a w_ hF => r_add ec (hF.ev rfl)) ?_
     refine todo_mk hl_ rfl (by kernel_rfl) rfl rfl rfl rfl rfl (fun a w_ hF => r_call3 en160 (hF.ev rfl) (hF.ev rfl) (hF.ev rfl)) (fun w_ hS => specStepMany_c (hS.part_k (i := 1) rfl) (by first | exact good_start hgx (ok_opwf h41) | exact hgx) (by unfold int64; omega)) ?_; rintro ⟨⟨x52, vs52, k52⟩, hg52⟩
     refine todo_pure hl_ (by kernel_rfl) rfl (gw0 rfl) rfl rfl rfl (fun a w_ hF => r_move (hF.ev rfl)) ?_
     refine todo_pure hl_ (by kernel_rfl) rfl (gw0 rfl) rfl rfl rfl (fun a w_ hF => r_extract (hF.ev rfl) rfl) ?_
     refine todo_pure hl_ (by kernel_rfl) rfl (gw0 rfl) rfl rfl rfl (fun a w_ hF => r_extract (hF.ev rfl) rfl) ?_
     refine todo_fin hl_ rfl (by kernel_rfl) (tl := [_, _]) rfl ?_; clear hS a; intro a w12 hF hA_
     obtain ⟨g4, hS, he_0⟩ := hA_.open1; clear hA_
     replace hF := hF.more he_0; clear he_0
     clear hl_; try clear hSd
     try dsimp only [List.cons_append, List.nil_append, List.set] at hS
     try clear wd
     refine wl_storew hF hS (i := 0) rfl (hF.ev rfl) (hF.ev rfl) sz29 rfl rfl fun w13 hS => ?_; dsimp only [List.set, Nat.reduceAdd] at hS
     refine ra 1 hF tk rfl fun a hF => ?_
     refine wl_nil ⟨rfl, ?_⟩
     refine hK12 _ _ ?_
     refine wp_region_lit ?_
     refine rb 1 0 hF tk hS rfl rfl rfl fun a hF => ?_
     refine wl_storew hF hS (i := 7) rfl (hF.ev rfl) (hF.ev rfl) sz29 rfl rfl fun w14 hS => ?_; dsimp only [List.set, Nat.reduceAdd] at hS
     refine wl_nil ?_
     simp only [Exit.then, Exit.inBlock, ↓reduceIte]
     refine hK7 _ _ ?_
     refine wp_region_lit ?_
     refine ra 3 hF tk rfl fun a hF => ?_
     refine wl_nil ?_
     try simp only [Exit.then, Exit.inBlock, ↓reduceIte]
     refine ⟨(n - 1, _, _), ⟨hg52, by dsimp only; omega⟩, (Sep.headp (A := [_, _, _, _, _, _, _, _, _, _]) (B := [_, _, _, _]) hS [7, 1, 8, 9] (by decide) rfl rfl), ((((hF.nil.keep hF (t := 5) rfl).keep hF (t := 4) rfl).keep hF (t := 0) rfl).keepE hF (t := 6) rfl (congrArg vi (w64_id (by omega) (by omega)))), by dsimp only; omega⟩
    ·
     refine op_ld rfl rfl (gw0 rfl) rfl rfl rfl (fun a w_ hF hS => r_loadn ag29 (hF.ev rfl) (hS.box_rd (i := 5) rfl) sz29) ?_
     refine todo_fork [(3, [4, 5, 6, 7, 8, 10, 11])] hl_ rfl (by kernel_rfl) (List.forall_mem_cons.2 ⟨?_, fun _ h_ => nomatch h_⟩)
     ·
      refine op_dw (m' := [10, 11]) (val := fun x : Int => vi x) (R := fun x => 0 ≤ x ∧ (x < 12 ∨ (12 ≤ 0 ∧ x = 0))) rfl rfl (gw0 rfl) rfl rfl rfl rfl (fun a w_ hF => r_call2 en83 (hF.ev rfl) ec) (fun M_ w_ hS => l1Below_c hbs (q := 8) _ hS rfl) ?_; intro x50 h50; try clear hSd; try clear wd; intro wd hSd
      refine todo_pure hl_ (by kernel_rfl) rfl (gw0 rfl) rfl rfl rfl (fun a w_ hF => r_add ec (hF.ev rfl)) ?_
      refine todo_mk hl_ rfl (by kernel_rfl) rfl rfl rfl rfl rfl (fun a w_ hF => r_call3 en160 (hF.ev rfl) (hF.ev rfl) (hF.ev rfl)) (fun w_ hS => specStepMany_c (hS.part_k (i := 1) rfl) (by first | exact good_start hgx (ok_opwf h41) | exact hgx) (by unfold int64; omega)) ?_; rintro ⟨⟨x52, vs52, k52⟩, hg52⟩
      refine todo_pure hl_ (by kernel_rfl) rfl (gw0 rfl) rfl rfl rfl (fun a w_ hF => r_move (hF.ev rfl)) ?_
      refine todo_pure hl_ (by kernel_rfl) rfl (gw0 rfl) rfl rfl rfl (fun a w_ hF => r_extract (hF.ev rfl) rfl) ?_
      refine todo_pure hl_ (by kernel_rfl) rfl (gw0 rfl) rfl rfl rfl (fun a w_ hF => r_extract (hF.ev rfl) rfl) ?_
      refine todo_fin hl_ rfl (by kernel_rfl) (tl := [_, _]) rfl ?_; clear hS a; intro a w15 hF hA_
      obtain ⟨g4, hS, he_0⟩ := hA_.open1; clear hA_
      replace hF := hF.more he_0; clear he_0
      clear hl_; try clear hSd
      try dsimp only [List.cons_append, List.nil_append, List.set] at hS
      try clear wd
      refine wl_storew hF hS (i := 0) rfl (hF.ev rfl) (hF.ev rfl) sz29 rfl rfl fun w16 hS => ?_; dsimp only [List.set, Nat.reduceAdd] at hS
      refine ra 1 hF tk rfl fun a hF => ?_
      refine wl_nil ⟨rfl, ?_⟩
      refine hK12 _ _ ?_
      refine wp_region_lit ?_
      refine rb 1 0 hF tk hS rfl rfl rfl fun a hF => ?_
      refine wl_storew hF hS (i := 7) rfl (hF.ev rfl) (hF.ev rfl) sz29 rfl rfl fun w17 hS => ?_; dsimp only [List.set, Nat.reduceAdd] at hS
      refine wl_nil ?_
      simp only [Exit.then, Exit.inBlock, ↓reduceIte]
      refine hK7 _ _ ?_
      refine wp_region_lit ?_
      refine ra 3 hF tk rfl fun a hF => ?_
      refine wl_nil ?_
      try simp only [Exit.then, Exit.inBlock, ↓reduceIte]
      refine ⟨(n - 1, _, _), ⟨hg52, by dsimp only; omega⟩, (Sep.headp (A := [_, _, _, _, _, _, _, _, _, _]) (B := [_, _, _, _]) hS [7, 1, 8, 9] (by decide) rfl rfl), ((((hF.nil.keep hF (t := 5) rfl).keep hF (t := 4) rfl).keep hF (t := 0) rfl).keepE hF (t := 6) rfl (congrArg vi (w64_id (by omega) (by omega)))), by dsimp only; omega⟩
   ·
    refine op_ld rfl rfl (gw0 rfl) rfl rfl rfl (fun a w_ hF hS => r_loadn ag29 (hF.ev rfl) (hS.box_rd (i := 3) rfl) sz29) ?_
    refine todo_fork [(6, [7, 8, 9, 10, 12, 13])] hl_ rfl (by kernel_rfl) (List.forall_mem_cons.2 ⟨?_, fun _ h_ => nomatch h_⟩)
    ·
     refine op_dw (m' := [12, 13]) (val := fun o : Sl.Op => .agg o.enc.toArray) (R := fun o => o.ok) rfl rfl (gw0 rfl) rfl rfl rfl rfl (fun a w_ hF => r_call2 en84 (hF.ev rfl) (hF.ev rfl)) (fun M_ w_ hS => l5Op_c hbs (q := 6) (by omega) hS rfl) ?_; intro o41 h41; try clear hSd; try clear wd; intro wd hSd
     refine todo_mk hl_ rfl (by kernel_rfl) rfl rfl rfl rfl rfl (fun a w_ hF => r_call3 en10 (hF.ev rfl) (hF.ev rfl) (hF.ev rfl)) (fun w_ hS => specStartOp_c (stateK_of (hS.own_rd (i := 0) rfl) (hS.own_rd (i := 1) rfl) (hS.own_rd (i := 2) rfl)) hgx.wf (by omega) (by unfold int64; omega)) ?_; rintro vs42
     refine todo_pure hl_ (by kernel_rfl) rfl (gw0 rfl) rfl rfl rfl (fun a w_ hF => r_move (hF.ev rfl)) ?_
     refine todo_pure hl_ (by kernel_rfl) rfl (gw0 rfl) rfl rfl rfl (fun a w_ hF => r_extract (hF.ev rfl) rfl) ?_
     refine todo_pure hl_ (by kernel_rfl) rfl (gw0 rfl) rfl rfl rfl (fun a w_ hF => r_extract (hF.ev rfl) rfl) ?_
     refine todo_fin hl_ rfl (by kernel_rfl) (tl := [_, _]) rfl ?_; clear hS a; intro a w18 hF hA_
     obtain ⟨g3, hS, he_0⟩ := hA_.open1; clear hA_
     replace hF := hF.more he_0; clear he_0
     clear hl_; try clear hSd
     try dsimp only [List.cons_append, List.nil_append, List.set] at hS
     try clear wd
     refine wl_storew hF hS (i := 0) rfl (hF.ev rfl) (hF.ev rfl) sz29 rfl rfl fun w19 hS => ?_; dsimp only [List.set, Nat.reduceAdd] at hS
     refine ra 1 hF tk rfl fun a hF => ?_
     refine wl_nil ⟨rfl, ?_⟩
     refine hK11 _ _ ?_
     refine wp_region_lit ?_
     refine rb 1 0 hF tk hS rfl rfl rfl fun a hF => ?_
     refine wl_storew hF hS (i := 5) rfl (hF.ev rfl) (hF.ev rfl) sz29 rfl rfl fun w20 hS => ?_; dsimp only [List.set, Nat.reduceAdd] at hS
     refine wl_nil (hK9 _ _ ?_)
     refine wp_seq_k fun K13 hK13 => ?_
     refine wp_region_todo (is := [1, 2, 3, 0, 4, 5, 6, 7, 8, 10, 11]) [(9, 10, [.int .i64 0, .int .i64 0, .int .i64 0, .int .i64 0, .int .i64 0, .int .i64 0, .slice none 0 0, .slice none 0 0, .slice none 0 0, .int .i64 0, .int .i64 0, .int .i64 0, .int .i64 0])] [3, 10, 11] (by kernel_rfl) hF hS ⟨⟨⟨_, _, _, rfl, zr29⟩, trivial⟩, by decide, by decide, by decide⟩ (by kernel_rfl) ?_; clear hF; intro hl_ wd hSd
     refine todo_pure hl_ (by kernel_rfl) rfl (gw0 rfl) rfl rfl rfl (fun a w_ hF => r_move (hF.ev rfl)) ?_
     refine todo_pure hl_ (by kernel_rfl) rfl (gw0 rfl) rfl rfl rfl (fun a w_ hF => r_move (hF.ev rfl)) ?_
     refine todo_fork [(3, [0, 4, 5, 6, 7, 8, 10, 11]), (0, [3, 4, 5, 6, 7, 8, 10, 11])] hl_ rfl (by kernel_rfl) (List.forall_mem_cons.2 ⟨?_, List.forall_mem_cons.2 ⟨?_, fun _ h_ => nomatch h_⟩⟩)
     ·
      refine op_dw (m' := [10, 11]) (val := fun x : Int => vi x) (R := fun x => 0 ≤ x ∧ (x < 12 ∨ (12 ≤ 0 ∧ x = 0))) rfl rfl (gw0 rfl) rfl rfl rfl rfl (fun a w_ hF => r_call2 en83 (hF.ev rfl) ec) (fun M_ w_ hS => l1Below_c hbs (q := 8) _ hS rfl) ?_; intro x50 h50; try clear hSd; try clear wd; intro wd hSd
      refine todo_load [5, 6, 7, 8, 10, 11] hl_ (by kernel_rfl) rfl (gw0 rfl) rfl rfl rfl (fun a w_ hF hB_ => r_loadn ag29 (hF.ev rfl) ((hSd.ext hB_).box_rd (i := 5) rfl) sz29) ?_
      refine todo_pure hl_ (by kernel_rfl) rfl (gw0 rfl) rfl rfl rfl (fun a w_ hF => r_add ec (hF.ev rfl)) ?_
      refine todo_mk hl_ rfl (by kernel_rfl) rfl rfl rfl rfl rfl (fun a w_ hF => r_call3 en160 (hF.ev rfl) (hF.ev rfl) (hF.ev rfl)) (fun w_ hS => specStepMany_c (hS.part_k (i := 1) rfl) (by first | exact good_start hgx (ok_opwf h41) | exact hgx) (by unfold int64; omega)) ?_; rintro ⟨⟨x52, vs52, k52⟩, hg52⟩
      refine todo_pure hl_ (by kernel_rfl) rfl (gw0 rfl) rfl rfl rfl (fun a w_ hF => r_move (hF.ev rfl)) ?_
      refine todo_pure hl_ (by kernel_rfl) rfl (gw0 rfl) rfl rfl rfl (fun a w_ hF => r_extract (hF.ev rfl) rfl) ?_
      refine todo_pure hl_ (by kernel_rfl) rfl (gw0 rfl) rfl rfl rfl (fun a w_ hF => r_extract (hF.ev rfl) rfl) ?_
      refine todo_fin hl_ rfl (by kernel_rfl) (tl := [_, _]) rfl ?_; clear hS a; intro a w21 hF hA_
      obtain ⟨g4, hS, he_0⟩ := hA_.open1; clear hA_
      replace hF := hF.more he_0; clear he_0
      clear hl_; try clear hSd
      try dsimp only [List.cons_append, List.nil_append, List.set] at hS
      try clear wd
      refine wl_storew hF hS (i := 0) rfl (hF.ev rfl) (hF.ev rfl) sz29 rfl rfl fun w22 hS => ?_; dsimp only [List.set, Nat.reduceAdd] at hS
      refine ra 1 hF tk rfl fun a hF => ?_
      refine wl_nil ⟨rfl, ?_⟩
      refine hK13 _ _ ?_
      refine wp_region_lit ?_
      refine rb 1 0 hF tk hS rfl rfl rfl fun a hF => ?_
      refine wl_storew hF hS (i := 7) rfl (hF.ev rfl) (hF.ev rfl) sz29 rfl rfl fun w23 hS => ?_; dsimp only [List.set, Nat.reduceAdd] at hS
      refine wl_nil ?_
      simp only [Exit.then, Exit.inBlock, ↓reduceIte]
      refine hK7 _ _ ?_
      refine wp_region_lit ?_
      refine ra 3 hF tk rfl fun a hF => ?_
      refine wl_nil ?_
      try simp only [Exit.then, Exit.inBlock, ↓reduceIte]
      refine ⟨(n - 1, _, _), ⟨hg52, by dsimp only; omega⟩, (Sep.headp (A := [_, _, _, _, _, _, _, _, _, _]) (B := [_, _, _, _]) hS [7, 1, 8, 9] (by decide) rfl rfl), ((((hF.nil.keep hF (t := 5) rfl).keep hF (t := 4) rfl).keep hF (t := 0) rfl).keepE hF (t := 6) rfl (congrArg vi (w64_id (by omega) (by omega)))), by dsimp only; omega⟩
     ·
      refine op_ld rfl rfl (gw0 rfl) rfl rfl rfl (fun a w_ hF hS => r_loadn ag29 (hF.ev rfl) (hS.box_rd (i := 5) rfl) sz29) ?_
      refine todo_fork [(3, [4, 5, 6, 7, 8, 10, 11])] hl_ rfl (by kernel_rfl) (List.forall_mem_cons.2 ⟨?_, fun _ h_ => nomatch h_⟩)
      ·
       refine op_dw (m' := [10, 11]) (val := fun x : Int => vi x) (R := fun x => 0 ≤ x ∧ (x < 12 ∨ (12 ≤ 0 ∧ x = 0))) rfl rfl (gw0 rfl) rfl rfl rfl rfl (fun a w_ hF => r_call2 en83 (hF.ev rfl) ec) (fun M_ w_ hS => l1Below_c hbs (q := 8) _ hS rfl) ?_; intro x50 h50; try clear hSd; try clear wd; intro wd hSd
       refine todo_pure hl_ (by kernel_rfl) rfl (gw0 rfl) rfl rfl rfl (fun a w_ hF => r_add ec (hF.ev rfl)) ?_
       refine todo_mk hl_ rfl (by kernel_rfl) rfl rfl rfl rfl rfl (fun a w_ hF => r_call3 en160 (hF.ev rfl) (hF.ev rfl) (hF.ev rfl)) (fun w_ hS => specStepMany_c (hS.part_k (i := 1) rfl) (by first | exact good_start hgx (ok_opwf h41) | exact hgx) (by unfold int64; omega)) ?_; rintro ⟨⟨x52, vs52, k52⟩, hg52⟩
       refine todo_pure hl_ (by kernel_rfl) rfl (gw0 rfl) rfl rfl rfl (fun a w_ hF => r_move (hF.ev rfl)) ?_
       refine todo_pure hl_ (by kernel_rfl) rfl (gw0 rfl) rfl rfl rfl (fun a w_ hF => r_extract (hF.ev rfl) rfl) ?_
       refine todo_pure hl_ (by kernel_rfl) rfl (gw0 rfl) rfl rfl rfl (fun a w_ hF => r_extract (hF.ev rfl) rfl) ?_
       refine todo_fin hl_ rfl (by kernel_rfl) (tl := [_, _]) rfl ?_; clear hS a; intro a w24 hF hA_
       obtain ⟨g4, hS, he_0⟩ := hA_.open1; clear hA_
       replace hF := hF.more he_0; clear he_0
       clear hl_; try clear hSd
       try dsimp only [List.cons_append, List.nil_append, List.set] at hS
       try clear wd
       refine wl_storew hF hS (i := 0) rfl (hF.ev rfl) (hF.ev rfl) sz29 rfl rfl fun w25 hS => ?_; dsimp only [List.set, Nat.reduceAdd] at hS
       refine ra 1 hF tk rfl fun a hF => ?_
       refine wl_nil ⟨rfl, ?_⟩
       refine hK13 _ _ ?_
       refine wp_region_lit ?_
       refine rb 1 0 hF tk hS rfl rfl rfl fun a hF => ?_
       refine wl_storew hF hS (i := 7) rfl (hF.ev rfl) (hF.ev rfl) sz29 rfl rfl fun w26 hS => ?_; dsimp only [List.set, Nat.reduceAdd] at hS
       refine wl_nil ?_
       simp only [Exit.then, Exit.inBlock, ↓reduceIte]
       refine hK7 _ _ ?_
       refine wp_region_lit ?_
       refine ra 3 hF tk rfl fun a hF => ?_
       refine wl_nil ?_
       try simp only [Exit.then, Exit.inBlock, ↓reduceIte]
       refine ⟨(n - 1, _, _), ⟨hg52, by dsimp only; omega⟩, (Sep.headp (A := [_, _, _, _, _, _, _, _, _, _]) (B := [_, _, _, _]) hS [7, 1, 8, 9] (by decide) rfl rfl), ((((hF.nil.keep hF (t := 5) rfl).keep hF (t := 4) rfl).keep hF (t := 0) rfl).keepE hF (t := 6) rfl (congrArg vi (w64_id (by omega) (by omega)))), by dsimp only; omega⟩
  refine wp_skip ?_
  refine hK9 _ _ ?_
  refine wp_seq_k fun K14 hK14 => ?_
  refine wp_region_todo (is := [1, 2, 3, 0, 4, 5, 6, 7, 8, 10, 11]) [(9, 10, [.int .i64 0, .int .i64 0, .int .i64 0, .int .i64 0, .int .i64 0, .int .i64 0, .slice none 0 0, .slice none 0 0, .slice none 0 0, .int .i64 0, .int .i64 0, .int .i64 0, .int .i64 0])] [3, 10, 11] (by kernel_rfl) hF hS ⟨⟨⟨_, _, _, rfl, zr29⟩, trivial⟩, by decide, by decide, by decide⟩ (by kernel_rfl) ?_; clear hF; intro hl_ wd hSd
  refine todo_pure hl_ (by kernel_rfl) rfl (gw0 rfl) rfl rfl rfl (fun a w_ hF => r_move (hF.ev rfl)) ?_
  refine todo_pure hl_ (by kernel_rfl) rfl (gw0 rfl) rfl rfl rfl (fun a w_ hF => r_move (hF.ev rfl)) ?_
  refine todo_fork [(3, [0, 4, 5, 6, 7, 8, 10, 11]), (0, [3, 4, 5, 6, 7, 8, 10, 11])] hl_ rfl (by kernel_rfl) (List.forall_mem_cons.2 ⟨?_, List.forall_mem_cons.2 ⟨?_, fun _ h_ => nomatch h_⟩⟩)
  ·
   refine op_dw (m' := [10, 11]) (val := fun x : Int => vi x) (R := fun x => 0 ≤ x ∧ (x < 12 ∨ (12 ≤ 0 ∧ x = 0))) rfl rfl (gw0 rfl) rfl rfl rfl rfl (fun a w_ hF => r_call2 en83 (hF.ev rfl) ec) (fun M_ w_ hS => l1Below_c hbs (q := 6) _ hS rfl) ?_; intro x50 h50; try clear hSd; try clear wd; intro wd hSd
   refine todo_load [5, 6, 7, 8, 10, 11] hl_ (by kernel_rfl) rfl (gw0 rfl) rfl rfl rfl (fun a w_ hF hB_ => r_loadn ag29 (hF.ev rfl) ((hSd.ext hB_).box_rd (i := 3) rfl) sz29) ?_
   refine todo_pure hl_ (by kernel_rfl) rfl (gw0 rfl) rfl rfl rfl (fun a w_ hF => r_add ec (hF.ev rfl)) ?_
   refine todo_mk hl_ rfl (by kernel_rfl) rfl rfl rfl rfl rfl (fun a w_ hF => r_call3 en160 (hF.ev rfl) (hF.ev rfl) (hF.ev rfl)) (fun w_ hS => specStepMany_c (stateK_of (hS.own_rd (i := 0) rfl) (hS.own_rd (i := 1) rfl) (hS.own_rd (i := 2) rfl)) (by first | exact good_start hgx (ok_opwf h41) | exact hgx) (by unfold int64; omega)) ?_; rintro ⟨⟨x52, vs52, k52⟩, hg52⟩
   refine todo_pure hl_ (by kernel_rfl) rfl (gw0 rfl) rfl rfl rfl (fun a w_ hF => r_move (hF.ev rfl)) ?_
   refine todo_pure hl_ (by kernel_rfl) rfl (gw0 rfl) rfl rfl rfl (fun a w_ hF => r_extract (hF.ev rfl) rfl) ?_
   refine todo_pure hl_ (by kernel_rfl) rfl (gw0 rfl) rfl rfl rfl (fun a w_ hF => r_extract (hF.ev rfl) rfl) ?_
   refine todo_fin hl_ rfl (by kernel_rfl) (tl := [_, _]) rfl ?_; clear hS a; intro a w27 hF hA_
   obtain ⟨g5, hS, he_0⟩ := hA_.open1; clear hA_
   replace hF := hF.more he_0; clear he_0
   clear hl_; try clear hSd
   try dsimp only [List.cons_append, List.nil_append, List.set] at hS
   try clear wd
   refine wl_storew hF hS (i := 0) rfl (hF.ev rfl) (hF.ev rfl) sz29 rfl rfl fun w28 hS => ?_; dsimp only [List.set, Nat.reduceAdd] at hS
   refine ra 1 hF tk rfl fun a hF => ?_
   refine wl_nil ⟨rfl, ?_⟩
   refine hK14 _ _ ?_
   refine wp_region_lit ?_
   refine rb 1 0 hF tk hS rfl rfl rfl fun a hF => ?_
   refine wl_storew hF hS (i := 5) rfl (hF.ev rfl) (hF.ev rfl) sz29 rfl rfl fun w29 hS => ?_; dsimp only [List.set, Nat.reduceAdd] at hS
   refine wl_nil ?_
   simp only [Exit.then, Exit.inBlock, ↓reduceIte]
   refine hK7 _ _ ?_
   refine wp_region_lit ?_
   refine ra 3 hF tk rfl fun a hF => ?_
   refine wl_nil ?_
   try simp only [Exit.then, Exit.inBlock, ↓reduceIte]
   refine ⟨(n - 1, _, _), ⟨hg52, by dsimp only; omega⟩, (Sep.headp (A := [_, _, _, _, _, _, _, _]) (B := [_, _, _, _]) hS [5, 1, 6, 7] (by decide) rfl rfl), ((((hF.nil.keep hF (t := 5) rfl).keep hF (t := 4) rfl).keep hF (t := 0) rfl).keepE hF (t := 6) rfl (congrArg vi (w64_id (by omega) (by omega)))), by dsimp only; omega⟩
  ·
   refine op_ld rfl rfl (gw0 rfl) rfl rfl rfl (fun a w_ hF hS => r_loadn ag29 (hF.ev rfl) (hS.box_rd (i := 3) rfl) sz29) ?_
   refine todo_fork [(3, [4, 5, 6, 7, 8, 10, 11])] hl_ rfl (by kernel_rfl) (List.forall_mem_cons.2 ⟨?_, fun _ h_ => nomatch h_⟩)
   ·
    refine op_dw (m' := [10, 11]) (val := fun x : Int => vi x) (R := fun x => 0 ≤ x ∧ (x < 12 ∨ (12 ≤ 0 ∧ x = 0))) rfl rfl (gw0 rfl) rfl rfl rfl rfl (fun a w_ hF => r_call2 en83 (hF.ev rfl) ec) (fun M_ w_ hS => l1Below_c hbs (q := 6) _ hS rfl) ?_; intro x50 h50; try clear hSd; try clear wd; intro wd hSd
    refine todo_pure hl_ (by kernel_rfl) rfl (gw0 rfl) rfl rfl rfl (fun a w_ hF => r_add ec (hF.ev rfl)) ?_
    refine todo_mk hl_ rfl (by kernel_rfl) rfl rfl rfl rfl rfl (fun a w_ hF => r_call3 en160 (hF.ev rfl) (hF.ev rfl) (hF.ev rfl)) (fun w_ hS => specStepMany_c (stateK_of (hS.own_rd (i := 0) rfl) (hS.own_rd (i := 1) rfl) (hS.own_rd (i := 2) rfl)) (by first | exact good_start hgx (ok_opwf h41) | exact hgx) (by unfold int64; omega)) ?_; rintro ⟨⟨x52, vs52, k52⟩, hg52⟩
    refine todo_pure hl_ (by kernel_rfl) rfl (gw0 rfl) rfl rfl rfl (fun a w_ hF => r_move (hF.ev rfl)) ?_
    refine todo_pure hl_ (by kernel_rfl) rfl (gw0 rfl) rfl rfl rfl (fun a w_ hF => r_extract (hF.ev rfl) rfl) ?_
    refine todo_pure hl_ (by kernel_rfl) rfl (gw0 rfl) rfl rfl rfl (fun a w_ hF => r_extract (hF.ev rfl) rfl) ?_
    refine todo_fin hl_ rfl (by kernel_rfl) (tl := [_, _]) rfl ?_; clear hS a; intro a w30 hF hA_
    obtain ⟨g5, hS, he_0⟩ := hA_.open1; clear hA_
    replace hF := hF.more he_0; clear he_0
    clear hl_; try clear hSd
    try dsimp only [List.cons_append, List.nil_append, List.set] at hS
    try clear wd
    refine wl_storew hF hS (i := 0) rfl (hF.ev rfl) (hF.ev rfl) sz29 rfl rfl fun w31 hS => ?_; dsimp only [List.set, Nat.reduceAdd] at hS
    refine ra 1 hF tk rfl fun a hF => ?_
    refine wl_nil ⟨rfl, ?_⟩
    refine hK14 _ _ ?_
    refine wp_region_lit ?_
    refine rb 1 0 hF tk hS rfl rfl rfl fun a hF => ?_
    refine wl_storew hF hS (i := 5) rfl (hF.ev rfl) (hF.ev rfl) sz29 rfl rfl fun w32 hS => ?_; dsimp only [List.set, Nat.reduceAdd] at hS
    refine wl_nil ?_
    simp only [Exit.then, Exit.inBlock, ↓reduceIte]
    refine hK7 _ _ ?_
    refine wp_region_lit ?_
    refine ra 3 hF tk rfl fun a hF => ?_
    refine wl_nil ?_
    try simp only [Exit.then, Exit.inBlock, ↓reduceIte]
    refine ⟨(n - 1, _, _), ⟨hg52, by dsimp only; omega⟩, (Sep.headp (A := [_, _, _, _, _, _, _, _]) (B := [_, _, _, _]) hS [5, 1, 6, 7] (by decide) rfl rfl), ((((hF.nil.keep hF (t := 5) rfl).keep hF (t := 4) rfl).keep hF (t := 0) rfl).keepE hF (t := 6) rfl (congrArg vi (w64_id (by omega) (by omega)))), by dsimp only; omega⟩
 refine wp_exit ?_
 simp only [Exit.then, Exit.inBlock, ↓reduceIte]
 refine hK3 _ _ ?_
 refine ws fun K15 hK15 => ?_
 refine rb 1 0 hF tk hS rfl rfl rfl fun a hF => ?_
 refine wl_storew hF hS (i := 2) rfl (hF.ev rfl) (hF.ev rfl) sz29 rfl rfl fun w33 hS => ?_; dsimp only [List.set, Nat.reduceAdd] at hS
 refine wl_nil (hK15 _ _ ?_)
 refine wp_ret ?_
 try simp only [Exit.then, Exit.inBlock, ↓reduceIte]
 exact ret1c rfl ag29 hF hS (i := 2) rfl sz29 rfl ⟨(x, vs), ⟨rfl, hgx⟩, (Sep.headp (A := [_, _, _, _]) (B := [_, _]) hS [1, 3] (by decide) rfl rfl)⟩
end Go.Proofs.YtgofolgogfmhgaaGreat.Wk
namespace Go.Proofs.YtgofolgogfmhgaaGreat.Wk
open Go Go.RowKit Sl
theorem en100 : enterB Tryz.prog 100 = true := by kernel_rfl
theorem en144 : enterB Tryz.prog 144 = true := by kernel_rfl
theorem en179 : enterB Tryz.prog 179 = true := by kernel_rfl
end Go.Proofs.YtgofolgogfmhgaaGreat.Wk
namespace Go.Proofs.YtgofolgogfmhgaaGreat.Wk
open Go Go.RowKit Sl
set_option linter.unusedVariables false
set_option linter.unusedSimpArgs false
set_option maxRecDepth 20000
/-- a state that is drawn -/
structure Drawn (s : Sl.State) : Prop where
  wf : s.wf
  sz : s.size ≤ 2300
  p31 : ∀ t ∈ s.threads, t.pc = 31 → (0 ≤ t.seen ∧ t.seen < s.config.capacity) ∨ ¬ at0 s.cells 1 = t.seen
section
variable {s : Sl.State} {i : Nat} {v : Int} {t : Sl.Thread} {c : Config}
theorem set_wf {xs : List Int} (h : ∀ x ∈ xs, int64 x) (hv : int64 v) : ∀ x ∈ xs.set i v, int64 x := fun x hx => (List.mem_or_eq_of_mem_set hx).elim (h x) (fun e => e ▸ hv)
theorem Good.drawn (h : Good s) : Drawn s := ⟨h.wf, by have := h.sz; omega, fun t ht h0 => .inl (h.p31 t ht h0)⟩
theorem Good.cells (h : Good s) (hv : int64 v) : Drawn { s with cells := s.cells.set i v } :=
  ⟨⟨h.wf.1, set_wf h.wf.2.1 hv, h.wf.2.2⟩, by have := h.sz; unfold Sl.State.size at *; simp only [List.length_set]; omega, fun t ht h0 => .inl (h.p31 t ht h0)⟩
theorem Good.gens (h : Good s) (hv : int64 v) : Drawn { s with generations := s.generations.set i v } :=
  ⟨⟨h.wf.1, h.wf.2.1, set_wf h.wf.2.2.1 hv, h.wf.2.2.2⟩, by have := h.sz; unfold Sl.State.size at *; simp only [List.length_set]; omega, fun t ht h0 => .inl (h.p31 t ht h0)⟩
theorem Good.fewer (h : Good s) : Drawn { s with cells := s.cells.drop 1 } :=
  ⟨⟨h.wf.1, (fun x hx => h.wf.2.1 x (List.mem_of_mem_drop hx)), h.wf.2.2⟩, by have := h.sz; unfold Sl.State.size at *; simp only [List.length_drop]; omega, fun t ht h0 => .inl (h.p31 t ht h0)⟩
theorem Good.faults (h : Good s) (hv : int64 v) : Drawn { s with faults := v } :=
  ⟨⟨h.wf.1, h.wf.2.1, h.wf.2.2.1, h.wf.2.2.2.1, h.wf.2.2.2.2.1, h.wf.2.2.2.2.2.1, h.wf.2.2.2.2.2.2.1, hv⟩, by have := h.sz; unfold Sl.State.size at *; dsimp only; omega, fun t ht h0 => .inl (h.p31 t ht h0)⟩
theorem new_cell {c : Config} (h : c.ok) : at0 (newState c).cells 1 = 0 := by
 have hb := h; unfold Config.ok at hb
 have hcc := cellCount_eq h
 rw [new_eq h]
 show at0 (newCells c) 1 = 0
 unfold newCells at0; rw [if_pos h, show (1 : Int).toNat = 1 from rfl, List.getElem?_set_ne (by decide), List.getElem?_replicate]
 rw [if_pos (by omega)]; rfl
theorem new_thread (hc : c.ok) (hw : t.wf) (hz : t.size ≤ 60) (hs : 0 ≤ t.seen) : Drawn { newState c with threads := (newState c).threads.set 0 t } := by
 have h := good_new hc
 have hb := hc; unfold Config.ok at hb
 obtain ⟨_, _, _, ht⟩ := h.sh
 rw [show (newState c).config = c from by rw [new_eq hc]] at ht
 have hx : (newState c).threads[0]? = some (at0 (newState c).threads ((0 : Nat) : Int)) := at0_nat (by omega)
 have h4 := crow_set_le (c := Sl.Thread.size) (x := t) (k := 60) hx (by omega)
 have h5 := newState_size (c := c)
 refine ⟨⟨h.wf.1, h.wf.2.1, h.wf.2.2.1, fun x hx => (List.mem_or_eq_of_mem_set hx).elim (h.wf.2.2.2.1 x) (fun e => e ▸ hw), h.wf.2.2.2.2⟩, ?_, ?_⟩
 · unfold Sl.State.size at *; simp only [List.length_set]; omega
 · intro x hx h0
   rcases List.mem_or_eq_of_mem_set hx with hm | rfl
   · exact .inl (h.p31 x hm h0)
   · dsimp only
     rw [new_cell hc, show (newState c).config = c from by rw [new_eq hc]]
     omega
end
theorem new_threadX {x : Sl.State} {c : Config} {t : Sl.Thread} (hx : x = newState c) (hc : c.ok) (hw : t.wf) (hz : t.size ≤ 60) (hs : 0 ≤ t.seen) : Drawn { x with threads := x.threads.set 0 t } := by
 subst hx; exact new_thread hc hw hz hs
theorem calls_sub {α : Type} {P : Program} {f : FuncId} {args : Array Value} {w W : World} {R : α → Prop} {val : α → Value} {l2 : α → List Res} (h : Calls P f args w (Ret fun v w' => ∃ z : α, (v = val z ∧ R z) ∧ Sep W (l2 z) w')) : Calls P f args w (Ret fun v w' => ∃ γ : {z : α // R z}, v = val γ.1 ∧ Sep W (l2 γ.1) w') := by
 refine h.mono ?_
 rintro e w' ⟨v, rfl, z, ⟨rfl, hR⟩, hS⟩
 exact ⟨_, rfl, ⟨z, hR⟩, rfl, hS⟩
set_option maxHeartbeats 4000000 in
set_option maxRecDepth 20000 in
theorem l9State_h {W : World} {g : Nat} {vb : Value} {bs : List Int} (hbs : byteEK.Rd W vb bs) {l : List Res} {w : World} (hS : Sep W (Cur g vb bs.length :: l) w) : Calls Tryz.prog 144 #[.pointer (some ⟨g, 0, none⟩)] w (Ret fun v w' => ∃ z : Sl.State × List Slv, (v = .agg (stateEK.cells z.1 z.2).toArray ∧ Drawn z.1) ∧ Sep W (Part stateEK z.1 z.2 :: Cur g vb bs.length :: l) w') := by
 refine calls_fr Tryz.func144 rfl Tryz.ntmps144 rfl ?_
 intro a hF
 refine ws fun K1 hK1 => ?_
 refine wl_alloc hF hS rfl zr29 ?_; clear hF a; intro g1 w1 a hS_ hB_ hF; replace hS := hS_; clear hS_ hB_
 refine wl_nil (hK1 _ _ ?_)
 refine ws fun K2 hK2 => ?_
 refine ra 1 hF tk rfl fun a hF => ?_
 refine wl_call hF rfl rfl rfl (r_call1 en159 (hF.ev rfl)) (l3Config_c hbs (q := 1) hS rfl) ?_; clear hF a; rintro v w2 a ⟨⟨c5, rfl, h5⟩, hS⟩ hF
 refine wl_mk hF hS rfl rfl rfl (r_call1 en158 (hF.ev rfl)) (specNewState_c _) ?_; clear hF a; rintro vs6 w3 a hS_ hF; replace hS := hS_; clear hS_; dsimp only [List.cons_append, List.nil_append] at hS
 refine wl_alloc hF hS rfl zr29 ?_; clear hF a; intro g2 w4 a hS_ hB_ hF; replace hS := hS_; clear hS_ hB_
 refine wl_storew hF hS (i := 0) rfl (hF.ev rfl) (hF.ev rfl) sz29 rfl rfl fun w5 hS => ?_; dsimp only [List.set, Nat.reduceAdd] at hS
 refine wl_nil (hK2 _ _ ?_)
 refine wp_seq_k fun K3 hK3 => ?_
 refine ws fun K4 hK4 => ?_
 refine ra 1 hF tk rfl fun a hF => ?_
 refine wl_call hF rfl rfl rfl (r_call2 en83 (hF.ev rfl) ec) (l1Below_c hbs (q := 3) _ hS rfl) ?_; clear hF a; rintro v w6 a ⟨⟨x8, rfl, h8⟩, hS⟩ hF
 refine wl_nil (hK4 _ _ ?_)
 refine wp_block ?_
 refine ws fun K5 hK5 => ?_
 refine ra 2 hF tk rfl fun a hF => ?_
 refine wl_nil (hK5 _ _ ?_)
 refine wc_fx (t := 9) hF rfl ?_ ?_ <;> clear hF <;> intro c9 hF <;> try simp only [zb] at c9
 ·
  obtain ⟨x, hx_⟩ : ∃ x, x = newState c5 := ⟨_, rfl⟩
  rw [← hx_] at hS
  try rw [← hx_] at hF
  have hgx : Good x := hx_ ▸ good_new h5
  obtain ⟨ho_, hc_, hgl_, ht_⟩ := hgx.sh
  have hb_ := ho_; unfold Config.ok at hb_
  have hz_ := hgx.sz
  have hcc_ := cellCount_eq ho_
  replace hS := hS.pull (p := 1) rfl; dsimp only [List.eraseIdx] at hS
  replace hS : Sep W (Own intEK (sv (vs6.getD 0 (none, 0, 0))) (x).cells :: Own intEK (sv (vs6.getD 1 (none, 0, 0))) (x).generations :: Own threadEK (sv (vs6.getD 2 (none, 0, 0))) (x).threads :: _) _ := hS.part_open
  dsimp only [stateEK] at hS
  generalize vs6.getD 0 (none, 0, 0) = z0 at hS
  generalize vs6.getD 1 (none, 0, 0) = z1 at hS
  generalize vs6.getD 2 (none, 0, 0) = z2 at hS
  have hcap_ : (x).cells.length ≤ z0.2.2 := by
    obtain ⟨A_, c_, e_, h1_, _⟩ := (hS.own_rd (i := 0) rfl).sl
    have e2_ : z0.2.2 = c_ := by injection e_
    rw [e2_]; exact h1_
  have hl0_ := hS.own_len (q := 0) rfl
  have hl1_ := hS.own_len (q := 1) rfl
  have hl2_ := hS.own_len (q := 2) rfl
  refine wp_region_todo (is := [0, 2, 3, 4, 5, 7, 6, 8, 9, 1, 10, 11]) [] [6, 9, 11] (by kernel_rfl) hF hS ⟨trivial, by decide, by decide, by decide⟩ (by kernel_rfl) ?_; clear hF; intro hl_ wd hSd
  refine todo_pure hl_ (by kernel_rfl) rfl (gw0 rfl) rfl rfl rfl (fun a w_ hF => r_field fo29_1 (hF.ev rfl)) ?_
  refine todo_pure hl_ (by kernel_rfl) rfl (gw0 rfl) rfl rfl rfl (fun a w_ hF => r_move (hF.ev rfl)) ?_
  refine todo_pure hl_ (by kernel_rfl) rfl (gw0 rfl) rfl rfl rfl (fun a w_ hF => r_field fo29_1 (hF.ev rfl)) ?_
  refine todo_load [5, 6, 9, 10, 11] hl_ (by kernel_rfl) rfl (gw0 rfl) rfl rfl rfl (fun a w_ hF hB_ => r_load1 sc26 (hF.ev rfl) ((hSd.ext hB_).box (i := 3) rfl rfl)) ?_
  refine todo_pure hl_ (by kernel_rfl) rfl (gw0 rfl) rfl rfl rfl (fun a w_ hF => r_len ul26 (hF.ev rfl)) ?_
  refine todo_pure hl_ (by kernel_rfl) rfl (gw0 rfl) rfl rfl rfl (fun a w_ hF => r_move (hF.ev rfl)) ?_
  refine todo_fork [(6, [8, 9, 1, 10, 11]), (8, [6, 9, 1, 10, 11]), (1, [6, 8, 9, 10, 11])] hl_ rfl (by kernel_rfl) (List.forall_mem_cons.2 ⟨?_, List.forall_mem_cons.2 ⟨?_, List.forall_mem_cons.2 ⟨?_, fun _ h_ => nomatch h_⟩⟩⟩)
  ·
   refine op_dw (m' := [9, 11]) (val := fun x : Int => vi x) (R := fun x => 0 ≤ x ∧ (x < (z0.2.1 : Int) ∨ ((z0.2.1 : Int) ≤ 0 ∧ x = 0))) rfl rfl (gw0 rfl) rfl rfl rfl rfl (fun a w_ hF => r_call2 en83 (hF.ev rfl) (hF.ev rfl)) (fun M_ w_ hS => l1Below_c hbs (q := 6) _ hS rfl) ?_; intro x17 h17; try clear hSd; try clear wd; intro wd hSd
   refine todo_fork [(8, [9, 1, 10, 11]), (1, [8, 9, 10, 11])] hl_ rfl (by kernel_rfl) (List.forall_mem_cons.2 ⟨?_, List.forall_mem_cons.2 ⟨?_, fun _ h_ => nomatch h_⟩⟩)
   ·
    refine op_op rfl rfl (gw0 rfl) rfl rfl rfl (fun a w_ hF hS => r_bslice intEK [vi (-1), vi 0, vi 1, vi 2, vi 3, vi 130, vi 131] [-1, 0, 1, 2, 3, 130, 131] rfl mk26 rfl ⟨rfl, ec, rfl, ec, rfl, ec, rfl, ec, rfl, ec, rfl, ec, rfl, ec, trivial⟩ rfl rfl rfl rfl) ?_; intro gl_19
    refine todo_fork [(9, [1, 10, 11]), (1, [9, 10, 11])] hl_ rfl (by kernel_rfl) (List.forall_mem_cons.2 ⟨?_, List.forall_mem_cons.2 ⟨?_, fun _ h_ => nomatch h_⟩⟩)
    ·
     refine op_dw (m' := [11]) (val := fun x : Int => vi x) (R := fun x => x ∈ ([-1, 0, 1, 2, 3, 130, 131] : List Int)) rfl rfl (gw0 rfl) rfl rfl rfl rfl (fun a w_ hF => r_call2 en85 (hF.ev rfl) (hF.ev rfl)) (fun M_ w_ hS => l1PickInt_c hbs (q := 7) (fun w_ hS => (hS.own_rd (i := 1) rfl)) (by decide) hS rfl) ?_; intro x20 h20; try clear hSd; try clear wd; intro wd hSd
     refine todo_load [10, 11] hl_ (by kernel_rfl) rfl (gw0 rfl) rfl rfl rfl (fun a w_ hF hB_ => r_load1 sc26 (hF.ev rfl) ((hSd.ext hB_).box (i := 4) rfl rfl)) ?_
     obtain ⟨g21, o21, m21, q21, hv21, hm21, hl21, hc21⟩ := Rd.idxF ((hSd.own_rd (i := 1) rfl)) (at0_get (i := x17) (by omega) (by omega))
     refine todo_pure hl_ (by kernel_rfl) rfl (gw0 rfl) rfl rfl rfl (fun a w_ hF => r_index sl26 ((hF.ev rfl).trans hv21) (hF.ev rfl) (by omega) (by first | omega | (simp at hm21; omega))) ?_
     refine todo_fin hl_ rfl (by kernel_rfl) (tl := [_]) rfl ?_; clear hS a; intro a w8 hF hA_
     have hS := hA_.sep; clear hA_
     clear hl_; try clear hSd
     try dsimp only [List.cons_append, List.nil_append, List.set] at hS
     try clear wd
     refine wl_istore (q := 1) hF hS rfl hv21 (by omega) (by omega) sz3 (hF.ev rfl) rfl (hF.ev rfl) fun w9 hS => ?_; dsimp only [List.set] at hS
     refine wl_nil ⟨rfl, ?_⟩
     simp only [Exit.then, Exit.inBlock, ↓reduceIte]
     refine hK3 _ _ ?_
     refine ws fun K6 hK6 => ?_
     refine rb 1 4 hF tk hS rfl rfl rfl fun a hF => ?_
     refine wl_storew hF hS (i := 5) rfl (hF.ev rfl) (hF.ev rfl) sz29 rfl rfl fun w10 hS => ?_; dsimp only [List.set, Nat.reduceAdd] at hS
     refine wl_nil (hK6 _ _ ?_)
     refine wp_ret ?_
     try simp only [Exit.then, Exit.inBlock, ↓reduceIte]
     simp only [List.mem_cons, List.not_mem_nil, or_false] at h20
     exact ret1c rfl ag29 hF hS (i := 5) rfl sz29 rfl ⟨({ x with cells := x.cells.set x17.toNat x20 }, [z0, z1, z2]), ⟨rfl, hgx.cells (by unfold int64; omega)⟩, Sep.part_mk (ek := stateEK) (x := { x with cells := x.cells.set x17.toNat x20 }) (vs := [z0, z1, z2]) (Sep.headp (A := [_, _, _, _, _, _, _]) (B := [_, _, _, _]) hS [1, 2, 3, 6] (by decide) rfl rfl) rfl⟩
    ·
     refine op_ld rfl rfl (gw0 rfl) rfl rfl rfl (fun a w_ hF hS => r_load1 sc26 (hF.ev rfl) (hS.box (i := 4) rfl rfl)) ?_
     refine todo_fork [(9, [10, 11])] hl_ rfl (by kernel_rfl) (List.forall_mem_cons.2 ⟨?_, fun _ h_ => nomatch h_⟩)
     ·
      refine op_dw (m' := [11]) (val := fun x : Int => vi x) (R := fun x => x ∈ ([-1, 0, 1, 2, 3, 130, 131] : List Int)) rfl rfl (gw0 rfl) rfl rfl rfl rfl (fun a w_ hF => r_call2 en85 (hF.ev rfl) (hF.ev rfl)) (fun M_ w_ hS => l1PickInt_c hbs (q := 7) (fun w_ hS => (hS.own_rd (i := 1) rfl)) (by decide) hS rfl) ?_; intro x20 h20; try clear hSd; try clear wd; intro wd hSd
      obtain ⟨g21, o21, m21, q21, hv21, hm21, hl21, hc21⟩ := Rd.idxF ((hSd.own_rd (i := 1) rfl)) (at0_get (i := x17) (by omega) (by omega))
      refine todo_pure hl_ (by kernel_rfl) rfl (gw0 rfl) rfl rfl rfl (fun a w_ hF => r_index sl26 ((hF.ev rfl).trans hv21) (hF.ev rfl) (by omega) (by first | omega | (simp at hm21; omega))) ?_
      refine todo_fin hl_ rfl (by kernel_rfl) (tl := [_]) rfl ?_; clear hS a; intro a w11 hF hA_
      have hS := hA_.sep; clear hA_
      clear hl_; try clear hSd
      try dsimp only [List.cons_append, List.nil_append, List.set] at hS
      try clear wd
      refine wl_istore (q := 1) hF hS rfl hv21 (by omega) (by omega) sz3 (hF.ev rfl) rfl (hF.ev rfl) fun w12 hS => ?_; dsimp only [List.set] at hS
      refine wl_nil ⟨rfl, ?_⟩
      simp only [Exit.then, Exit.inBlock, ↓reduceIte]
      refine hK3 _ _ ?_
      refine ws fun K7 hK7 => ?_
      refine rb 1 4 hF tk hS rfl rfl rfl fun a hF => ?_
      refine wl_storew hF hS (i := 5) rfl (hF.ev rfl) (hF.ev rfl) sz29 rfl rfl fun w13 hS => ?_; dsimp only [List.set, Nat.reduceAdd] at hS
      refine wl_nil (hK7 _ _ ?_)
      refine wp_ret ?_
      try simp only [Exit.then, Exit.inBlock, ↓reduceIte]
      simp only [List.mem_cons, List.not_mem_nil, or_false] at h20
      exact ret1c rfl ag29 hF hS (i := 5) rfl sz29 rfl ⟨({ x with cells := x.cells.set x17.toNat x20 }, [z0, z1, z2]), ⟨rfl, hgx.cells (by unfold int64; omega)⟩, Sep.part_mk (ek := stateEK) (x := { x with cells := x.cells.set x17.toNat x20 }) (vs := [z0, z1, z2]) (Sep.headp (A := [_, _, _, _, _, _, _]) (B := [_, _, _, _]) hS [1, 2, 3, 6] (by decide) rfl rfl) rfl⟩
   ·
    refine op_ld rfl rfl (gw0 rfl) rfl rfl rfl (fun a w_ hF hS => r_load1 sc26 (hF.ev rfl) (hS.box (i := 3) rfl rfl)) ?_
    refine todo_op hl_ rfl (by kernel_rfl) rfl rfl rfl rfl rfl (fun a w_ hF hS => r_bslice intEK [vi (-1), vi 0, vi 1, vi 2, vi 3, vi 130, vi 131] [-1, 0, 1, 2, 3, 130, 131] rfl mk26 rfl ⟨rfl, ec, rfl, ec, rfl, ec, rfl, ec, rfl, ec, rfl, ec, rfl, ec, trivial⟩ rfl rfl rfl rfl) ?_; intro gl_19
    refine todo_fork [(9, [10, 11])] hl_ rfl (by kernel_rfl) (List.forall_mem_cons.2 ⟨?_, fun _ h_ => nomatch h_⟩)
    ·
     refine op_dw (m' := [11]) (val := fun x : Int => vi x) (R := fun x => x ∈ ([-1, 0, 1, 2, 3, 130, 131] : List Int)) rfl rfl (gw0 rfl) rfl rfl rfl rfl (fun a w_ hF => r_call2 en85 (hF.ev rfl) (hF.ev rfl)) (fun M_ w_ hS => l1PickInt_c hbs (q := 7) (fun w_ hS => (hS.own_rd (i := 1) rfl)) (by decide) hS rfl) ?_; intro x20 h20; try clear hSd; try clear wd; intro wd hSd
     obtain ⟨g21, o21, m21, q21, hv21, hm21, hl21, hc21⟩ := Rd.idxF ((hSd.own_rd (i := 1) rfl)) (at0_get (i := x17) (by omega) (by omega))
     refine todo_pure hl_ (by kernel_rfl) rfl (gw0 rfl) rfl rfl rfl (fun a w_ hF => r_index sl26 ((hF.ev rfl).trans hv21) (hF.ev rfl) (by omega) (by first | omega | (simp at hm21; omega))) ?_
     refine todo_fin hl_ rfl (by kernel_rfl) (tl := [_]) rfl ?_; clear hS a; intro a w15 hF hA_
     have hS := hA_.sep; clear hA_
     clear hl_; try clear hSd
     try dsimp only [List.cons_append, List.nil_append, List.set] at hS
     try clear wd
     refine wl_istore (q := 1) hF hS rfl hv21 (by omega) (by omega) sz3 (hF.ev rfl) rfl (hF.ev rfl) fun w16 hS => ?_; dsimp only [List.set] at hS
     refine wl_nil ⟨rfl, ?_⟩
     simp only [Exit.then, Exit.inBlock, ↓reduceIte]
     refine hK3 _ _ ?_
     refine ws fun K8 hK8 => ?_
     refine rb 1 4 hF tk hS rfl rfl rfl fun a hF => ?_
     refine wl_storew hF hS (i := 5) rfl (hF.ev rfl) (hF.ev rfl) sz29 rfl rfl fun w17 hS => ?_; dsimp only [List.set, Nat.reduceAdd] at hS
     refine wl_nil (hK8 _ _ ?_)
     refine wp_ret ?_
     try simp only [Exit.then, Exit.inBlock, ↓reduceIte]
     simp only [List.mem_cons, List.not_mem_nil, or_false] at h20
     exact ret1c rfl ag29 hF hS (i := 5) rfl sz29 rfl ⟨({ x with cells := x.cells.set x17.toNat x20 }, [z0, z1, z2]), ⟨rfl, hgx.cells (by unfold int64; omega)⟩, Sep.part_mk (ek := stateEK) (x := { x with cells := x.cells.set x17.toNat x20 }) (vs := [z0, z1, z2]) (Sep.headp (A := [_, _, _, _, _, _, _]) (B := [_, _, _, _]) hS [1, 2, 3, 6] (by decide) rfl rfl) rfl⟩
  ·
   refine op_op rfl rfl (gw0 rfl) rfl rfl rfl (fun a w_ hF hS => r_bslice intEK [vi (-1), vi 0, vi 1, vi 2, vi 3, vi 130, vi 131] [-1, 0, 1, 2, 3, 130, 131] rfl mk26 rfl ⟨rfl, ec, rfl, ec, rfl, ec, rfl, ec, rfl, ec, rfl, ec, rfl, ec, trivial⟩ rfl rfl rfl rfl) ?_; intro gl_19
   refine todo_fork [(6, [9, 1, 10, 11]), (1, [6, 9, 10, 11])] hl_ rfl (by kernel_rfl) (List.forall_mem_cons.2 ⟨?_, List.forall_mem_cons.2 ⟨?_, fun _ h_ => nomatch h_⟩⟩)
   ·
    refine op_dw (m' := [9, 11]) (val := fun x : Int => vi x) (R := fun x => 0 ≤ x ∧ (x < (z0.2.1 : Int) ∨ ((z0.2.1 : Int) ≤ 0 ∧ x = 0))) rfl rfl (gw0 rfl) rfl rfl rfl rfl (fun a w_ hF => r_call2 en83 (hF.ev rfl) (hF.ev rfl)) (fun M_ w_ hS => l1Below_c hbs (q := 7) _ hS rfl) ?_; intro x17 h17; try clear hSd; try clear wd; intro wd hSd
    refine todo_fork [(9, [1, 10, 11]), (1, [9, 10, 11])] hl_ rfl (by kernel_rfl) (List.forall_mem_cons.2 ⟨?_, List.forall_mem_cons.2 ⟨?_, fun _ h_ => nomatch h_⟩⟩)
    ·
     refine op_dw (m' := [11]) (val := fun x : Int => vi x) (R := fun x => x ∈ ([-1, 0, 1, 2, 3, 130, 131] : List Int)) rfl rfl (gw0 rfl) rfl rfl rfl rfl (fun a w_ hF => r_call2 en85 (hF.ev rfl) (hF.ev rfl)) (fun M_ w_ hS => l1PickInt_c hbs (q := 7) (fun w_ hS => (hS.own_rd (i := 1) rfl)) (by decide) hS rfl) ?_; intro x20 h20; try clear hSd; try clear wd; intro wd hSd
     refine todo_load [10, 11] hl_ (by kernel_rfl) rfl (gw0 rfl) rfl rfl rfl (fun a w_ hF hB_ => r_load1 sc26 (hF.ev rfl) ((hSd.ext hB_).box (i := 4) rfl rfl)) ?_
     obtain ⟨g21, o21, m21, q21, hv21, hm21, hl21, hc21⟩ := Rd.idxF ((hSd.own_rd (i := 1) rfl)) (at0_get (i := x17) (by omega) (by omega))
     refine todo_pure hl_ (by kernel_rfl) rfl (gw0 rfl) rfl rfl rfl (fun a w_ hF => r_index sl26 ((hF.ev rfl).trans hv21) (hF.ev rfl) (by omega) (by first | omega | (simp at hm21; omega))) ?_
     refine todo_fin hl_ rfl (by kernel_rfl) (tl := [_]) rfl ?_; clear hS a; intro a w19 hF hA_
     have hS := hA_.sep; clear hA_
     clear hl_; try clear hSd
     try dsimp only [List.cons_append, List.nil_append, List.set] at hS
     try clear wd
     refine wl_istore (q := 1) hF hS rfl hv21 (by omega) (by omega) sz3 (hF.ev rfl) rfl (hF.ev rfl) fun w20 hS => ?_; dsimp only [List.set] at hS
     refine wl_nil ⟨rfl, ?_⟩
     simp only [Exit.then, Exit.inBlock, ↓reduceIte]
     refine hK3 _ _ ?_
     refine ws fun K9 hK9 => ?_
     refine rb 1 4 hF tk hS rfl rfl rfl fun a hF => ?_
     refine wl_storew hF hS (i := 5) rfl (hF.ev rfl) (hF.ev rfl) sz29 rfl rfl fun w21 hS => ?_; dsimp only [List.set, Nat.reduceAdd] at hS
     refine wl_nil (hK9 _ _ ?_)
     refine wp_ret ?_
     try simp only [Exit.then, Exit.inBlock, ↓reduceIte]
     simp only [List.mem_cons, List.not_mem_nil, or_false] at h20
     exact ret1c rfl ag29 hF hS (i := 5) rfl sz29 rfl ⟨({ x with cells := x.cells.set x17.toNat x20 }, [z0, z1, z2]), ⟨rfl, hgx.cells (by unfold int64; omega)⟩, Sep.part_mk (ek := stateEK) (x := { x with cells := x.cells.set x17.toNat x20 }) (vs := [z0, z1, z2]) (Sep.headp (A := [_, _, _, _, _, _, _]) (B := [_, _, _, _]) hS [1, 2, 3, 6] (by decide) rfl rfl) rfl⟩
    ·
     refine op_ld rfl rfl (gw0 rfl) rfl rfl rfl (fun a w_ hF hS => r_load1 sc26 (hF.ev rfl) (hS.box (i := 4) rfl rfl)) ?_
     refine todo_fork [(9, [10, 11])] hl_ rfl (by kernel_rfl) (List.forall_mem_cons.2 ⟨?_, fun _ h_ => nomatch h_⟩)
     ·
      refine op_dw (m' := [11]) (val := fun x : Int => vi x) (R := fun x => x ∈ ([-1, 0, 1, 2, 3, 130, 131] : List Int)) rfl rfl (gw0 rfl) rfl rfl rfl rfl (fun a w_ hF => r_call2 en85 (hF.ev rfl) (hF.ev rfl)) (fun M_ w_ hS => l1PickInt_c hbs (q := 7) (fun w_ hS => (hS.own_rd (i := 1) rfl)) (by decide) hS rfl) ?_; intro x20 h20; try clear hSd; try clear wd; intro wd hSd
      obtain ⟨g21, o21, m21, q21, hv21, hm21, hl21, hc21⟩ := Rd.idxF ((hSd.own_rd (i := 1) rfl)) (at0_get (i := x17) (by omega) (by omega))
      refine todo_pure hl_ (by kernel_rfl) rfl (gw0 rfl) rfl rfl rfl (fun a w_ hF => r_index sl26 ((hF.ev rfl).trans hv21) (hF.ev rfl) (by omega) (by first | omega | (simp at hm21; omega))) ?_
      refine todo_fin hl_ rfl (by kernel_rfl) (tl := [_]) rfl ?_; clear hS a; intro a w22 hF hA_
      have hS := hA_.sep; clear hA_
      clear hl_; try clear hSd
      try dsimp only [List.cons_append, List.nil_append, List.set] at hS
      try clear wd
      refine wl_istore (q := 1) hF hS rfl hv21 (by omega) (by omega) sz3 (hF.ev rfl) rfl (hF.ev rfl) fun w23 hS => ?_; dsimp only [List.set] at hS
      refine wl_nil ⟨rfl, ?_⟩
      simp only [Exit.then, Exit.inBlock, ↓reduceIte]
      refine hK3 _ _ ?_
      refine ws fun K10 hK10 => ?_
      refine rb 1 4 hF tk hS rfl rfl rfl fun a hF => ?_
      refine wl_storew hF hS (i := 5) rfl (hF.ev rfl) (hF.ev rfl) sz29 rfl rfl fun w24 hS => ?_; dsimp only [List.set, Nat.reduceAdd] at hS
      refine wl_nil (hK10 _ _ ?_)
      refine wp_ret ?_
      try simp only [Exit.then, Exit.inBlock, ↓reduceIte]
      simp only [List.mem_cons, List.not_mem_nil, or_false] at h20
      exact ret1c rfl ag29 hF hS (i := 5) rfl sz29 rfl ⟨({ x with cells := x.cells.set x17.toNat x20 }, [z0, z1, z2]), ⟨rfl, hgx.cells (by unfold int64; omega)⟩, Sep.part_mk (ek := stateEK) (x := { x with cells := x.cells.set x17.toNat x20 }) (vs := [z0, z1, z2]) (Sep.headp (A := [_, _, _, _, _, _, _]) (B := [_, _, _, _]) hS [1, 2, 3, 6] (by decide) rfl rfl) rfl⟩
   ·
    refine op_ld rfl rfl (gw0 rfl) rfl rfl rfl (fun a w_ hF hS => r_load1 sc26 (hF.ev rfl) (hS.box (i := 4) rfl rfl)) ?_
    refine todo_fork [(6, [9, 10, 11])] hl_ rfl (by kernel_rfl) (List.forall_mem_cons.2 ⟨?_, fun _ h_ => nomatch h_⟩)
    ·
     refine op_dw (m' := [9, 11]) (val := fun x : Int => vi x) (R := fun x => 0 ≤ x ∧ (x < (z0.2.1 : Int) ∨ ((z0.2.1 : Int) ≤ 0 ∧ x = 0))) rfl rfl (gw0 rfl) rfl rfl rfl rfl (fun a w_ hF => r_call2 en83 (hF.ev rfl) (hF.ev rfl)) (fun M_ w_ hS => l1Below_c hbs (q := 7) _ hS rfl) ?_; intro x17 h17; try clear hSd; try clear wd; intro wd hSd
     refine todo_fork [(9, [10, 11])] hl_ rfl (by kernel_rfl) (List.forall_mem_cons.2 ⟨?_, fun _ h_ => nomatch h_⟩)
     ·
      refine op_dw (m' := [11]) (val := fun x : Int => vi x) (R := fun x => x ∈ ([-1, 0, 1, 2, 3, 130, 131] : List Int)) rfl rfl (gw0 rfl) rfl rfl rfl rfl (fun a w_ hF => r_call2 en85 (hF.ev rfl) (hF.ev rfl)) (fun M_ w_ hS => l1PickInt_c hbs (q := 7) (fun w_ hS => (hS.own_rd (i := 1) rfl)) (by decide) hS rfl) ?_; intro x20 h20; try clear hSd; try clear wd; intro wd hSd
      obtain ⟨g21, o21, m21, q21, hv21, hm21, hl21, hc21⟩ := Rd.idxF ((hSd.own_rd (i := 1) rfl)) (at0_get (i := x17) (by omega) (by omega))
      refine todo_pure hl_ (by kernel_rfl) rfl (gw0 rfl) rfl rfl rfl (fun a w_ hF => r_index sl26 ((hF.ev rfl).trans hv21) (hF.ev rfl) (by omega) (by first | omega | (simp at hm21; omega))) ?_
      refine todo_fin hl_ rfl (by kernel_rfl) (tl := [_]) rfl ?_; clear hS a; intro a w25 hF hA_
      have hS := hA_.sep; clear hA_
      clear hl_; try clear hSd
      try dsimp only [List.cons_append, List.nil_append, List.set] at hS
      try clear wd
      refine wl_istore (q := 1) hF hS rfl hv21 (by omega) (by omega) sz3 (hF.ev rfl) rfl (hF.ev rfl) fun w26 hS => ?_; dsimp only [List.set] at hS
      refine wl_nil ⟨rfl, ?_⟩
      simp only [Exit.then, Exit.inBlock, ↓reduceIte]
      refine hK3 _ _ ?_
      refine ws fun K11 hK11 => ?_
      refine rb 1 4 hF tk hS rfl rfl rfl fun a hF => ?_
      refine wl_storew hF hS (i := 5) rfl (hF.ev rfl) (hF.ev rfl) sz29 rfl rfl fun w27 hS => ?_; dsimp only [List.set, Nat.reduceAdd] at hS
      refine wl_nil (hK11 _ _ ?_)
      refine wp_ret ?_
      try simp only [Exit.then, Exit.inBlock, ↓reduceIte]
      simp only [List.mem_cons, List.not_mem_nil, or_false] at h20
      exact ret1c rfl ag29 hF hS (i := 5) rfl sz29 rfl ⟨({ x with cells := x.cells.set x17.toNat x20 }, [z0, z1, z2]), ⟨rfl, hgx.cells (by unfold int64; omega)⟩, Sep.part_mk (ek := stateEK) (x := { x with cells := x.cells.set x17.toNat x20 }) (vs := [z0, z1, z2]) (Sep.headp (A := [_, _, _, _, _, _, _]) (B := [_, _, _, _]) hS [1, 2, 3, 6] (by decide) rfl rfl) rfl⟩
  ·
   refine op_ld rfl rfl (gw0 rfl) rfl rfl rfl (fun a w_ hF hS => r_load1 sc26 (hF.ev rfl) (hS.box (i := 3) rfl rfl)) ?_
   refine todo_fork [(6, [8, 9, 10, 11]), (8, [6, 9, 10, 11])] hl_ rfl (by kernel_rfl) (List.forall_mem_cons.2 ⟨?_, List.forall_mem_cons.2 ⟨?_, fun _ h_ => nomatch h_⟩⟩)
   ·
    refine op_dw (m' := [9, 11]) (val := fun x : Int => vi x) (R := fun x => 0 ≤ x ∧ (x < (z0.2.1 : Int) ∨ ((z0.2.1 : Int) ≤ 0 ∧ x = 0))) rfl rfl (gw0 rfl) rfl rfl rfl rfl (fun a w_ hF => r_call2 en83 (hF.ev rfl) (hF.ev rfl)) (fun M_ w_ hS => l1Below_c hbs (q := 6) _ hS rfl) ?_; intro x17 h17; try clear hSd; try clear wd; intro wd hSd
    refine todo_op hl_ rfl (by kernel_rfl) rfl rfl rfl rfl rfl (fun a w_ hF hS => r_bslice intEK [vi (-1), vi 0, vi 1, vi 2, vi 3, vi 130, vi 131] [-1, 0, 1, 2, 3, 130, 131] rfl mk26 rfl ⟨rfl, ec, rfl, ec, rfl, ec, rfl, ec, rfl, ec, rfl, ec, rfl, ec, trivial⟩ rfl rfl rfl rfl) ?_; intro gl_19
    refine todo_fork [(9, [10, 11])] hl_ rfl (by kernel_rfl) (List.forall_mem_cons.2 ⟨?_, fun _ h_ => nomatch h_⟩)
    ·
     refine op_dw (m' := [11]) (val := fun x : Int => vi x) (R := fun x => x ∈ ([-1, 0, 1, 2, 3, 130, 131] : List Int)) rfl rfl (gw0 rfl) rfl rfl rfl rfl (fun a w_ hF => r_call2 en85 (hF.ev rfl) (hF.ev rfl)) (fun M_ w_ hS => l1PickInt_c hbs (q := 7) (fun w_ hS => (hS.own_rd (i := 1) rfl)) (by decide) hS rfl) ?_; intro x20 h20; try clear hSd; try clear wd; intro wd hSd
     obtain ⟨g21, o21, m21, q21, hv21, hm21, hl21, hc21⟩ := Rd.idxF ((hSd.own_rd (i := 1) rfl)) (at0_get (i := x17) (by omega) (by omega))
     refine todo_pure hl_ (by kernel_rfl) rfl (gw0 rfl) rfl rfl rfl (fun a w_ hF => r_index sl26 ((hF.ev rfl).trans hv21) (hF.ev rfl) (by omega) (by first | omega | (simp at hm21; omega))) ?_
     refine todo_fin hl_ rfl (by kernel_rfl) (tl := [_]) rfl ?_; clear hS a; intro a w29 hF hA_
     have hS := hA_.sep; clear hA_
     clear hl_; try clear hSd
     try dsimp only [List.cons_append, List.nil_append, List.set] at hS
     try clear wd
     refine wl_istore (q := 1) hF hS rfl hv21 (by omega) (by omega) sz3 (hF.ev rfl) rfl (hF.ev rfl) fun w30 hS => ?_; dsimp only [List.set] at hS
     refine wl_nil ⟨rfl, ?_⟩
     simp only [Exit.then, Exit.inBlock, ↓reduceIte]
     refine hK3 _ _ ?_
     refine ws fun K12 hK12 => ?_
     refine rb 1 4 hF tk hS rfl rfl rfl fun a hF => ?_
     refine wl_storew hF hS (i := 5) rfl (hF.ev rfl) (hF.ev rfl) sz29 rfl rfl fun w31 hS => ?_; dsimp only [List.set, Nat.reduceAdd] at hS
     refine wl_nil (hK12 _ _ ?_)
     refine wp_ret ?_
     try simp only [Exit.then, Exit.inBlock, ↓reduceIte]
     simp only [List.mem_cons, List.not_mem_nil, or_false] at h20
     exact ret1c rfl ag29 hF hS (i := 5) rfl sz29 rfl ⟨({ x with cells := x.cells.set x17.toNat x20 }, [z0, z1, z2]), ⟨rfl, hgx.cells (by unfold int64; omega)⟩, Sep.part_mk (ek := stateEK) (x := { x with cells := x.cells.set x17.toNat x20 }) (vs := [z0, z1, z2]) (Sep.headp (A := [_, _, _, _, _, _, _]) (B := [_, _, _, _]) hS [1, 2, 3, 6] (by decide) rfl rfl) rfl⟩
   ·
    refine op_op rfl rfl (gw0 rfl) rfl rfl rfl (fun a w_ hF hS => r_bslice intEK [vi (-1), vi 0, vi 1, vi 2, vi 3, vi 130, vi 131] [-1, 0, 1, 2, 3, 130, 131] rfl mk26 rfl ⟨rfl, ec, rfl, ec, rfl, ec, rfl, ec, rfl, ec, rfl, ec, rfl, ec, trivial⟩ rfl rfl rfl rfl) ?_; intro gl_19
    refine todo_fork [(6, [9, 10, 11])] hl_ rfl (by kernel_rfl) (List.forall_mem_cons.2 ⟨?_, fun _ h_ => nomatch h_⟩)
    ·
     refine op_dw (m' := [9, 11]) (val := fun x : Int => vi x) (R := fun x => 0 ≤ x ∧ (x < (z0.2.1 : Int) ∨ ((z0.2.1 : Int) ≤ 0 ∧ x = 0))) rfl rfl (gw0 rfl) rfl rfl rfl rfl (fun a w_ hF => r_call2 en83 (hF.ev rfl) (hF.ev rfl)) (fun M_ w_ hS => l1Below_c hbs (q := 7) _ hS rfl) ?_; intro x17 h17; try clear hSd; try clear wd; intro wd hSd
     refine todo_fork [(9, [10, 11])] hl_ rfl (by kernel_rfl) (List.forall_mem_cons.2 ⟨?_, fun _ h_ => nomatch h_⟩)
     ·
      refine op_dw (m' := [11]) (val := fun x : Int => vi x) (R := fun x => x ∈ ([-1, 0, 1, 2, 3, 130, 131] : List Int)) rfl rfl (gw0 rfl) rfl rfl rfl rfl (fun a w_ hF => r_call2 en85 (hF.ev rfl) (hF.ev rfl)) (fun M_ w_ hS => l1PickInt_c hbs (q := 7) (fun w_ hS => (hS.own_rd (i := 1) rfl)) (by decide) hS rfl) ?_; intro x20 h20; try clear hSd; try clear wd; intro wd hSd
      obtain ⟨g21, o21, m21, q21, hv21, hm21, hl21, hc21⟩ := Rd.idxF ((hSd.own_rd (i := 1) rfl)) (at0_get (i := x17) (by omega) (by omega))
      refine todo_pure hl_ (by kernel_rfl) rfl (gw0 rfl) rfl rfl rfl (fun a w_ hF => r_index sl26 ((hF.ev rfl).trans hv21) (hF.ev rfl) (by omega) (by first | omega | (simp at hm21; omega))) ?_
      refine todo_fin hl_ rfl (by kernel_rfl) (tl := [_]) rfl ?_; clear hS a; intro a w33 hF hA_
      have hS := hA_.sep; clear hA_
      clear hl_; try clear hSd
      try dsimp only [List.cons_append, List.nil_append, List.set] at hS
      try clear wd
      refine wl_istore (q := 1) hF hS rfl hv21 (by omega) (by omega) sz3 (hF.ev rfl) rfl (hF.ev rfl) fun w34 hS => ?_; dsimp only [List.set] at hS
      refine wl_nil ⟨rfl, ?_⟩
      simp only [Exit.then, Exit.inBlock, ↓reduceIte]
      refine hK3 _ _ ?_
      refine ws fun K13 hK13 => ?_
      refine rb 1 4 hF tk hS rfl rfl rfl fun a hF => ?_
      refine wl_storew hF hS (i := 5) rfl (hF.ev rfl) (hF.ev rfl) sz29 rfl rfl fun w35 hS => ?_; dsimp only [List.set, Nat.reduceAdd] at hS
      refine wl_nil (hK13 _ _ ?_)
      refine wp_ret ?_
      try simp only [Exit.then, Exit.inBlock, ↓reduceIte]
      simp only [List.mem_cons, List.not_mem_nil, or_false] at h20
      exact ret1c rfl ag29 hF hS (i := 5) rfl sz29 rfl ⟨({ x with cells := x.cells.set x17.toNat x20 }, [z0, z1, z2]), ⟨rfl, hgx.cells (by unfold int64; omega)⟩, Sep.part_mk (ek := stateEK) (x := { x with cells := x.cells.set x17.toNat x20 }) (vs := [z0, z1, z2]) (Sep.headp (A := [_, _, _, _, _, _, _]) (B := [_, _, _, _]) hS [1, 2, 3, 6] (by decide) rfl rfl) rfl⟩
 obtain ⟨x, hx_⟩ : ∃ x, x = newState c5 := ⟨_, rfl⟩
 rw [← hx_] at hS
 try rw [← hx_] at hF
 have hgx : Good x := hx_ ▸ good_new h5
 obtain ⟨ho_, hc_, hgl_, ht_⟩ := hgx.sh
 have hb_ := ho_; unfold Config.ok at hb_
 have hz_ := hgx.sz
 have hcc_ := cellCount_eq ho_
 replace hS := hS.pull (p := 1) rfl; dsimp only [List.eraseIdx] at hS
 replace hS : Sep W (Own intEK (sv (vs6.getD 0 (none, 0, 0))) (x).cells :: Own intEK (sv (vs6.getD 1 (none, 0, 0))) (x).generations :: Own threadEK (sv (vs6.getD 2 (none, 0, 0))) (x).threads :: _) _ := hS.part_open
 dsimp only [stateEK] at hS
 generalize vs6.getD 0 (none, 0, 0) = z0 at hS
 generalize vs6.getD 1 (none, 0, 0) = z1 at hS
 generalize vs6.getD 2 (none, 0, 0) = z2 at hS
 have hcap_ : (x).cells.length ≤ z0.2.2 := by
   obtain ⟨A_, c_, e_, h1_, _⟩ := (hS.own_rd (i := 0) rfl).sl
   have e2_ : z0.2.2 = c_ := by injection e_
   rw [e2_]; exact h1_
 have hl0_ := hS.own_len (q := 0) rfl
 have hl1_ := hS.own_len (q := 1) rfl
 have hl2_ := hS.own_len (q := 2) rfl
 refine ws fun K14 hK14 => ?_
 refine ra 2 hF tk rfl fun a hF => ?_
 refine wl_nil (hK14 _ _ ?_)
 refine wc_fx (t := 22) hF rfl ?_ ?_ <;> clear hF <;> intro c22 hF <;> try simp only [zb] at c22
 ·
  refine wp_region_todo (is := [0, 2, 3, 4, 1, 5, 6]) [] [4, 6] (by kernel_rfl) hF hS ⟨trivial, by decide, by decide, by decide⟩ (by kernel_rfl) ?_; clear hF; intro hl_ wd hSd
  refine todo_pure hl_ (by kernel_rfl) rfl (gw0 rfl) rfl rfl rfl (fun a w_ hF => r_field fo29_2 (hF.ev rfl)) ?_
  refine todo_pure hl_ (by kernel_rfl) rfl (gw0 rfl) rfl rfl rfl (fun a w_ hF => r_move (hF.ev rfl)) ?_
  refine todo_fork [(3, [4, 1, 5, 6]), (1, [3, 4, 5, 6])] hl_ rfl (by kernel_rfl) (List.forall_mem_cons.2 ⟨?_, List.forall_mem_cons.2 ⟨?_, fun _ h_ => nomatch h_⟩⟩)
  ·
   refine op_op rfl rfl (gw0 rfl) rfl rfl rfl (fun a w_ hF hS => r_bslice intEK [vi (-1), vi 1, vi 9998, vi 9999] [-1, 1, 9998, 9999] rfl mk26 rfl ⟨rfl, ec, rfl, ec, rfl, ec, rfl, ec, trivial⟩ rfl rfl rfl rfl) ?_; intro gl_27
   refine todo_fork [(4, [1, 5, 6]), (1, [4, 5, 6])] hl_ rfl (by kernel_rfl) (List.forall_mem_cons.2 ⟨?_, List.forall_mem_cons.2 ⟨?_, fun _ h_ => nomatch h_⟩⟩)
   ·
    refine op_dw (m' := [6]) (val := fun x : Int => vi x) (R := fun x => x ∈ ([-1, 1, 9998, 9999] : List Int)) rfl rfl (gw0 rfl) rfl rfl rfl rfl (fun a w_ hF => r_call2 en85 (hF.ev rfl) (hF.ev rfl)) (fun M_ w_ hS => l1PickInt_c hbs (q := 7) (fun w_ hS => (hS.own_rd (i := 1) rfl)) (by decide) hS rfl) ?_; intro x28 h28; try clear hSd; try clear wd; intro wd hSd
    refine todo_load [5, 6] hl_ (by kernel_rfl) rfl (gw0 rfl) rfl rfl rfl (fun a w_ hF hB_ => r_load1 sc26 (hF.ev rfl) ((hSd.ext hB_).box (i := 4) rfl rfl)) ?_
    obtain ⟨g29, o29, m29, q29, hv29, hm29, hl29, hc29⟩ := Rd.idxF ((hSd.own_rd (i := 2) rfl)) (at0_get (i := (0 : Int)) (by omega) (by omega))
    refine todo_pure hl_ (by kernel_rfl) rfl (gw0 rfl) rfl rfl rfl (fun a w_ hF => r_index sl26 ((hF.ev rfl).trans hv29) ec (by omega) (by first | omega | (simp at hm29; omega))) ?_
    refine todo_fin hl_ rfl (by kernel_rfl) (tl := [_]) rfl ?_; clear hS a; intro a w37 hF hA_
    have hS := hA_.sep; clear hA_
    clear hl_; try clear hSd
    try dsimp only [List.cons_append, List.nil_append, List.set] at hS
    try clear wd
    refine wl_istore (q := 2) hF hS rfl hv29 (by omega) (by omega) sz3 (hF.ev rfl) rfl (hF.ev rfl) fun w38 hS => ?_; dsimp only [List.set] at hS
    refine wl_nil ⟨rfl, ?_⟩
    simp only [Exit.then, Exit.inBlock, ↓reduceIte]
    refine hK3 _ _ ?_
    refine ws fun K15 hK15 => ?_
    refine rb 1 4 hF tk hS rfl rfl rfl fun a hF => ?_
    refine wl_storew hF hS (i := 5) rfl (hF.ev rfl) (hF.ev rfl) sz29 rfl rfl fun w39 hS => ?_; dsimp only [List.set, Nat.reduceAdd] at hS
    refine wl_nil (hK15 _ _ ?_)
    refine wp_ret ?_
    try simp only [Exit.then, Exit.inBlock, ↓reduceIte]
    simp only [List.mem_cons, List.not_mem_nil, or_false] at h28
    exact ret1c rfl ag29 hF hS (i := 5) rfl sz29 rfl ⟨({ x with generations := x.generations.set 0 x28 }, [z0, z1, z2]), ⟨rfl, hgx.gens (by unfold int64; omega)⟩, Sep.part_mk (ek := stateEK) (x := { x with generations := x.generations.set 0 x28 }) (vs := [z0, z1, z2]) (Sep.headp (A := [_, _, _, _, _, _, _]) (B := [_, _, _, _]) hS [1, 2, 3, 6] (by decide) rfl rfl) rfl⟩
   ·
    refine op_ld rfl rfl (gw0 rfl) rfl rfl rfl (fun a w_ hF hS => r_load1 sc26 (hF.ev rfl) (hS.box (i := 4) rfl rfl)) ?_
    refine todo_fork [(4, [5, 6])] hl_ rfl (by kernel_rfl) (List.forall_mem_cons.2 ⟨?_, fun _ h_ => nomatch h_⟩)
    ·
     refine op_dw (m' := [6]) (val := fun x : Int => vi x) (R := fun x => x ∈ ([-1, 1, 9998, 9999] : List Int)) rfl rfl (gw0 rfl) rfl rfl rfl rfl (fun a w_ hF => r_call2 en85 (hF.ev rfl) (hF.ev rfl)) (fun M_ w_ hS => l1PickInt_c hbs (q := 7) (fun w_ hS => (hS.own_rd (i := 1) rfl)) (by decide) hS rfl) ?_; intro x28 h28; try clear hSd; try clear wd; intro wd hSd
     obtain ⟨g29, o29, m29, q29, hv29, hm29, hl29, hc29⟩ := Rd.idxF ((hSd.own_rd (i := 2) rfl)) (at0_get (i := (0 : Int)) (by omega) (by omega))
     refine todo_pure hl_ (by kernel_rfl) rfl (gw0 rfl) rfl rfl rfl (fun a w_ hF => r_index sl26 ((hF.ev rfl).trans hv29) ec (by omega) (by first | omega | (simp at hm29; omega))) ?_
     refine todo_fin hl_ rfl (by kernel_rfl) (tl := [_]) rfl ?_; clear hS a; intro a w40 hF hA_
     have hS := hA_.sep; clear hA_
     clear hl_; try clear hSd
     try dsimp only [List.cons_append, List.nil_append, List.set] at hS
     try clear wd
     refine wl_istore (q := 2) hF hS rfl hv29 (by omega) (by omega) sz3 (hF.ev rfl) rfl (hF.ev rfl) fun w41 hS => ?_; dsimp only [List.set] at hS
     refine wl_nil ⟨rfl, ?_⟩
     simp only [Exit.then, Exit.inBlock, ↓reduceIte]
     refine hK3 _ _ ?_
     refine ws fun K16 hK16 => ?_
     refine rb 1 4 hF tk hS rfl rfl rfl fun a hF => ?_
     refine wl_storew hF hS (i := 5) rfl (hF.ev rfl) (hF.ev rfl) sz29 rfl rfl fun w42 hS => ?_; dsimp only [List.set, Nat.reduceAdd] at hS
     refine wl_nil (hK16 _ _ ?_)
     refine wp_ret ?_
     try simp only [Exit.then, Exit.inBlock, ↓reduceIte]
     simp only [List.mem_cons, List.not_mem_nil, or_false] at h28
     exact ret1c rfl ag29 hF hS (i := 5) rfl sz29 rfl ⟨({ x with generations := x.generations.set 0 x28 }, [z0, z1, z2]), ⟨rfl, hgx.gens (by unfold int64; omega)⟩, Sep.part_mk (ek := stateEK) (x := { x with generations := x.generations.set 0 x28 }) (vs := [z0, z1, z2]) (Sep.headp (A := [_, _, _, _, _, _, _]) (B := [_, _, _, _]) hS [1, 2, 3, 6] (by decide) rfl rfl) rfl⟩
  ·
   refine op_ld rfl rfl (gw0 rfl) rfl rfl rfl (fun a w_ hF hS => r_load1 sc26 (hF.ev rfl) (hS.box (i := 3) rfl rfl)) ?_
   refine todo_op hl_ rfl (by kernel_rfl) rfl rfl rfl rfl rfl (fun a w_ hF hS => r_bslice intEK [vi (-1), vi 1, vi 9998, vi 9999] [-1, 1, 9998, 9999] rfl mk26 rfl ⟨rfl, ec, rfl, ec, rfl, ec, rfl, ec, trivial⟩ rfl rfl rfl rfl) ?_; intro gl_27
   refine todo_fork [(4, [5, 6])] hl_ rfl (by kernel_rfl) (List.forall_mem_cons.2 ⟨?_, fun _ h_ => nomatch h_⟩)
   ·
    refine op_dw (m' := [6]) (val := fun x : Int => vi x) (R := fun x => x ∈ ([-1, 1, 9998, 9999] : List Int)) rfl rfl (gw0 rfl) rfl rfl rfl rfl (fun a w_ hF => r_call2 en85 (hF.ev rfl) (hF.ev rfl)) (fun M_ w_ hS => l1PickInt_c hbs (q := 7) (fun w_ hS => (hS.own_rd (i := 1) rfl)) (by decide) hS rfl) ?_; intro x28 h28; try clear hSd; try clear wd; intro wd hSd
    obtain ⟨g29, o29, m29, q29, hv29, hm29, hl29, hc29⟩ := Rd.idxF ((hSd.own_rd (i := 2) rfl)) (at0_get (i := (0 : Int)) (by omega) (by omega))
    refine todo_pure hl_ (by kernel_rfl) rfl (gw0 rfl) rfl rfl rfl (fun a w_ hF => r_index sl26 ((hF.ev rfl).trans hv29) ec (by omega) (by first | omega | (simp at hm29; omega))) ?_
    refine todo_fin hl_ rfl (by kernel_rfl) (tl := [_]) rfl ?_; clear hS a; intro a w44 hF hA_
    have hS := hA_.sep; clear hA_
    clear hl_; try clear hSd
    try dsimp only [List.cons_append, List.nil_append, List.set] at hS
    try clear wd
    refine wl_istore (q := 2) hF hS rfl hv29 (by omega) (by omega) sz3 (hF.ev rfl) rfl (hF.ev rfl) fun w45 hS => ?_; dsimp only [List.set] at hS
    refine wl_nil ⟨rfl, ?_⟩
    simp only [Exit.then, Exit.inBlock, ↓reduceIte]
    refine hK3 _ _ ?_
    refine ws fun K17 hK17 => ?_
    refine rb 1 4 hF tk hS rfl rfl rfl fun a hF => ?_
    refine wl_storew hF hS (i := 5) rfl (hF.ev rfl) (hF.ev rfl) sz29 rfl rfl fun w46 hS => ?_; dsimp only [List.set, Nat.reduceAdd] at hS
    refine wl_nil (hK17 _ _ ?_)
    refine wp_ret ?_
    try simp only [Exit.then, Exit.inBlock, ↓reduceIte]
    simp only [List.mem_cons, List.not_mem_nil, or_false] at h28
    exact ret1c rfl ag29 hF hS (i := 5) rfl sz29 rfl ⟨({ x with generations := x.generations.set 0 x28 }, [z0, z1, z2]), ⟨rfl, hgx.gens (by unfold int64; omega)⟩, Sep.part_mk (ek := stateEK) (x := { x with generations := x.generations.set 0 x28 }) (vs := [z0, z1, z2]) (Sep.headp (A := [_, _, _, _, _, _, _]) (B := [_, _, _, _]) hS [1, 2, 3, 6] (by decide) rfl rfl) rfl⟩
 refine ws fun K18 hK18 => ?_
 refine ra 2 hF tk rfl fun a hF => ?_
 refine wl_nil (hK18 _ _ ?_)
 refine wc_fx (t := 30) hF rfl ?_ ?_ <;> clear hF <;> intro c30 hF <;> try simp only [zb] at c30
 ·
  refine wp_region_todo (is := [0, 2, 3, 1, 4, 5]) [] [3, 5] (by kernel_rfl) hF hS ⟨trivial, by decide, by decide, by decide⟩ (by kernel_rfl) ?_; clear hF; intro hl_ wd hSd
  refine todo_pure hl_ (by kernel_rfl) rfl (gw0 rfl) rfl rfl rfl (fun a w_ hF => r_field fo29_3 (hF.ev rfl)) ?_
  refine todo_pure hl_ (by kernel_rfl) rfl (gw0 rfl) rfl rfl rfl (fun a w_ hF => r_move (hF.ev rfl)) ?_
  refine todo_fork [(3, [1, 4, 5]), (1, [3, 4, 5])] hl_ rfl (by kernel_rfl) (List.forall_mem_cons.2 ⟨?_, List.forall_mem_cons.2 ⟨?_, fun _ h_ => nomatch h_⟩⟩)
  ·
   refine op_mc (Γ := {z : Sl.Thread × List Slv // z.1.wf ∧ z.1.size ≤ 60 ∧ 0 ≤ z.1.seen}) (m' := [5]) rfl (gw0 rfl) rfl rfl rfl (fun a w_ hF => r_call1 en179 (hF.ev rfl)) (fun w_ hS => calls_sub (l7Thread_h hbs (Sep.headp (A := [_, _, _, _, _, _]) (B := [_, _, _, _, _, _]) hS [5, 0, 1, 2, 3, 4] (by decide) rfl rfl))) ?_; intro ⟨⟨t35, vs35⟩, hw35, hz35, hs35⟩; try clear hSd; try clear wd; intro wd hSd
   refine todo_load [4, 5] hl_ (by kernel_rfl) rfl (gw0 rfl) rfl rfl rfl (fun a w_ hF hB_ => r_load1 sc27 (hF.ev rfl) ((hSd.ext hB_).box (i := 5) rfl rfl)) ?_
   obtain ⟨g36, o36, m36, q36, cs36, hv36, hm36, hl36, hk36, hz36, hc36⟩ := Rd.idx ((hSd.own_rd (i := 4) rfl)) (at0_get (i := (0 : Int)) (by omega) (by omega))
   have hkk36 := hk36; obtain ⟨v36_0, v36_1, v36_2, v36_3, v36_4, rfl, r36_0, r36_1, r36_2, r36_3, r36_4⟩ := hk36
   refine todo_pure hl_ (by kernel_rfl) rfl (gw0 rfl) rfl rfl rfl (fun a w_ hF => r_index sl27 ((hF.ev rfl).trans hv36) ec (by omega) (by first | omega | (simp at hm36; omega))) ?_
   refine todo_fin hl_ rfl (by kernel_rfl) (tl := [_]) rfl ?_; clear hS a; intro a w47 hF hA_
   have hS := hA_.sep; clear hA_
   clear hl_; try clear hSd
   try dsimp only [List.cons_append, List.nil_append, List.set] at hS
   try clear wd
   replace hS := hS.pull (p := 0) rfl; dsimp only [List.eraseIdx] at hS
   refine wl_oput (q := 3) hF hS rfl hv36 (at0_get (by omega) (by first | omega | (simp; omega))) sz42 (hF.ev rfl) rfl (hF.ev rfl) rfl fun w48 hS => ?_; dsimp only [List.set] at hS
   refine wl_nil ⟨rfl, ?_⟩
   simp only [Exit.then, Exit.inBlock, ↓reduceIte]
   refine hK3 _ _ ?_
   refine ws fun K19 hK19 => ?_
   refine rb 1 4 hF tk hS rfl rfl rfl fun a hF => ?_
   refine wl_storew hF hS (i := 5) rfl (hF.ev rfl) (hF.ev rfl) sz29 rfl rfl fun w49 hS => ?_; dsimp only [List.set, Nat.reduceAdd] at hS
   refine wl_nil (hK19 _ _ ?_)
   refine wp_ret ?_
   try simp only [Exit.then, Exit.inBlock, ↓reduceIte]
   exact ret1c rfl ag29 hF hS (i := 5) rfl sz29 rfl ⟨({ x with threads := x.threads.set 0 t35 }, [z0, z1, z2]), ⟨rfl, new_threadX hx_ h5 hw35 hz35 hs35⟩, Sep.part_mk (ek := stateEK) (x := { x with threads := x.threads.set 0 t35 }) (vs := [z0, z1, z2]) (Sep.headp (A := [_, _, _, _, _, _]) (B := [_, _, _, _]) hS [1, 2, 3, 0] (by decide) rfl rfl) rfl⟩
  ·
   refine op_ld rfl rfl (gw0 rfl) rfl rfl rfl (fun a w_ hF hS => r_load1 sc27 (hF.ev rfl) (hS.box (i := 3) rfl rfl)) ?_
   refine todo_fork [(3, [4, 5])] hl_ rfl (by kernel_rfl) (List.forall_mem_cons.2 ⟨?_, fun _ h_ => nomatch h_⟩)
   ·
    refine op_mc (Γ := {z : Sl.Thread × List Slv // z.1.wf ∧ z.1.size ≤ 60 ∧ 0 ≤ z.1.seen}) (m' := [5]) rfl (gw0 rfl) rfl rfl rfl (fun a w_ hF => r_call1 en179 (hF.ev rfl)) (fun w_ hS => calls_sub (l7Thread_h hbs (Sep.headp (A := [_, _, _, _, _, _]) (B := [_, _, _, _, _, _]) hS [5, 0, 1, 2, 3, 4] (by decide) rfl rfl))) ?_; intro ⟨⟨t35, vs35⟩, hw35, hz35, hs35⟩; try clear hSd; try clear wd; intro wd hSd
    obtain ⟨g36, o36, m36, q36, cs36, hv36, hm36, hl36, hk36, hz36, hc36⟩ := Rd.idx ((hSd.own_rd (i := 4) rfl)) (at0_get (i := (0 : Int)) (by omega) (by omega))
    have hkk36 := hk36; obtain ⟨v36_0, v36_1, v36_2, v36_3, v36_4, rfl, r36_0, r36_1, r36_2, r36_3, r36_4⟩ := hk36
    refine todo_pure hl_ (by kernel_rfl) rfl (gw0 rfl) rfl rfl rfl (fun a w_ hF => r_index sl27 ((hF.ev rfl).trans hv36) ec (by omega) (by first | omega | (simp at hm36; omega))) ?_
    refine todo_fin hl_ rfl (by kernel_rfl) (tl := [_]) rfl ?_; clear hS a; intro a w50 hF hA_
    have hS := hA_.sep; clear hA_
    clear hl_; try clear hSd
    try dsimp only [List.cons_append, List.nil_append, List.set] at hS
    try clear wd
    replace hS := hS.pull (p := 0) rfl; dsimp only [List.eraseIdx] at hS
    refine wl_oput (q := 3) hF hS rfl hv36 (at0_get (by omega) (by first | omega | (simp; omega))) sz42 (hF.ev rfl) rfl (hF.ev rfl) rfl fun w51 hS => ?_; dsimp only [List.set] at hS
    refine wl_nil ⟨rfl, ?_⟩
    simp only [Exit.then, Exit.inBlock, ↓reduceIte]
    refine hK3 _ _ ?_
    refine ws fun K20 hK20 => ?_
    refine rb 1 4 hF tk hS rfl rfl rfl fun a hF => ?_
    refine wl_storew hF hS (i := 5) rfl (hF.ev rfl) (hF.ev rfl) sz29 rfl rfl fun w52 hS => ?_; dsimp only [List.set, Nat.reduceAdd] at hS
    refine wl_nil (hK20 _ _ ?_)
    refine wp_ret ?_
    try simp only [Exit.then, Exit.inBlock, ↓reduceIte]
    exact ret1c rfl ag29 hF hS (i := 5) rfl sz29 rfl ⟨({ x with threads := x.threads.set 0 t35 }, [z0, z1, z2]), ⟨rfl, new_threadX hx_ h5 hw35 hz35 hs35⟩, Sep.part_mk (ek := stateEK) (x := { x with threads := x.threads.set 0 t35 }) (vs := [z0, z1, z2]) (Sep.headp (A := [_, _, _, _, _, _]) (B := [_, _, _, _]) hS [1, 2, 3, 0] (by decide) rfl rfl) rfl⟩
 refine ws fun K21 hK21 => ?_
 refine ra 2 hF tk rfl fun a hF => ?_
 refine wl_nil (hK21 _ _ ?_)
 refine wc_fx (t := 37) hF rfl ?_ ?_ <;> clear hF <;> intro c37 hF <;> try simp only [zb] at c37
 ·
  refine wp_region_lit ?_
  refine rb 2 3 hF tk hS rfl rfl rfl fun a hF => ?_
  refine wl hF rfl rfl rfl (r_cutlo (i := 1) sl26 (hF.ev rfl) (ec.trans (by first | rfl | (congr 1; omega))) (by omega) (by omega)) fun a hF => ?_
  replace hS := hS.own_cut (q := 0) (i := 1) (j := x.cells.length) rfl (by omega) (by omega); dsimp only [List.set] at hS; try rw [List.take_length] at hS; try rw [List.drop_zero] at hS
  refine ra 1 hF tk rfl fun a hF => ?_
  refine wl_store hF hS (i := 3) rfl sz26 (hF.ev rfl) (hF.ev rfl) rfl rfl fun w53 hS => ?_; dsimp only [List.set, Nat.reduceAdd] at hS
  refine wl_nil ?_
  simp only [Exit.then, Exit.inBlock, ↓reduceIte]
  refine hK3 _ _ ?_
  refine ws fun K22 hK22 => ?_
  refine rb 1 3 hF tk hS rfl rfl rfl fun a hF => ?_
  refine wl_storew hF hS (i := 4) rfl (hF.ev rfl) (hF.ev rfl) sz29 rfl rfl fun w54 hS => ?_; dsimp only [List.set, Nat.reduceAdd] at hS
  refine wl_nil (hK22 _ _ ?_)
  refine wp_ret ?_
  try simp only [Exit.then, Exit.inBlock, ↓reduceIte]
  rw [← hl0_] at hS
  exact ret1c rfl ag29 hF hS (i := 4) rfl sz29 rfl ⟨({ x with cells := x.cells.drop 1 }, [(cutA z0.1 intEK.sz z0.2.2 1, z0.2.1 - 1, z0.2.2 - 1), z1, z2]), ⟨rfl, hgx.fewer⟩, Sep.part_mk (ek := stateEK) (x := { x with cells := x.cells.drop 1 }) (vs := [(cutA z0.1 intEK.sz z0.2.2 1, z0.2.1 - 1, z0.2.2 - 1), z1, z2]) (Sep.headp (A := [_, _, _, _, _, _]) (B := [_, _, _, _]) hS [0, 1, 2, 5] (by decide) rfl rfl) rfl⟩
 refine ws fun K23 hK23 => ?_
 refine ra 2 hF tk rfl fun a hF => ?_
 refine wl_nil (hK23 _ _ ?_)
 refine wc_fx (t := 43) hF rfl ?_ ?_ <;> clear hF <;> intro c43 hF <;> try simp only [zb] at c43
 ·
  refine wp_region_lit ?_
  refine ra 1 hF tk rfl fun a hF => ?_
  refine wl_bslice intEK [vi (-1), vi 3, vi 1000001] [-1, 3, 1000001] rfl hF hS rfl mk26 rfl ⟨rfl, ec, rfl, ec, rfl, ec, trivial⟩ rfl rfl rfl rfl ?_; clear hF a; intro gl_46 w55 a hS_ hF; replace hS := hS_; clear hS_
  refine wl_call hF rfl rfl rfl (r_call2 en85 (hF.ev rfl) (hF.ev rfl)) (l1PickInt_c hbs (q := 6) (fun w_ hS => (hS.own_rd (i := 0) rfl)) (by decide) hS rfl) ?_; clear hF a; rintro v w56 a ⟨⟨x47, rfl, h47⟩, hS⟩ hF
  refine ra 1 hF tk rfl fun a hF => ?_
  refine wl_store hF hS (i := 4) rfl sz3 (hF.ev rfl) (hF.ev rfl) rfl rfl fun w57 hS => ?_; dsimp only [List.set, Nat.reduceAdd] at hS
  refine wl_nil ?_
  simp only [Exit.then, Exit.inBlock, ↓reduceIte]
  refine hK3 _ _ ?_
  refine ws fun K24 hK24 => ?_
  refine rb 1 4 hF tk hS rfl rfl rfl fun a hF => ?_
  refine wl_storew hF hS (i := 5) rfl (hF.ev rfl) (hF.ev rfl) sz29 rfl rfl fun w58 hS => ?_; dsimp only [List.set, Nat.reduceAdd] at hS
  refine wl_nil (hK24 _ _ ?_)
  refine wp_ret ?_
  try simp only [Exit.then, Exit.inBlock, ↓reduceIte]
  simp only [List.mem_cons, List.not_mem_nil, or_false] at h47
  exact ret1c rfl ag29 hF hS (i := 5) rfl sz29 rfl ⟨({ x with faults := x47 }, [z0, z1, z2]), ⟨rfl, hgx.faults (by unfold int64; omega)⟩, Sep.part_mk (ek := stateEK) (x := { x with faults := x47 }) (vs := [z0, z1, z2]) (Sep.headp (A := [_, _, _, _, _, _, _]) (B := [_, _, _, _]) hS [1, 2, 3, 6] (by decide) rfl rfl) rfl⟩
 refine wp_skip ?_
 simp only [Exit.then, Exit.inBlock, ↓reduceIte]
 refine hK3 _ _ ?_
 refine ws fun K25 hK25 => ?_
 refine rb 1 3 hF tk hS rfl rfl rfl fun a hF => ?_
 refine wl_storew hF hS (i := 4) rfl (hF.ev rfl) (hF.ev rfl) sz29 rfl rfl fun w59 hS => ?_; dsimp only [List.set, Nat.reduceAdd] at hS
 refine wl_nil (hK25 _ _ ?_)
 refine wp_ret ?_
 try simp only [Exit.then, Exit.inBlock, ↓reduceIte]
 exact ret1c rfl ag29 hF hS (i := 4) rfl sz29 rfl ⟨(x, [z0, z1, z2]), ⟨rfl, hgx.drawn⟩, Sep.part_mk (ek := stateEK) (x := x) (vs := [z0, z1, z2]) (Sep.headp (A := [_, _, _, _, _, _]) (B := [_, _, _, _]) hS [0, 1, 2, 5] (by decide) rfl rfl) rfl⟩
set_option maxHeartbeats 4000000 in
set_option maxRecDepth 20000 in
theorem l18Any_h {W : World} {g : Nat} {vb : Value} {bs : List Int} (hbs : byteEK.Rd W vb bs) {l : List Res} {w : World} (hS : Sep W (Cur g vb bs.length :: l) w) : Calls Tryz.prog 82 #[.pointer (some ⟨g, 0, none⟩)] w (Ret fun v w' => ∃ z : Sl.State × List Slv, (v = .agg (stateEK.cells z.1 z.2).toArray ∧ Drawn z.1) ∧ Sep W (Part stateEK z.1 z.2 :: Cur g vb bs.length :: l) w') := by
 refine calls_fr Tryz.func82 rfl Tryz.ntmps82 rfl ?_
 intro a hF
 refine ws fun K1 hK1 => ?_
 refine wl_alloc hF hS rfl zr29 ?_; clear hF a; intro g1 w1 a hS_ hB_ hF; replace hS := hS_; clear hS_ hB_
 refine wl_nil (hK1 _ _ ?_)
 refine wp_seq_k fun K2 hK2 => ?_
 refine ws fun K3 hK3 => ?_
 refine ra 1 hF tk rfl fun a hF => ?_
 refine wl_call hF rfl rfl rfl (r_call2 en101 (hF.ev rfl) ec) (l1Once_c hbs (q := 1) _ hS rfl) ?_; clear hF a; rintro v w2 a ⟨⟨b5, rfl⟩, hS⟩ hF
 refine wl_nil (hK3 _ _ ?_)
 refine wc_fx (t := 5) hF rfl ?_ ?_ <;> clear hF <;> intro c5 hF <;> try simp only [zb] at c5
 ·
  refine ws fun K4 hK4 => ?_
  refine ra 1 hF tk rfl fun a hF => ?_
  replace hS := hS.pull (p := 1) rfl; dsimp only [List.eraseIdx] at hS
  refine wl_call hF rfl rfl rfl (r_call1 en144 (hF.ev rfl)) (l9State_h hbs hS) ?_; clear hF a; rintro v w3 a ⟨⟨x7, vs7⟩, ⟨rfl, hg7⟩, hS⟩ hF
  try dsimp only at hz7
  refine wl_storew hF hS (i := 2) rfl (hF.ev rfl) (hF.ev rfl) sz29 rfl rfl fun w4 hS => ?_; dsimp only [List.set, Nat.reduceAdd] at hS
  refine wl_nil (hK4 _ _ ?_)
  refine wp_ret ?_
  try simp only [Exit.then, Exit.inBlock, ↓reduceIte]
  exact ret1c rfl ag29 hF hS (i := 2) rfl sz29 rfl ⟨(x7, vs7), ⟨rfl, hg7⟩, (Sep.headp (A := [_, _, _]) (B := [_, _]) hS [0, 1] (by decide) rfl rfl)⟩
 refine wp_skip ?_
 refine hK2 _ _ ?_
 refine ws fun K5 hK5 => ?_
 refine ra 1 hF tk rfl fun a hF => ?_
 replace hS := hS.pull (p := 1) rfl; dsimp only [List.eraseIdx] at hS
 refine wl_call hF rfl rfl rfl (r_call2 en100 (hF.ev rfl) ec) (l18Run_h hbs (by omega) hS) ?_; clear hF a; rintro v w5 a ⟨⟨x9, vs9⟩, ⟨rfl, hg9⟩, hS⟩ hF
 try dsimp only at hz9
 refine wl_alloc hF hS rfl zr29 ?_; clear hF a; intro g2 w6 a hS_ hB_ hF; replace hS := hS_; clear hS_ hB_
 refine wl_storew hF hS (i := 0) rfl (hF.ev rfl) (hF.ev rfl) sz29 rfl rfl fun w7 hS => ?_; dsimp only [List.set, Nat.reduceAdd] at hS
 refine wl_nil (hK5 _ _ ?_)
 refine wp_seq_k fun K6 hK6 => ?_
 refine ws fun K7 hK7 => ?_
 refine ra 1 hF tk rfl fun a hF => ?_
 refine wl_call hF rfl rfl rfl (r_call2 en83 (hF.ev rfl) ec) (l1Below_c hbs (q := 2) _ hS rfl) ?_; clear hF a; rintro v w8 a ⟨⟨x11, rfl, h11⟩, hS⟩ hF
 refine wl_nil (hK7 _ _ ?_)
 refine wp_block ?_
 refine ws fun K8 hK8 => ?_
 refine ra 2 hF tk rfl fun a hF => ?_
 refine wl_nil (hK8 _ _ ?_)
 refine wc_fx (t := 12) hF rfl ?_ ?_ <;> clear hF <;> intro c12 hF <;> try simp only [zb] at c12
 ·
  try dsimp only at hg9
  obtain ⟨ho_, hc_, hgl_, ht_⟩ := hg9.sh
  have hb_ := ho_; unfold Config.ok at hb_
  have hz_ := hg9.sz
  have hcc_ := cellCount_eq ho_
  replace hS := hS.pull (p := 1) rfl; dsimp only [List.eraseIdx] at hS
  replace hS : Sep W (Own intEK (sv (vs9.getD 0 (none, 0, 0))) (x9).cells :: Own intEK (sv (vs9.getD 1 (none, 0, 0))) (x9).generations :: Own threadEK (sv (vs9.getD 2 (none, 0, 0))) (x9).threads :: _) _ := hS.part_open
  dsimp only [stateEK] at hS
  generalize vs9.getD 0 (none, 0, 0) = z0 at hS
  generalize vs9.getD 1 (none, 0, 0) = z1 at hS
  generalize vs9.getD 2 (none, 0, 0) = z2 at hS
  have hcap_ : (x9).cells.length ≤ z0.2.2 := by
    obtain ⟨A_, c_, e_, h1_, _⟩ := (hS.own_rd (i := 0) rfl).sl
    have e2_ : z0.2.2 = c_ := by injection e_
    rw [e2_]; exact h1_
  have hl0_ := hS.own_len (q := 0) rfl
  have hl1_ := hS.own_len (q := 1) rfl
  have hl2_ := hS.own_len (q := 2) rfl
  refine wp_region_todo (is := [0, 2, 3, 4, 5, 7, 6, 8, 9, 1, 10, 11]) [] [6, 9, 11] (by kernel_rfl) hF hS ⟨trivial, by decide, by decide, by decide⟩ (by kernel_rfl) ?_; clear hF; intro hl_ wd hSd
  refine todo_pure hl_ (by kernel_rfl) rfl (gw0 rfl) rfl rfl rfl (fun a w_ hF => r_field fo29_1 (hF.ev rfl)) ?_
  refine todo_pure hl_ (by kernel_rfl) rfl (gw0 rfl) rfl rfl rfl (fun a w_ hF => r_move (hF.ev rfl)) ?_
  refine todo_pure hl_ (by kernel_rfl) rfl (gw0 rfl) rfl rfl rfl (fun a w_ hF => r_field fo29_1 (hF.ev rfl)) ?_
  refine todo_load [5, 6, 9, 10, 11] hl_ (by kernel_rfl) rfl (gw0 rfl) rfl rfl rfl (fun a w_ hF hB_ => r_load1 sc26 (hF.ev rfl) ((hSd.ext hB_).box (i := 3) rfl rfl)) ?_
  refine todo_pure hl_ (by kernel_rfl) rfl (gw0 rfl) rfl rfl rfl (fun a w_ hF => r_len ul26 (hF.ev rfl)) ?_
  refine todo_pure hl_ (by kernel_rfl) rfl (gw0 rfl) rfl rfl rfl (fun a w_ hF => r_move (hF.ev rfl)) ?_
  refine todo_fork [(6, [8, 9, 1, 10, 11]), (8, [6, 9, 1, 10, 11]), (1, [6, 8, 9, 10, 11])] hl_ rfl (by kernel_rfl) (List.forall_mem_cons.2 ⟨?_, List.forall_mem_cons.2 ⟨?_, List.forall_mem_cons.2 ⟨?_, fun _ h_ => nomatch h_⟩⟩⟩)
  ·
   refine op_dw (m' := [9, 11]) (val := fun x : Int => vi x) (R := fun x => 0 ≤ x ∧ (x < (z0.2.1 : Int) ∨ ((z0.2.1 : Int) ≤ 0 ∧ x = 0))) rfl rfl (gw0 rfl) rfl rfl rfl rfl (fun a w_ hF => r_call2 en83 (hF.ev rfl) (hF.ev rfl)) (fun M_ w_ hS => l1Below_c hbs (q := 5) _ hS rfl) ?_; intro x20 h20; try clear hSd; try clear wd; intro wd hSd
   refine todo_fork [(8, [9, 1, 10, 11]), (1, [8, 9, 10, 11])] hl_ rfl (by kernel_rfl) (List.forall_mem_cons.2 ⟨?_, List.forall_mem_cons.2 ⟨?_, fun _ h_ => nomatch h_⟩⟩)
   ·
    refine op_op rfl rfl (gw0 rfl) rfl rfl rfl (fun a w_ hF hS => r_bslice intEK [vi (-1), vi 0, vi 1, vi 2, vi 3, vi 130, vi 131] [-1, 0, 1, 2, 3, 130, 131] rfl mk26 rfl ⟨rfl, ec, rfl, ec, rfl, ec, rfl, ec, rfl, ec, rfl, ec, rfl, ec, trivial⟩ rfl rfl rfl rfl) ?_; intro gl_22
    refine todo_fork [(9, [1, 10, 11]), (1, [9, 10, 11])] hl_ rfl (by kernel_rfl) (List.forall_mem_cons.2 ⟨?_, List.forall_mem_cons.2 ⟨?_, fun _ h_ => nomatch h_⟩⟩)
    ·
     refine op_dw (m' := [11]) (val := fun x : Int => vi x) (R := fun x => x ∈ ([-1, 0, 1, 2, 3, 130, 131] : List Int)) rfl rfl (gw0 rfl) rfl rfl rfl rfl (fun a w_ hF => r_call2 en85 (hF.ev rfl) (hF.ev rfl)) (fun M_ w_ hS => l1PickInt_c hbs (q := 6) (fun w_ hS => (hS.own_rd (i := 1) rfl)) (by decide) hS rfl) ?_; intro x23 h23; try clear hSd; try clear wd; intro wd hSd
     refine todo_load [10, 11] hl_ (by kernel_rfl) rfl (gw0 rfl) rfl rfl rfl (fun a w_ hF hB_ => r_load1 sc26 (hF.ev rfl) ((hSd.ext hB_).box (i := 4) rfl rfl)) ?_
     obtain ⟨g24, o24, m24, q24, hv24, hm24, hl24, hc24⟩ := Rd.idxF ((hSd.own_rd (i := 1) rfl)) (at0_get (i := x20) (by omega) (by omega))
     refine todo_pure hl_ (by kernel_rfl) rfl (gw0 rfl) rfl rfl rfl (fun a w_ hF => r_index sl26 ((hF.ev rfl).trans hv24) (hF.ev rfl) (by omega) (by first | omega | (simp at hm24; omega))) ?_
     refine todo_fin hl_ rfl (by kernel_rfl) (tl := [_]) rfl ?_; clear hS a; intro a w10 hF hA_
     have hS := hA_.sep; clear hA_
     clear hl_; try clear hSd
     try dsimp only [List.cons_append, List.nil_append, List.set] at hS
     try clear wd
     refine wl_istore (q := 1) hF hS rfl hv24 (by omega) (by omega) sz3 (hF.ev rfl) rfl (hF.ev rfl) fun w11 hS => ?_; dsimp only [List.set] at hS
     refine wl_nil ⟨rfl, ?_⟩
     simp only [Exit.then, Exit.inBlock, ↓reduceIte]
     refine hK6 _ _ ?_
     refine ws fun K9 hK9 => ?_
     refine rb 1 4 hF tk hS rfl rfl rfl fun a hF => ?_
     refine wl_storew hF hS (i := 6) rfl (hF.ev rfl) (hF.ev rfl) sz29 rfl rfl fun w12 hS => ?_; dsimp only [List.set, Nat.reduceAdd] at hS
     refine wl_nil (hK9 _ _ ?_)
     refine wp_ret ?_
     try simp only [Exit.then, Exit.inBlock, ↓reduceIte]
     simp only [List.mem_cons, List.not_mem_nil, or_false] at h23
     exact ret1c rfl ag29 hF hS (i := 6) rfl sz29 rfl ⟨({ x9 with cells := x9.cells.set x20.toNat x23 }, [z0, z1, z2]), ⟨rfl, Good.cells hg9 (by unfold int64; omega)⟩, Sep.part_mk (ek := stateEK) (x := { x9 with cells := x9.cells.set x20.toNat x23 }) (vs := [z0, z1, z2]) (Sep.headp (A := [_, _, _, _, _, _, _]) (B := [_, _, _, _]) hS [1, 2, 3, 5] (by decide) rfl rfl) rfl⟩
    ·
     refine op_ld rfl rfl (gw0 rfl) rfl rfl rfl (fun a w_ hF hS => r_load1 sc26 (hF.ev rfl) (hS.box (i := 4) rfl rfl)) ?_
     refine todo_fork [(9, [10, 11])] hl_ rfl (by kernel_rfl) (List.forall_mem_cons.2 ⟨?_, fun _ h_ => nomatch h_⟩)
     ·
      refine op_dw (m' := [11]) (val := fun x : Int => vi x) (R := fun x => x ∈ ([-1, 0, 1, 2, 3, 130, 131] : List Int)) rfl rfl (gw0 rfl) rfl rfl rfl rfl (fun a w_ hF => r_call2 en85 (hF.ev rfl) (hF.ev rfl)) (fun M_ w_ hS => l1PickInt_c hbs (q := 6) (fun w_ hS => (hS.own_rd (i := 1) rfl)) (by decide) hS rfl) ?_; intro x23 h23; try clear hSd; try clear wd; intro wd hSd
      obtain ⟨g24, o24, m24, q24, hv24, hm24, hl24, hc24⟩ := Rd.idxF ((hSd.own_rd (i := 1) rfl)) (at0_get (i := x20) (by omega) (by omega))
      refine todo_pure hl_ (by kernel_rfl) rfl (gw0 rfl) rfl rfl rfl (fun a w_ hF => r_index sl26 ((hF.ev rfl).trans hv24) (hF.ev rfl) (by omega) (by first | omega | (simp at hm24; omega))) ?_
      refine todo_fin hl_ rfl (by kernel_rfl) (tl := [_]) rfl ?_; clear hS a; intro a w13 hF hA_
      have hS := hA_.sep; clear hA_
      clear hl_; try clear hSd
      try dsimp only [List.cons_append, List.nil_append, List.set] at hS
      try clear wd
      refine wl_istore (q := 1) hF hS rfl hv24 (by omega) (by omega) sz3 (hF.ev rfl) rfl (hF.ev rfl) fun w14 hS => ?_; dsimp only [List.set] at hS
      refine wl_nil ⟨rfl, ?_⟩
      simp only [Exit.then, Exit.inBlock, ↓reduceIte]
      refine hK6 _ _ ?_
      refine ws fun K10 hK10 => ?_
      refine rb 1 4 hF tk hS rfl rfl rfl fun a hF => ?_
      refine wl_storew hF hS (i := 6) rfl (hF.ev rfl) (hF.ev rfl) sz29 rfl rfl fun w15 hS => ?_; dsimp only [List.set, Nat.reduceAdd] at hS
      refine wl_nil (hK10 _ _ ?_)
      refine wp_ret ?_
      try simp only [Exit.then, Exit.inBlock, ↓reduceIte]
      simp only [List.mem_cons, List.not_mem_nil, or_false] at h23
      exact ret1c rfl ag29 hF hS (i := 6) rfl sz29 rfl ⟨({ x9 with cells := x9.cells.set x20.toNat x23 }, [z0, z1, z2]), ⟨rfl, Good.cells hg9 (by unfold int64; omega)⟩, Sep.part_mk (ek := stateEK) (x := { x9 with cells := x9.cells.set x20.toNat x23 }) (vs := [z0, z1, z2]) (Sep.headp (A := [_, _, _, _, _, _, _]) (B := [_, _, _, _]) hS [1, 2, 3, 5] (by decide) rfl rfl) rfl⟩
   ·
    refine op_ld rfl rfl (gw0 rfl) rfl rfl rfl (fun a w_ hF hS => r_load1 sc26 (hF.ev rfl) (hS.box (i := 3) rfl rfl)) ?_
    refine todo_op hl_ rfl (by kernel_rfl) rfl rfl rfl rfl rfl (fun a w_ hF hS => r_bslice intEK [vi (-1), vi 0, vi 1, vi 2, vi 3, vi 130, vi 131] [-1, 0, 1, 2, 3, 130, 131] rfl mk26 rfl ⟨rfl, ec, rfl, ec, rfl, ec, rfl, ec, rfl, ec, rfl, ec, rfl, ec, trivial⟩ rfl rfl rfl rfl) ?_; intro gl_22
    refine todo_fork [(9, [10, 11])] hl_ rfl (by kernel_rfl) (List.forall_mem_cons.2 ⟨?_, fun _ h_ => nomatch h_⟩)
    ·
     refine op_dw (m' := [11]) (val := fun x : Int => vi x) (R := fun x => x ∈ ([-1, 0, 1, 2, 3, 130, 131] : List Int)) rfl rfl (gw0 rfl) rfl rfl rfl rfl (fun a w_ hF => r_call2 en85 (hF.ev rfl) (hF.ev rfl)) (fun M_ w_ hS => l1PickInt_c hbs (q := 6) (fun w_ hS => (hS.own_rd (i := 1) rfl)) (by decide) hS rfl) ?_; intro x23 h23; try clear hSd; try clear wd; intro wd hSd
     obtain ⟨g24, o24, m24, q24, hv24, hm24, hl24, hc24⟩ := Rd.idxF ((hSd.own_rd (i := 1) rfl)) (at0_get (i := x20) (by omega) (by omega))
     refine todo_pure hl_ (by kernel_rfl) rfl (gw0 rfl) rfl rfl rfl (fun a w_ hF => r_index sl26 ((hF.ev rfl).trans hv24) (hF.ev rfl) (by omega) (by first | omega | (simp at hm24; omega))) ?_
     refine todo_fin hl_ rfl (by kernel_rfl) (tl := [_]) rfl ?_; clear hS a; intro a w17 hF hA_
     have hS := hA_.sep; clear hA_
     clear hl_; try clear hSd
     try dsimp only [List.cons_append, List.nil_append, List.set] at hS
     try clear wd
     refine wl_istore (q := 1) hF hS rfl hv24 (by omega) (by omega) sz3 (hF.ev rfl) rfl (hF.ev rfl) fun w18 hS => ?_; dsimp only [List.set] at hS
     refine wl_nil ⟨rfl, ?_⟩
     simp only [Exit.then, Exit.inBlock, ↓reduceIte]
     refine hK6 _ _ ?_
     refine ws fun K11 hK11 => ?_
     refine rb 1 4 hF tk hS rfl rfl rfl fun a hF => ?_
     refine wl_storew hF hS (i := 6) rfl (hF.ev rfl) (hF.ev rfl) sz29 rfl rfl fun w19 hS => ?_; dsimp only [List.set, Nat.reduceAdd] at hS
     refine wl_nil (hK11 _ _ ?_)
     refine wp_ret ?_
     try simp only [Exit.then, Exit.inBlock, ↓reduceIte]
     simp only [List.mem_cons, List.not_mem_nil, or_false] at h23
     exact ret1c rfl ag29 hF hS (i := 6) rfl sz29 rfl ⟨({ x9 with cells := x9.cells.set x20.toNat x23 }, [z0, z1, z2]), ⟨rfl, Good.cells hg9 (by unfold int64; omega)⟩, Sep.part_mk (ek := stateEK) (x := { x9 with cells := x9.cells.set x20.toNat x23 }) (vs := [z0, z1, z2]) (Sep.headp (A := [_, _, _, _, _, _, _]) (B := [_, _, _, _]) hS [1, 2, 3, 5] (by decide) rfl rfl) rfl⟩
  ·
   refine op_op rfl rfl (gw0 rfl) rfl rfl rfl (fun a w_ hF hS => r_bslice intEK [vi (-1), vi 0, vi 1, vi 2, vi 3, vi 130, vi 131] [-1, 0, 1, 2, 3, 130, 131] rfl mk26 rfl ⟨rfl, ec, rfl, ec, rfl, ec, rfl, ec, rfl, ec, rfl, ec, rfl, ec, trivial⟩ rfl rfl rfl rfl) ?_; intro gl_22
   refine todo_fork [(6, [9, 1, 10, 11]), (1, [6, 9, 10, 11])] hl_ rfl (by kernel_rfl) (List.forall_mem_cons.2 ⟨?_, List.forall_mem_cons.2 ⟨?_, fun _ h_ => nomatch h_⟩⟩)
   ·
    refine op_dw (m' := [9, 11]) (val := fun x : Int => vi x) (R := fun x => 0 ≤ x ∧ (x < (z0.2.1 : Int) ∨ ((z0.2.1 : Int) ≤ 0 ∧ x = 0))) rfl rfl (gw0 rfl) rfl rfl rfl rfl (fun a w_ hF => r_call2 en83 (hF.ev rfl) (hF.ev rfl)) (fun M_ w_ hS => l1Below_c hbs (q := 6) _ hS rfl) ?_; intro x20 h20; try clear hSd; try clear wd; intro wd hSd
    refine todo_fork [(9, [1, 10, 11]), (1, [9, 10, 11])] hl_ rfl (by kernel_rfl) (List.forall_mem_cons.2 ⟨?_, List.forall_mem_cons.2 ⟨?_, fun _ h_ => nomatch h_⟩⟩)
    ·
     refine op_dw (m' := [11]) (val := fun x : Int => vi x) (R := fun x => x ∈ ([-1, 0, 1, 2, 3, 130, 131] : List Int)) rfl rfl (gw0 rfl) rfl rfl rfl rfl (fun a w_ hF => r_call2 en85 (hF.ev rfl) (hF.ev rfl)) (fun M_ w_ hS => l1PickInt_c hbs (q := 6) (fun w_ hS => (hS.own_rd (i := 1) rfl)) (by decide) hS rfl) ?_; intro x23 h23; try clear hSd; try clear wd; intro wd hSd
     refine todo_load [10, 11] hl_ (by kernel_rfl) rfl (gw0 rfl) rfl rfl rfl (fun a w_ hF hB_ => r_load1 sc26 (hF.ev rfl) ((hSd.ext hB_).box (i := 4) rfl rfl)) ?_
     obtain ⟨g24, o24, m24, q24, hv24, hm24, hl24, hc24⟩ := Rd.idxF ((hSd.own_rd (i := 1) rfl)) (at0_get (i := x20) (by omega) (by omega))
     refine todo_pure hl_ (by kernel_rfl) rfl (gw0 rfl) rfl rfl rfl (fun a w_ hF => r_index sl26 ((hF.ev rfl).trans hv24) (hF.ev rfl) (by omega) (by first | omega | (simp at hm24; omega))) ?_
     refine todo_fin hl_ rfl (by kernel_rfl) (tl := [_]) rfl ?_; clear hS a; intro a w21 hF hA_
     have hS := hA_.sep; clear hA_
     clear hl_; try clear hSd
     try dsimp only [List.cons_append, List.nil_append, List.set] at hS
     try clear wd
     refine wl_istore (q := 1) hF hS rfl hv24 (by omega) (by omega) sz3 (hF.ev rfl) rfl (hF.ev rfl) fun w22 hS => ?_; dsimp only [List.set] at hS
     refine wl_nil ⟨rfl, ?_⟩
     simp only [Exit.then, Exit.inBlock, ↓reduceIte]
     refine hK6 _ _ ?_
     refine ws fun K12 hK12 => ?_
     refine rb 1 4 hF tk hS rfl rfl rfl fun a hF => ?_
     refine wl_storew hF hS (i := 6) rfl (hF.ev rfl) (hF.ev rfl) sz29 rfl rfl fun w23 hS => ?_; dsimp only [List.set, Nat.reduceAdd] at hS
     refine wl_nil (hK12 _ _ ?_)
     refine wp_ret ?_
     try simp only [Exit.then, Exit.inBlock, ↓reduceIte]
     simp only [List.mem_cons, List.not_mem_nil, or_false] at h23
     exact ret1c rfl ag29 hF hS (i := 6) rfl sz29 rfl ⟨({ x9 with cells := x9.cells.set x20.toNat x23 }, [z0, z1, z2]), ⟨rfl, Good.cells hg9 (by unfold int64; omega)⟩, Sep.part_mk (ek := stateEK) (x := { x9 with cells := x9.cells.set x20.toNat x23 }) (vs := [z0, z1, z2]) (Sep.headp (A := [_, _, _, _, _, _, _]) (B := [_, _, _, _]) hS [1, 2, 3, 5] (by decide) rfl rfl) rfl⟩
    ·
     refine op_ld rfl rfl (gw0 rfl) rfl rfl rfl (fun a w_ hF hS => r_load1 sc26 (hF.ev rfl) (hS.box (i := 4) rfl rfl)) ?_
     refine todo_fork [(9, [10, 11])] hl_ rfl (by kernel_rfl) (List.forall_mem_cons.2 ⟨?_, fun _ h_ => nomatch h_⟩)
     ·
      refine op_dw (m' := [11]) (val := fun x : Int => vi x) (R := fun x => x ∈ ([-1, 0, 1, 2, 3, 130, 131] : List Int)) rfl rfl (gw0 rfl) rfl rfl rfl rfl (fun a w_ hF => r_call2 en85 (hF.ev rfl) (hF.ev rfl)) (fun M_ w_ hS => l1PickInt_c hbs (q := 6) (fun w_ hS => (hS.own_rd (i := 1) rfl)) (by decide) hS rfl) ?_; intro x23 h23; try clear hSd; try clear wd; intro wd hSd
      obtain ⟨g24, o24, m24, q24, hv24, hm24, hl24, hc24⟩ := Rd.idxF ((hSd.own_rd (i := 1) rfl)) (at0_get (i := x20) (by omega) (by omega))
      refine todo_pure hl_ (by kernel_rfl) rfl (gw0 rfl) rfl rfl rfl (fun a w_ hF => r_index sl26 ((hF.ev rfl).trans hv24) (hF.ev rfl) (by omega) (by first | omega | (simp at hm24; omega))) ?_
      refine todo_fin hl_ rfl (by kernel_rfl) (tl := [_]) rfl ?_; clear hS a; intro a w24 hF hA_
      have hS := hA_.sep; clear hA_
      clear hl_; try clear hSd
      try dsimp only [List.cons_append, List.nil_append, List.set] at hS
      try clear wd
      refine wl_istore (q := 1) hF hS rfl hv24 (by omega) (by omega) sz3 (hF.ev rfl) rfl (hF.ev rfl) fun w25 hS => ?_; dsimp only [List.set] at hS
      refine wl_nil ⟨rfl, ?_⟩
      simp only [Exit.then, Exit.inBlock, ↓reduceIte]
      refine hK6 _ _ ?_
      refine ws fun K13 hK13 => ?_
      refine rb 1 4 hF tk hS rfl rfl rfl fun a hF => ?_
      refine wl_storew hF hS (i := 6) rfl (hF.ev rfl) (hF.ev rfl) sz29 rfl rfl fun w26 hS => ?_; dsimp only [List.set, Nat.reduceAdd] at hS
      refine wl_nil (hK13 _ _ ?_)
      refine wp_ret ?_
      try simp only [Exit.then, Exit.inBlock, ↓reduceIte]
      simp only [List.mem_cons, List.not_mem_nil, or_false] at h23
      exact ret1c rfl ag29 hF hS (i := 6) rfl sz29 rfl ⟨({ x9 with cells := x9.cells.set x20.toNat x23 }, [z0, z1, z2]), ⟨rfl, Good.cells hg9 (by unfold int64; omega)⟩, Sep.part_mk (ek := stateEK) (x := { x9 with cells := x9.cells.set x20.toNat x23 }) (vs := [z0, z1, z2]) (Sep.headp (A := [_, _, _, _, _, _, _]) (B := [_, _, _, _]) hS [1, 2, 3, 5] (by decide) rfl rfl) rfl⟩
   ·
    refine op_ld rfl rfl (gw0 rfl) rfl rfl rfl (fun a w_ hF hS => r_load1 sc26 (hF.ev rfl) (hS.box (i := 4) rfl rfl)) ?_
    refine todo_fork [(6, [9, 10, 11])] hl_ rfl (by kernel_rfl) (List.forall_mem_cons.2 ⟨?_, fun _ h_ => nomatch h_⟩)
    ·
     refine op_dw (m' := [9, 11]) (val := fun x : Int => vi x) (R := fun x => 0 ≤ x ∧ (x < (z0.2.1 : Int) ∨ ((z0.2.1 : Int) ≤ 0 ∧ x = 0))) rfl rfl (gw0 rfl) rfl rfl rfl rfl (fun a w_ hF => r_call2 en83 (hF.ev rfl) (hF.ev rfl)) (fun M_ w_ hS => l1Below_c hbs (q := 6) _ hS rfl) ?_; intro x20 h20; try clear hSd; try clear wd; intro wd hSd
     refine todo_fork [(9, [10, 11])] hl_ rfl (by kernel_rfl) (List.forall_mem_cons.2 ⟨?_, fun _ h_ => nomatch h_⟩)
     ·
      refine op_dw (m' := [11]) (val := fun x : Int => vi x) (R := fun x => x ∈ ([-1, 0, 1, 2, 3, 130, 131] : List Int)) rfl rfl (gw0 rfl) rfl rfl rfl rfl (fun a w_ hF => r_call2 en85 (hF.ev rfl) (hF.ev rfl)) (fun M_ w_ hS => l1PickInt_c hbs (q := 6) (fun w_ hS => (hS.own_rd (i := 1) rfl)) (by decide) hS rfl) ?_; intro x23 h23; try clear hSd; try clear wd; intro wd hSd
      obtain ⟨g24, o24, m24, q24, hv24, hm24, hl24, hc24⟩ := Rd.idxF ((hSd.own_rd (i := 1) rfl)) (at0_get (i := x20) (by omega) (by omega))
      refine todo_pure hl_ (by kernel_rfl) rfl (gw0 rfl) rfl rfl rfl (fun a w_ hF => r_index sl26 ((hF.ev rfl).trans hv24) (hF.ev rfl) (by omega) (by first | omega | (simp at hm24; omega))) ?_
      refine todo_fin hl_ rfl (by kernel_rfl) (tl := [_]) rfl ?_; clear hS a; intro a w27 hF hA_
      have hS := hA_.sep; clear hA_
      clear hl_; try clear hSd
      try dsimp only [List.cons_append, List.nil_append, List.set] at hS
      try clear wd
      refine wl_istore (q := 1) hF hS rfl hv24 (by omega) (by omega) sz3 (hF.ev rfl) rfl (hF.ev rfl) fun w28 hS => ?_; dsimp only [List.set] at hS
      refine wl_nil ⟨rfl, ?_⟩
      simp only [Exit.then, Exit.inBlock, ↓reduceIte]
      refine hK6 _ _ ?_
      refine ws fun K14 hK14 => ?_
      refine rb 1 4 hF tk hS rfl rfl rfl fun a hF => ?_
      refine wl_storew hF hS (i := 6) rfl (hF.ev rfl) (hF.ev rfl) sz29 rfl rfl fun w29 hS => ?_; dsimp only [List.set, Nat.reduceAdd] at hS
      refine wl_nil (hK14 _ _ ?_)
      refine wp_ret ?_
      try simp only [Exit.then, Exit.inBlock, ↓reduceIte]
      simp only [List.mem_cons, List.not_mem_nil, or_false] at h23
      exact ret1c rfl ag29 hF hS (i := 6) rfl sz29 rfl ⟨({ x9 with cells := x9.cells.set x20.toNat x23 }, [z0, z1, z2]), ⟨rfl, Good.cells hg9 (by unfold int64; omega)⟩, Sep.part_mk (ek := stateEK) (x := { x9 with cells := x9.cells.set x20.toNat x23 }) (vs := [z0, z1, z2]) (Sep.headp (A := [_, _, _, _, _, _, _]) (B := [_, _, _, _]) hS [1, 2, 3, 5] (by decide) rfl rfl) rfl⟩
  ·
   refine op_ld rfl rfl (gw0 rfl) rfl rfl rfl (fun a w_ hF hS => r_load1 sc26 (hF.ev rfl) (hS.box (i := 3) rfl rfl)) ?_
   refine todo_fork [(6, [8, 9, 10, 11]), (8, [6, 9, 10, 11])] hl_ rfl (by kernel_rfl) (List.forall_mem_cons.2 ⟨?_, List.forall_mem_cons.2 ⟨?_, fun _ h_ => nomatch h_⟩⟩)
   ·
    refine op_dw (m' := [9, 11]) (val := fun x : Int => vi x) (R := fun x => 0 ≤ x ∧ (x < (z0.2.1 : Int) ∨ ((z0.2.1 : Int) ≤ 0 ∧ x = 0))) rfl rfl (gw0 rfl) rfl rfl rfl rfl (fun a w_ hF => r_call2 en83 (hF.ev rfl) (hF.ev rfl)) (fun M_ w_ hS => l1Below_c hbs (q := 5) _ hS rfl) ?_; intro x20 h20; try clear hSd; try clear wd; intro wd hSd
    refine todo_op hl_ rfl (by kernel_rfl) rfl rfl rfl rfl rfl (fun a w_ hF hS => r_bslice intEK [vi (-1), vi 0, vi 1, vi 2, vi 3, vi 130, vi 131] [-1, 0, 1, 2, 3, 130, 131] rfl mk26 rfl ⟨rfl, ec, rfl, ec, rfl, ec, rfl, ec, rfl, ec, rfl, ec, rfl, ec, trivial⟩ rfl rfl rfl rfl) ?_; intro gl_22
    refine todo_fork [(9, [10, 11])] hl_ rfl (by kernel_rfl) (List.forall_mem_cons.2 ⟨?_, fun _ h_ => nomatch h_⟩)
    ·
     refine op_dw (m' := [11]) (val := fun x : Int => vi x) (R := fun x => x ∈ ([-1, 0, 1, 2, 3, 130, 131] : List Int)) rfl rfl (gw0 rfl) rfl rfl rfl rfl (fun a w_ hF => r_call2 en85 (hF.ev rfl) (hF.ev rfl)) (fun M_ w_ hS => l1PickInt_c hbs (q := 6) (fun w_ hS => (hS.own_rd (i := 1) rfl)) (by decide) hS rfl) ?_; intro x23 h23; try clear hSd; try clear wd; intro wd hSd
     obtain ⟨g24, o24, m24, q24, hv24, hm24, hl24, hc24⟩ := Rd.idxF ((hSd.own_rd (i := 1) rfl)) (at0_get (i := x20) (by omega) (by omega))
     refine todo_pure hl_ (by kernel_rfl) rfl (gw0 rfl) rfl rfl rfl (fun a w_ hF => r_index sl26 ((hF.ev rfl).trans hv24) (hF.ev rfl) (by omega) (by first | omega | (simp at hm24; omega))) ?_
     refine todo_fin hl_ rfl (by kernel_rfl) (tl := [_]) rfl ?_; clear hS a; intro a w31 hF hA_
     have hS := hA_.sep; clear hA_
     clear hl_; try clear hSd
     try dsimp only [List.cons_append, List.nil_append, List.set] at hS
     try clear wd
     refine wl_istore (q := 1) hF hS rfl hv24 (by omega) (by omega) sz3 (hF.ev rfl) rfl (hF.ev rfl) fun w32 hS => ?_; dsimp only [List.set] at hS
     refine wl_nil ⟨rfl, ?_⟩
     simp only [Exit.then, Exit.inBlock, ↓reduceIte]
     refine hK6 _ _ ?_
     refine ws fun K15 hK15 => ?_
     refine rb 1 4 hF tk hS rfl rfl rfl fun a hF => ?_
     refine wl_storew hF hS (i := 6) rfl (hF.ev rfl) (hF.ev rfl) sz29 rfl rfl fun w33 hS => ?_; dsimp only [List.set, Nat.reduceAdd] at hS
     refine wl_nil (hK15 _ _ ?_)
     refine wp_ret ?_
     try simp only [Exit.then, Exit.inBlock, ↓reduceIte]
     simp only [List.mem_cons, List.not_mem_nil, or_false] at h23
     exact ret1c rfl ag29 hF hS (i := 6) rfl sz29 rfl ⟨({ x9 with cells := x9.cells.set x20.toNat x23 }, [z0, z1, z2]), ⟨rfl, Good.cells hg9 (by unfold int64; omega)⟩, Sep.part_mk (ek := stateEK) (x := { x9 with cells := x9.cells.set x20.toNat x23 }) (vs := [z0, z1, z2]) (Sep.headp (A := [_, _, _, _, _, _, _]) (B := [_, _, _, _]) hS [1, 2, 3, 5] (by decide) rfl rfl) rfl⟩
   ·
    refine op_op rfl rfl (gw0 rfl) rfl rfl rfl (fun a w_ hF hS => r_bslice intEK [vi (-1), vi 0, vi 1, vi 2, vi 3, vi 130, vi 131] [-1, 0, 1, 2, 3, 130, 131] rfl mk26 rfl ⟨rfl, ec, rfl, ec, rfl, ec, rfl, ec, rfl, ec, rfl, ec, rfl, ec, trivial⟩ rfl rfl rfl rfl) ?_; intro gl_22
    refine todo_fork [(6, [9, 10, 11])] hl_ rfl (by kernel_rfl) (List.forall_mem_cons.2 ⟨?_, fun _ h_ => nomatch h_⟩)
    ·
     refine op_dw (m' := [9, 11]) (val := fun x : Int => vi x) (R := fun x => 0 ≤ x ∧ (x < (z0.2.1 : Int) ∨ ((z0.2.1 : Int) ≤ 0 ∧ x = 0))) rfl rfl (gw0 rfl) rfl rfl rfl rfl (fun a w_ hF => r_call2 en83 (hF.ev rfl) (hF.ev rfl)) (fun M_ w_ hS => l1Below_c hbs (q := 6) _ hS rfl) ?_; intro x20 h20; try clear hSd; try clear wd; intro wd hSd
     refine todo_fork [(9, [10, 11])] hl_ rfl (by kernel_rfl) (List.forall_mem_cons.2 ⟨?_, fun _ h_ => nomatch h_⟩)
     ·
      refine op_dw (m' := [11]) (val := fun x : Int => vi x) (R := fun x => x ∈ ([-1, 0, 1, 2, 3, 130, 131] : List Int)) rfl rfl (gw0 rfl) rfl rfl rfl rfl (fun a w_ hF => r_call2 en85 (hF.ev rfl) (hF.ev rfl)) (fun M_ w_ hS => l1PickInt_c hbs (q := 6) (fun w_ hS => (hS.own_rd (i := 1) rfl)) (by decide) hS rfl) ?_; intro x23 h23; try clear hSd; try clear wd; intro wd hSd
      obtain ⟨g24, o24, m24, q24, hv24, hm24, hl24, hc24⟩ := Rd.idxF ((hSd.own_rd (i := 1) rfl)) (at0_get (i := x20) (by omega) (by omega))
      refine todo_pure hl_ (by kernel_rfl) rfl (gw0 rfl) rfl rfl rfl (fun a w_ hF => r_index sl26 ((hF.ev rfl).trans hv24) (hF.ev rfl) (by omega) (by first | omega | (simp at hm24; omega))) ?_
      refine todo_fin hl_ rfl (by kernel_rfl) (tl := [_]) rfl ?_; clear hS a; intro a w35 hF hA_
      have hS := hA_.sep; clear hA_
      clear hl_; try clear hSd
      try dsimp only [List.cons_append, List.nil_append, List.set] at hS
      try clear wd
      refine wl_istore (q := 1) hF hS rfl hv24 (by omega) (by omega) sz3 (hF.ev rfl) rfl (hF.ev rfl) fun w36 hS => ?_; dsimp only [List.set] at hS
      refine wl_nil ⟨rfl, ?_⟩
      simp only [Exit.then, Exit.inBlock, ↓reduceIte]
      refine hK6 _ _ ?_
      refine ws fun K16 hK16 => ?_
      refine rb 1 4 hF tk hS rfl rfl rfl fun a hF => ?_
      refine wl_storew hF hS (i := 6) rfl (hF.ev rfl) (hF.ev rfl) sz29 rfl rfl fun w37 hS => ?_; dsimp only [List.set, Nat.reduceAdd] at hS
      refine wl_nil (hK16 _ _ ?_)
      refine wp_ret ?_
      try simp only [Exit.then, Exit.inBlock, ↓reduceIte]
      simp only [List.mem_cons, List.not_mem_nil, or_false] at h23
      exact ret1c rfl ag29 hF hS (i := 6) rfl sz29 rfl ⟨({ x9 with cells := x9.cells.set x20.toNat x23 }, [z0, z1, z2]), ⟨rfl, Good.cells hg9 (by unfold int64; omega)⟩, Sep.part_mk (ek := stateEK) (x := { x9 with cells := x9.cells.set x20.toNat x23 }) (vs := [z0, z1, z2]) (Sep.headp (A := [_, _, _, _, _, _, _]) (B := [_, _, _, _]) hS [1, 2, 3, 5] (by decide) rfl rfl) rfl⟩
 try dsimp only at hg9
 obtain ⟨ho_, hc_, hgl_, ht_⟩ := hg9.sh
 have hb_ := ho_; unfold Config.ok at hb_
 have hz_ := hg9.sz
 have hcc_ := cellCount_eq ho_
 replace hS := hS.pull (p := 1) rfl; dsimp only [List.eraseIdx] at hS
 replace hS : Sep W (Own intEK (sv (vs9.getD 0 (none, 0, 0))) (x9).cells :: Own intEK (sv (vs9.getD 1 (none, 0, 0))) (x9).generations :: Own threadEK (sv (vs9.getD 2 (none, 0, 0))) (x9).threads :: _) _ := hS.part_open
 dsimp only [stateEK] at hS
 generalize vs9.getD 0 (none, 0, 0) = z0 at hS
 generalize vs9.getD 1 (none, 0, 0) = z1 at hS
 generalize vs9.getD 2 (none, 0, 0) = z2 at hS
 have hcap_ : (x9).cells.length ≤ z0.2.2 := by
   obtain ⟨A_, c_, e_, h1_, _⟩ := (hS.own_rd (i := 0) rfl).sl
   have e2_ : z0.2.2 = c_ := by injection e_
   rw [e2_]; exact h1_
 have hl0_ := hS.own_len (q := 0) rfl
 have hl1_ := hS.own_len (q := 1) rfl
 have hl2_ := hS.own_len (q := 2) rfl
 refine ws fun K17 hK17 => ?_
 refine ra 2 hF tk rfl fun a hF => ?_
 refine wl_nil (hK17 _ _ ?_)
 refine wc_fx (t := 25) hF rfl ?_ ?_ <;> clear hF <;> intro c25 hF <;> try simp only [zb] at c25
 ·
  refine wp_region_todo (is := [0, 2, 3, 4, 1, 5, 6]) [] [4, 6] (by kernel_rfl) hF hS ⟨trivial, by decide, by decide, by decide⟩ (by kernel_rfl) ?_; clear hF; intro hl_ wd hSd
  refine todo_pure hl_ (by kernel_rfl) rfl (gw0 rfl) rfl rfl rfl (fun a w_ hF => r_field fo29_2 (hF.ev rfl)) ?_
  refine todo_pure hl_ (by kernel_rfl) rfl (gw0 rfl) rfl rfl rfl (fun a w_ hF => r_move (hF.ev rfl)) ?_
  refine todo_fork [(3, [4, 1, 5, 6]), (1, [3, 4, 5, 6])] hl_ rfl (by kernel_rfl) (List.forall_mem_cons.2 ⟨?_, List.forall_mem_cons.2 ⟨?_, fun _ h_ => nomatch h_⟩⟩)
  ·
   refine op_op rfl rfl (gw0 rfl) rfl rfl rfl (fun a w_ hF hS => r_bslice intEK [vi 1, vi 9998, vi 9999] [1, 9998, 9999] rfl mk26 rfl ⟨rfl, ec, rfl, ec, rfl, ec, trivial⟩ rfl rfl rfl rfl) ?_; intro gl_30
   refine todo_fork [(4, [1, 5, 6]), (1, [4, 5, 6])] hl_ rfl (by kernel_rfl) (List.forall_mem_cons.2 ⟨?_, List.forall_mem_cons.2 ⟨?_, fun _ h_ => nomatch h_⟩⟩)
   ·
    refine op_dw (m' := [6]) (val := fun x : Int => vi x) (R := fun x => x ∈ ([1, 9998, 9999] : List Int)) rfl rfl (gw0 rfl) rfl rfl rfl rfl (fun a w_ hF => r_call2 en85 (hF.ev rfl) (hF.ev rfl)) (fun M_ w_ hS => l1PickInt_c hbs (q := 6) (fun w_ hS => (hS.own_rd (i := 1) rfl)) (by decide) hS rfl) ?_; intro x31 h31; try clear hSd; try clear wd; intro wd hSd
    refine todo_load [5, 6] hl_ (by kernel_rfl) rfl (gw0 rfl) rfl rfl rfl (fun a w_ hF hB_ => r_load1 sc26 (hF.ev rfl) ((hSd.ext hB_).box (i := 4) rfl rfl)) ?_
    obtain ⟨g32, o32, m32, q32, hv32, hm32, hl32, hc32⟩ := Rd.idxF ((hSd.own_rd (i := 2) rfl)) (at0_get (i := (0 : Int)) (by omega) (by omega))
    refine todo_pure hl_ (by kernel_rfl) rfl (gw0 rfl) rfl rfl rfl (fun a w_ hF => r_index sl26 ((hF.ev rfl).trans hv32) ec (by omega) (by first | omega | (simp at hm32; omega))) ?_
    refine todo_fin hl_ rfl (by kernel_rfl) (tl := [_]) rfl ?_; clear hS a; intro a w39 hF hA_
    have hS := hA_.sep; clear hA_
    clear hl_; try clear hSd
    try dsimp only [List.cons_append, List.nil_append, List.set] at hS
    try clear wd
    refine wl_istore (q := 2) hF hS rfl hv32 (by omega) (by omega) sz3 (hF.ev rfl) rfl (hF.ev rfl) fun w40 hS => ?_; dsimp only [List.set] at hS
    refine wl_nil ⟨rfl, ?_⟩
    simp only [Exit.then, Exit.inBlock, ↓reduceIte]
    refine hK6 _ _ ?_
    refine ws fun K18 hK18 => ?_
    refine rb 1 4 hF tk hS rfl rfl rfl fun a hF => ?_
    refine wl_storew hF hS (i := 6) rfl (hF.ev rfl) (hF.ev rfl) sz29 rfl rfl fun w41 hS => ?_; dsimp only [List.set, Nat.reduceAdd] at hS
    refine wl_nil (hK18 _ _ ?_)
    refine wp_ret ?_
    try simp only [Exit.then, Exit.inBlock, ↓reduceIte]
    simp only [List.mem_cons, List.not_mem_nil, or_false] at h31
    exact ret1c rfl ag29 hF hS (i := 6) rfl sz29 rfl ⟨({ x9 with generations := x9.generations.set 0 x31 }, [z0, z1, z2]), ⟨rfl, Good.gens hg9 (by unfold int64; omega)⟩, Sep.part_mk (ek := stateEK) (x := { x9 with generations := x9.generations.set 0 x31 }) (vs := [z0, z1, z2]) (Sep.headp (A := [_, _, _, _, _, _, _]) (B := [_, _, _, _]) hS [1, 2, 3, 5] (by decide) rfl rfl) rfl⟩
   ·
    refine op_ld rfl rfl (gw0 rfl) rfl rfl rfl (fun a w_ hF hS => r_load1 sc26 (hF.ev rfl) (hS.box (i := 4) rfl rfl)) ?_
    refine todo_fork [(4, [5, 6])] hl_ rfl (by kernel_rfl) (List.forall_mem_cons.2 ⟨?_, fun _ h_ => nomatch h_⟩)
    ·
     refine op_dw (m' := [6]) (val := fun x : Int => vi x) (R := fun x => x ∈ ([1, 9998, 9999] : List Int)) rfl rfl (gw0 rfl) rfl rfl rfl rfl (fun a w_ hF => r_call2 en85 (hF.ev rfl) (hF.ev rfl)) (fun M_ w_ hS => l1PickInt_c hbs (q := 6) (fun w_ hS => (hS.own_rd (i := 1) rfl)) (by decide) hS rfl) ?_; intro x31 h31; try clear hSd; try clear wd; intro wd hSd
     obtain ⟨g32, o32, m32, q32, hv32, hm32, hl32, hc32⟩ := Rd.idxF ((hSd.own_rd (i := 2) rfl)) (at0_get (i := (0 : Int)) (by omega) (by omega))
     refine todo_pure hl_ (by kernel_rfl) rfl (gw0 rfl) rfl rfl rfl (fun a w_ hF => r_index sl26 ((hF.ev rfl).trans hv32) ec (by omega) (by first | omega | (simp at hm32; omega))) ?_
     refine todo_fin hl_ rfl (by kernel_rfl) (tl := [_]) rfl ?_; clear hS a; intro a w42 hF hA_
     have hS := hA_.sep; clear hA_
     clear hl_; try clear hSd
     try dsimp only [List.cons_append, List.nil_append, List.set] at hS
     try clear wd
     refine wl_istore (q := 2) hF hS rfl hv32 (by omega) (by omega) sz3 (hF.ev rfl) rfl (hF.ev rfl) fun w43 hS => ?_; dsimp only [List.set] at hS
     refine wl_nil ⟨rfl, ?_⟩
     simp only [Exit.then, Exit.inBlock, ↓reduceIte]
     refine hK6 _ _ ?_
     refine ws fun K19 hK19 => ?_
     refine rb 1 4 hF tk hS rfl rfl rfl fun a hF => ?_
     refine wl_storew hF hS (i := 6) rfl (hF.ev rfl) (hF.ev rfl) sz29 rfl rfl fun w44 hS => ?_; dsimp only [List.set, Nat.reduceAdd] at hS
     refine wl_nil (hK19 _ _ ?_)
     refine wp_ret ?_
     try simp only [Exit.then, Exit.inBlock, ↓reduceIte]
     simp only [List.mem_cons, List.not_mem_nil, or_false] at h31
     exact ret1c rfl ag29 hF hS (i := 6) rfl sz29 rfl ⟨({ x9 with generations := x9.generations.set 0 x31 }, [z0, z1, z2]), ⟨rfl, Good.gens hg9 (by unfold int64; omega)⟩, Sep.part_mk (ek := stateEK) (x := { x9 with generations := x9.generations.set 0 x31 }) (vs := [z0, z1, z2]) (Sep.headp (A := [_, _, _, _, _, _, _]) (B := [_, _, _, _]) hS [1, 2, 3, 5] (by decide) rfl rfl) rfl⟩
  ·
   refine op_ld rfl rfl (gw0 rfl) rfl rfl rfl (fun a w_ hF hS => r_load1 sc26 (hF.ev rfl) (hS.box (i := 3) rfl rfl)) ?_
   refine todo_op hl_ rfl (by kernel_rfl) rfl rfl rfl rfl rfl (fun a w_ hF hS => r_bslice intEK [vi 1, vi 9998, vi 9999] [1, 9998, 9999] rfl mk26 rfl ⟨rfl, ec, rfl, ec, rfl, ec, trivial⟩ rfl rfl rfl rfl) ?_; intro gl_30
   refine todo_fork [(4, [5, 6])] hl_ rfl (by kernel_rfl) (List.forall_mem_cons.2 ⟨?_, fun _ h_ => nomatch h_⟩)
   ·
    refine op_dw (m' := [6]) (val := fun x : Int => vi x) (R := fun x => x ∈ ([1, 9998, 9999] : List Int)) rfl rfl (gw0 rfl) rfl rfl rfl rfl (fun a w_ hF => r_call2 en85 (hF.ev rfl) (hF.ev rfl)) (fun M_ w_ hS => l1PickInt_c hbs (q := 6) (fun w_ hS => (hS.own_rd (i := 1) rfl)) (by decide) hS rfl) ?_; intro x31 h31; try clear hSd; try clear wd; intro wd hSd
    obtain ⟨g32, o32, m32, q32, hv32, hm32, hl32, hc32⟩ := Rd.idxF ((hSd.own_rd (i := 2) rfl)) (at0_get (i := (0 : Int)) (by omega) (by omega))
    refine todo_pure hl_ (by kernel_rfl) rfl (gw0 rfl) rfl rfl rfl (fun a w_ hF => r_index sl26 ((hF.ev rfl).trans hv32) ec (by omega) (by first | omega | (simp at hm32; omega))) ?_
    refine todo_fin hl_ rfl (by kernel_rfl) (tl := [_]) rfl ?_; clear hS a; intro a w46 hF hA_
    have hS := hA_.sep; clear hA_
    clear hl_; try clear hSd
    try dsimp only [List.cons_append, List.nil_append, List.set] at hS
    try clear wd
    refine wl_istore (q := 2) hF hS rfl hv32 (by omega) (by omega) sz3 (hF.ev rfl) rfl (hF.ev rfl) fun w47 hS => ?_; dsimp only [List.set] at hS
    refine wl_nil ⟨rfl, ?_⟩
    simp only [Exit.then, Exit.inBlock, ↓reduceIte]
    refine hK6 _ _ ?_
    refine ws fun K20 hK20 => ?_
    refine rb 1 4 hF tk hS rfl rfl rfl fun a hF => ?_
    refine wl_storew hF hS (i := 6) rfl (hF.ev rfl) (hF.ev rfl) sz29 rfl rfl fun w48 hS => ?_; dsimp only [List.set, Nat.reduceAdd] at hS
    refine wl_nil (hK20 _ _ ?_)
    refine wp_ret ?_
    try simp only [Exit.then, Exit.inBlock, ↓reduceIte]
    simp only [List.mem_cons, List.not_mem_nil, or_false] at h31
    exact ret1c rfl ag29 hF hS (i := 6) rfl sz29 rfl ⟨({ x9 with generations := x9.generations.set 0 x31 }, [z0, z1, z2]), ⟨rfl, Good.gens hg9 (by unfold int64; omega)⟩, Sep.part_mk (ek := stateEK) (x := { x9 with generations := x9.generations.set 0 x31 }) (vs := [z0, z1, z2]) (Sep.headp (A := [_, _, _, _, _, _, _]) (B := [_, _, _, _]) hS [1, 2, 3, 5] (by decide) rfl rfl) rfl⟩
 refine wp_skip ?_
 simp only [Exit.then, Exit.inBlock, ↓reduceIte]
 refine hK6 _ _ ?_
 refine ws fun K21 hK21 => ?_
 refine rb 1 3 hF tk hS rfl rfl rfl fun a hF => ?_
 refine wl_storew hF hS (i := 5) rfl (hF.ev rfl) (hF.ev rfl) sz29 rfl rfl fun w49 hS => ?_; dsimp only [List.set, Nat.reduceAdd] at hS
 refine wl_nil (hK21 _ _ ?_)
 refine wp_ret ?_
 try simp only [Exit.then, Exit.inBlock, ↓reduceIte]
 exact ret1c rfl ag29 hF hS (i := 5) rfl sz29 rfl ⟨(x9, [z0, z1, z2]), ⟨rfl, Good.drawn hg9⟩, Sep.part_mk (ek := stateEK) (x := x9) (vs := [z0, z1, z2]) (Sep.headp (A := [_, _, _, _, _, _]) (B := [_, _, _, _]) hS [0, 1, 2, 4] (by decide) rfl rfl) rfl⟩
end Go.Proofs.YtgofolgogfmhgaaGreat.Wk
namespace Go.Proofs.YtgofolgogfmhgaaGreat.Wk
open Go Go.RowKit Sl
theorem en37 : enterB Tryz.prog 37 = true := by kernel_rfl
theorem en38 : enterB Tryz.prog 38 = true := by kernel_rfl
theorem en53 : enterB Tryz.prog 53 = true := by kernel_rfl
theorem en82 : enterB Tryz.prog 82 = true := by kernel_rfl
end Go.Proofs.YtgofolgogfmhgaaGreat.Wk
namespace Go.Proofs.YtgofolgogfmhgaaGreat.Wk
open Go Go.RowKit Sl
set_option linter.unusedVariables false
set_option linter.unusedSimpArgs false
set_option maxRecDepth 20000
section
variable {P : Program} {a : Act} {w w0 : World} {n : Nat} {L : List (Nat × Value)} {l : List Res}
theorem ret3tct {fn : Func} {t t' t2 T g i : Nat} {cs : List Value} {v' v2 : Value} {R : Value → World → Prop} (hres : fn.results = #[.tmp t', .cell t T, .tmp t2]) (ht : aggB P T = true) (hF : Fr n L a) (hS : Sep w0 l w) (hi : l[i]? = some (Box g cs)) (hs : szB P T = some cs.length) (hl' : lk L t' = some v') (hl : lk L t = some (.pointer (some ⟨g, 0, none⟩))) (hl2 : lk L t2 = some v2) (hR : R (.tuple #[v', .agg cs.toArray, v2]) w) : bodyPost P fn (Ret R) .ret a w := by
 refine ⟨hF.defs, .tuple #[v', .agg cs.toArray, v2], ?_, _, rfl, hR⟩
 have h1 := hF.get _ _ hl
 have h3 := hF.get _ _ hl'
 have h4 := hF.get _ _ hl2
 have h2 := run_loadVar_agg (P := P) (w := w) (g := g) ht hs (fun j u hu => hS.box hi hu)
 simp [results, hres, Array.getD_eq_getD_getElem?, h1, h3, h4, asAddr, h2]
theorem ret3ctc {fn : Func} {t t' t2 T T' g g' i i' : Nat} {cs cs' : List Value} {v2 : Value} {R : Value → World → Prop} (hres : fn.results = #[.cell t T, .tmp t2, .cell t' T']) (ht : aggB P T = true) (ht' : aggB P T' = true) (hF : Fr n L a) (hS : Sep w0 l w) (hi : l[i]? = some (Box g cs)) (hi' : l[i']? = some (Box g' cs')) (hs : szB P T = some cs.length) (hs' : szB P T' = some cs'.length) (hl : lk L t = some (.pointer (some ⟨g, 0, none⟩))) (hl2 : lk L t2 = some v2) (hl' : lk L t' = some (.pointer (some ⟨g', 0, none⟩))) (hR : R (.tuple #[.agg cs.toArray, v2, .agg cs'.toArray]) w) : bodyPost P fn (Ret R) .ret a w := by
 refine ⟨hF.defs, .tuple #[.agg cs.toArray, v2, .agg cs'.toArray], ?_, _, rfl, hR⟩
 have h1 := hF.get _ _ hl
 have h3 := hF.get _ _ hl'
 have h5 := hF.get _ _ hl2
 have h2 := run_loadVar_agg (P := P) (w := w) (g := g) ht hs (fun j u hu => hS.box hi hu)
 have h4 := run_loadVar_agg (P := P) (w := w) (g := g') ht' hs' (fun j u hu => hS.box hi' hu)
 simp [results, hres, Array.getD_eq_getD_getElem?, h1, h3, h5, asAddr, h2, h4]
end
set_option maxHeartbeats 4000000 in
set_option maxRecDepth 20000 in
theorem l10Draw_c {W : World} {vb : Value} {bs : List Int} (hb : byteEK.Rd W vb bs) (hz : bs.length ≤ 1048576) : Calls Tryz.prog 37 #[vb] W (Ret (Mk W (fun z : {z : Nat × Sl.State × List Slv × Int // Drawn z.2.1 ∧ int64 z.2.2.2} => .tuple #[.pointer (some ⟨z.1.1, 0, none⟩), .agg (stateEK.cells z.1.2.1 z.1.2.2.1).toArray, vi z.1.2.2.2]) (fun z => [Part stateEK z.1.2.1 z.1.2.2.1, Cur z.1.1 vb bs.length]))) := by
 refine calls_fr Tryz.func37 rfl Tryz.ntmps37 rfl ?_
 intro a hF
 have hS := Sep.refl W
 refine ws fun K1 hK1 => ?_
 refine ra 1 hF tk rfl fun a hF => ?_
 refine wl_alloc hF hS rfl zr29 ?_; clear hF a; intro g1 w1 a hS_ hB_ hF; replace hS := hS_; clear hS_ hB_
 refine ra 1 hF tk rfl fun a hF => ?_
 refine wl_nil (hK1 _ _ ?_)
 refine ws fun K2 hK2 => ?_
 refine ra 1 hF tk rfl fun a hF => ?_
 refine wl_mk hF hS rfl rfl rfl (r_call1 en53 (hF.ev rfl)) (l1New_c (hS.rd hb) (by omega)) ?_; clear hF a; rintro g8 w2 a hS_ hF; replace hS := hS_; clear hS_; dsimp only [List.cons_append, List.nil_append] at hS
 have hbs := hb
 refine ra 1 hF tk rfl fun a hF => ?_
 refine wl_nil (hK2 _ _ ?_)
 refine ws fun K3 hK3 => ?_
 refine ra 1 hF tk rfl fun a hF => ?_
 refine wl_call hF rfl rfl rfl (r_call1 en82 (hF.ev rfl)) (l18Any_h hbs hS) ?_; clear hF a; rintro v w3 a ⟨⟨x10, vs10⟩, ⟨rfl, hg10⟩, hS⟩ hF
 try dsimp only at hz10
 try dsimp only at hg10
 replace hS := hS.pull (p := 0) rfl; dsimp only [List.eraseIdx] at hS
 replace hS : Sep W (Own intEK (sv (vs10.getD 0 (none, 0, 0))) x10.cells :: Own intEK (sv (vs10.getD 1 (none, 0, 0))) x10.generations :: Own threadEK (sv (vs10.getD 2 (none, 0, 0))) x10.threads :: _) _ := hS.part_open
 dsimp only [stateEK] at hS hF
 generalize vs10.getD 0 (none, 0, 0) = z0 at hS hF
 generalize vs10.getD 1 (none, 0, 0) = z1 at hS hF
 generalize vs10.getD 2 (none, 0, 0) = z2 at hS hF
 have hl0_ := hS.own_len (q := 0) rfl
 have hl1_ := hS.own_len (q := 1) rfl
 have hl2_ := hS.own_len (q := 2) rfl
 have hz_ := hg10.sz
 refine wl_alloc hF hS rfl zr29 ?_; clear hF a; intro g2 w4 a hS_ hB_ hF; replace hS := hS_; clear hS_ hB_
 refine wl_storew hF hS (i := 0) rfl (hF.ev rfl) (hF.ev rfl) sz29 rfl rfl fun w5 hS => ?_; dsimp only [List.set, Nat.reduceAdd] at hS
 refine wl_nil (hK3 _ _ ?_)
 refine wp_seq_k fun K4 hK4 => ?_
 refine wp_region_todo (is := [0, 2, 3, 4, 5, 6, 7, 1, 8, 9, 10, 11]) [] [7, 10, 11] (by kernel_rfl) hF hS ⟨trivial, by decide, by decide, by decide⟩ (by kernel_rfl) ?_; clear hF; intro hl_ wd hSd
 refine todo_pure hl_ (by kernel_rfl) rfl (gw0 rfl) rfl rfl rfl (fun a w_ hF => r_move (hF.ev rfl)) ?_
 refine todo_pure hl_ (by kernel_rfl) rfl (gw0 rfl) rfl rfl rfl (fun a w_ hF => r_move (hF.ev rfl)) ?_
 refine todo_pure hl_ (by kernel_rfl) rfl (gw0 rfl) rfl rfl rfl (fun a w_ hF => r_field fo29_3 (hF.ev rfl)) ?_
 refine todo_load [5, 6, 7, 8, 9, 10, 11] hl_ (by kernel_rfl) rfl (gw0 rfl) rfl rfl rfl (fun a w_ hF hB_ => r_load1 sc27 (hF.ev rfl) ((hSd.ext hB_).box (i := 0) rfl rfl)) ?_
 refine todo_pure hl_ (by kernel_rfl) rfl (gw0 rfl) rfl rfl rfl (fun a w_ hF => r_len ul27 (hF.ev rfl)) ?_
 refine todo_pure hl_ (by kernel_rfl) rfl (gw0 rfl) rfl rfl rfl (fun a w_ hF => r_add (hF.ev rfl) ec) ?_
 refine todo_fork [(7, [1, 8, 9, 10, 11]), (1, [7, 8, 9, 10, 11])] hl_ rfl (by kernel_rfl) (List.forall_mem_cons.2 ⟨?_, List.forall_mem_cons.2 ⟨?_, fun _ h_ => nomatch h_⟩⟩)
 ·
  refine op_dw (m' := [10, 11]) (val := fun x : Int => vi x) (R := fun x => 0 ≤ x ∧ (x < _ ∨ (_ ≤ 0 ∧ x = 0))) rfl rfl (gw0 rfl) rfl rfl rfl rfl (fun a w_ hF => r_call2 en83 (hF.ev rfl) (hF.ev rfl)) (fun M_ w_ hS => l1Below_c hbs (q := 5) _ hS rfl) ?_; intro x18 h18; try clear hSd; try clear wd; intro wd hSd
  refine todo_load [10, 11] hl_ (by kernel_rfl) rfl (gw0 rfl) rfl rfl rfl (fun a w_ hF hB_ => r_loadn ag29 (hF.ev rfl) ((hSd.ext hB_).box_rd (i := 0) rfl) sz29) ?_
  refine todo_pure hl_ (by kernel_rfl) rfl (gw0 rfl) rfl rfl rfl (fun a w_ hF => r_sub (hF.ev rfl) ec) ?_
  refine todo_pure hl_ (by kernel_rfl) rfl (gw0 rfl) rfl rfl rfl (fun a w_ hF => r_assign (hF.ev rfl)) ?_
  refine todo_fin hl_ rfl (by kernel_rfl) (tl := [_, _]) rfl ?_; clear hS a; intro a w6 hF hA_
  have hS := hA_.sep; clear hA_
  clear hl_; try clear hSd
  try dsimp only [List.cons_append, List.nil_append, List.set] at hS
  try clear wd
  refine wl_storew hF hS (i := 5) rfl (hF.ev rfl) (hF.ev rfl) sz29 rfl rfl fun w7 hS => ?_; dsimp only [List.set, Nat.reduceAdd] at hS
  refine ra 1 hF tk rfl fun a hF => ?_
  refine wl_nil ⟨rfl, ?_⟩
  refine hK4 _ _ ?_
  refine wp_ret ?_
  try simp only [Exit.then, Exit.inBlock, ↓reduceIte]
  exact ret3tct rfl ag29 hF hS (i := 5) rfl sz29 rfl rfl rfl ⟨⟨(g8, x10, [z0, z1, z2], _), hg10, int64_wrap _⟩, rfl, Sep.part_mk (ek := stateEK) (x := x10) (vs := [z0, z1, z2]) (Sep.headp (A := [_, _, _, _, _, _]) (B := [_, _, _, _]) (l := []) hS [1, 2, 3, 4] (by decide) rfl rfl) rfl⟩
 ·
  refine op_ld rfl rfl (gw0 rfl) rfl rfl rfl (fun a w_ hF hS => r_loadn ag29 (hF.ev rfl) (hS.box_rd (i := 0) rfl) sz29) ?_
  refine todo_fork [(7, [8, 9, 10, 11])] hl_ rfl (by kernel_rfl) (List.forall_mem_cons.2 ⟨?_, fun _ h_ => nomatch h_⟩)
  ·
   refine op_dw (m' := [10, 11]) (val := fun x : Int => vi x) (R := fun x => 0 ≤ x ∧ (x < _ ∨ (_ ≤ 0 ∧ x = 0))) rfl rfl (gw0 rfl) rfl rfl rfl rfl (fun a w_ hF => r_call2 en83 (hF.ev rfl) (hF.ev rfl)) (fun M_ w_ hS => l1Below_c hbs (q := 5) _ hS rfl) ?_; intro x18 h18; try clear hSd; try clear wd; intro wd hSd
   refine todo_pure hl_ (by kernel_rfl) rfl (gw0 rfl) rfl rfl rfl (fun a w_ hF => r_sub (hF.ev rfl) ec) ?_
   refine todo_pure hl_ (by kernel_rfl) rfl (gw0 rfl) rfl rfl rfl (fun a w_ hF => r_assign (hF.ev rfl)) ?_
   refine todo_fin hl_ rfl (by kernel_rfl) (tl := [_, _]) rfl ?_; clear hS a; intro a w8 hF hA_
   have hS := hA_.sep; clear hA_
   clear hl_; try clear hSd
   try dsimp only [List.cons_append, List.nil_append, List.set] at hS
   try clear wd
   refine wl_storew hF hS (i := 5) rfl (hF.ev rfl) (hF.ev rfl) sz29 rfl rfl fun w9 hS => ?_; dsimp only [List.set, Nat.reduceAdd] at hS
   refine ra 1 hF tk rfl fun a hF => ?_
   refine wl_nil ⟨rfl, ?_⟩
   refine hK4 _ _ ?_
   refine wp_ret ?_
   try simp only [Exit.then, Exit.inBlock, ↓reduceIte]
   exact ret3tct rfl ag29 hF hS (i := 5) rfl sz29 rfl rfl rfl ⟨⟨(g8, x10, [z0, z1, z2], _), hg10, int64_wrap _⟩, rfl, Sep.part_mk (ek := stateEK) (x := x10) (vs := [z0, z1, z2]) (Sep.headp (A := [_, _, _, _, _, _]) (B := [_, _, _, _]) (l := []) hS [1, 2, 3, 4] (by decide) rfl rfl) rfl⟩
set_option maxHeartbeats 4000000 in
set_option maxRecDepth 20000 in
theorem drawStartOp_c {W : World} {vb : Value} {bs : List Int} (hb : byteEK.Rd W vb bs) (hz : bs.length ≤ 1048576) : Calls Tryz.prog 8 #[vb] W (Ret (Mk W (fun z : {z : Sl.State × List Slv × Int × Sl.Op // Drawn z.1 ∧ int64 z.2.2.1 ∧ z.2.2.2.wf} => .tuple #[.agg (stateEK.cells z.1.1 z.1.2.1).toArray, vi z.1.2.2.1, .agg z.1.2.2.2.enc.toArray]) (fun z => [Part stateEK z.1.1 z.1.2.1]))) := by
 refine calls_fr Tryz.func8 rfl Tryz.ntmps8 rfl ?_
 intro a hF
 have hS := Sep.refl W
 refine ws fun K1 hK1 => ?_
 refine wl_alloc hF hS rfl zr29 ?_; clear hF a; intro g1 w1 a hS_ hB_ hF; replace hS := hS_; clear hS_ hB_
 refine ra 1 hF tk rfl fun a hF => ?_
 refine wl_alloc hF hS rfl zr31 ?_; clear hF a; intro g2 w2 a hS_ hB_ hF; replace hS := hS_; clear hS_ hB_
 refine wl_nil (hK1 _ _ ?_)
 refine ws fun K2 hK2 => ?_
 refine ra 1 hF tk rfl fun a hF => ?_
 refine wl_mk hF hS rfl rfl rfl (r_call1 en37 (hF.ev rfl)) (l10Draw_c (hS.rd hb) (by omega)) ?_; clear hF a; rintro ⟨⟨g10, x10, vs10, p10⟩, hg10, hp10⟩ w3 a hS_ hF; replace hS := hS_; clear hS_; dsimp only [List.cons_append, List.nil_append] at hS
 refine ra 2 hF tk rfl fun a hF => ?_
 have hbs := hb
 replace hF : Fr _ ((11, .pointer (some ⟨g10, 0, none⟩)) :: _) _ := hF
 refine ra 2 hF tk rfl fun a hF => ?_
 refine wl_alloc hF hS rfl zr29 ?_; clear hF a; intro g3 w4 a hS_ hB_ hF; replace hS := hS_; clear hS_ hB_
 refine ra 1 hF tk rfl fun a hF => ?_
 refine wl_storew hF hS (i := 0) rfl (hF.ev rfl) (hF.ev rfl) sz29 rfl rfl fun w5 hS => ?_; dsimp only [List.set, Nat.reduceAdd] at hS
 refine ra 1 hF tk rfl fun a hF => ?_
 refine wl_nil (hK2 _ _ ?_)
 refine wp_seq_k fun K3 hK3 => ?_
 refine wp_region_todo (is := [1, 2, 3, 0, 4, 5, 6]) [] [3, 4, 5, 6] (by kernel_rfl) hF hS ⟨trivial, by decide, by decide, by decide⟩ (by kernel_rfl) ?_; clear hF; intro hl_ wd hSd
 refine todo_pure hl_ (by kernel_rfl) rfl (gw0 rfl) rfl rfl rfl (fun a w_ hF => r_move (hF.ev rfl)) ?_
 refine todo_pure hl_ (by kernel_rfl) rfl (gw0 rfl) rfl rfl rfl (fun a w_ hF => r_move (hF.ev rfl)) ?_
 refine todo_fork [(3, [0, 4, 5, 6]), (0, [3, 4, 5, 6])] hl_ rfl (by kernel_rfl) (List.forall_mem_cons.2 ⟨?_, List.forall_mem_cons.2 ⟨?_, fun _ h_ => nomatch h_⟩⟩)
 ·
  refine op_dw (m' := [4, 5, 6]) (val := fun o : Sl.Op => .agg o.enc.toArray) (R := fun o => o.wf) rfl rfl (gw0 rfl) rfl rfl rfl rfl (fun a w_ hF => r_call1 en38 (hF.ev rfl)) (fun M_ w_ hS => l5Any_c hbs (q := 3) hS rfl) ?_; intro o17 h17; try clear hSd; try clear wd; intro wd hSd
  refine todo_load [4, 5, 6] hl_ (by kernel_rfl) rfl (gw0 rfl) rfl rfl rfl (fun a w_ hF hB_ => r_loadn ag29 (hF.ev rfl) ((hSd.ext hB_).box_rd (i := 0) rfl) sz29) ?_
  refine todo_fin hl_ rfl (by kernel_rfl) (tl := [_, _, _]) rfl ?_; clear hS a; intro a w6 hF hA_
  have hS := hA_.sep; clear hA_
  clear hl_; try clear hSd
  try dsimp only [List.cons_append, List.nil_append, List.set] at hS
  try clear wd
  refine wl_storew hF hS (i := 4) rfl (hF.ev rfl) (hF.ev rfl) sz29 rfl rfl fun w7 hS => ?_; dsimp only [List.set, Nat.reduceAdd] at hS
  refine ra 1 hF tk rfl fun a hF => ?_
  refine wl_storen (cs' := [_, _, _]) hF hS (i := 3) rfl (hF.ev rfl) (hF.ev rfl) sz31 ⟨rfl, rfl⟩ rfl rfl fun w8 hS => ?_; dsimp only [List.set] at hS
  refine wl_nil ⟨rfl, ?_⟩
  refine hK3 _ _ ?_
  refine wp_ret ?_
  try simp only [Exit.then, Exit.inBlock, ↓reduceIte]
  exact ret3ctc rfl ag29 ag31 hF hS (i := 4) (i' := 3) rfl rfl sz29 sz31 rfl rfl rfl ⟨⟨(x10, vs10, _, o17), hg10, hp10, h17⟩, rfl, hS.pick [1] (by decide) rfl⟩
 ·
  refine op_ld rfl rfl (gw0 rfl) rfl rfl rfl (fun a w_ hF hS => r_loadn ag29 (hF.ev rfl) (hS.box_rd (i := 0) rfl) sz29) ?_
  refine todo_fork [(3, [4, 5, 6])] hl_ rfl (by kernel_rfl) (List.forall_mem_cons.2 ⟨?_, fun _ h_ => nomatch h_⟩)
  ·
   refine op_dw (m' := [4, 5, 6]) (val := fun o : Sl.Op => .agg o.enc.toArray) (R := fun o => o.wf) rfl rfl (gw0 rfl) rfl rfl rfl rfl (fun a w_ hF => r_call1 en38 (hF.ev rfl)) (fun M_ w_ hS => l5Any_c hbs (q := 3) hS rfl) ?_; intro o17 h17; try clear hSd; try clear wd; intro wd hSd
   refine todo_fin hl_ rfl (by kernel_rfl) (tl := [_, _, _]) rfl ?_; clear hS a; intro a w9 hF hA_
   have hS := hA_.sep; clear hA_
   clear hl_; try clear hSd
   try dsimp only [List.cons_append, List.nil_append, List.set] at hS
   try clear wd
   refine wl_storew hF hS (i := 4) rfl (hF.ev rfl) (hF.ev rfl) sz29 rfl rfl fun w10 hS => ?_; dsimp only [List.set, Nat.reduceAdd] at hS
   refine ra 1 hF tk rfl fun a hF => ?_
   refine wl_storen (cs' := [_, _, _]) hF hS (i := 3) rfl (hF.ev rfl) (hF.ev rfl) sz31 ⟨rfl, rfl⟩ rfl rfl fun w11 hS => ?_; dsimp only [List.set] at hS
   refine wl_nil ⟨rfl, ?_⟩
   refine hK3 _ _ ?_
   refine wp_ret ?_
   try simp only [Exit.then, Exit.inBlock, ↓reduceIte]
   exact ret3ctc rfl ag29 ag31 hF hS (i := 4) (i' := 3) rfl rfl sz29 sz31 rfl rfl rfl ⟨⟨(x10, vs10, _, o17), hg10, hp10, h17⟩, rfl, hS.pick [1] (by decide) rfl⟩
end Go.Proofs.YtgofolgogfmhgaaGreat.Wk
namespace Go.Proofs.YtgofolgogfmhgaaGreat.Wk
open Go Go.RowKit Sl
theorem eg25 : Tryz.prog.eqGuardType Tryz.prog.depth 25 = false := by kernel_rfl
theorem eg31 : Tryz.prog.eqGuardType Tryz.prog.depth 31 = false := by kernel_rfl
theorem eg39 : Tryz.prog.eqGuardType Tryz.prog.depth 39 = false := by kernel_rfl
theorem eg83 : Tryz.prog.eqGuardType Tryz.prog.depth 83 = false := by kernel_rfl
theorem en33 : enterB Tryz.prog 33 = true := by kernel_rfl
theorem en51 : enterB Tryz.prog 51 = true := by kernel_rfl
theorem en52 : enterB Tryz.prog 52 = true := by kernel_rfl
theorem en81 : enterB Tryz.prog 81 = true := by kernel_rfl
theorem fl25 : flN Tryz.prog 10000 25 = some 6 := by kernel_rfl
theorem fl31 : flN Tryz.prog 10000 31 = some 3 := by kernel_rfl
theorem fl39 : flN Tryz.prog 10000 39 = some 2 := by kernel_rfl
theorem fl83 : flN Tryz.prog 10000 83 = some 4 := by kernel_rfl
end Go.Proofs.YtgofolgogfmhgaaGreat.Wk
