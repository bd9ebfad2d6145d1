/- Lemmas for the row of RwSo. -/
import Derived.Test.YtifhfodphoeeoaaCsC
namespace Go.Proofs.Ytifhfodphoeeoaa.Wk
open Go Go.RowKit Sl
set_option linter.unusedVariables false
set_option linter.unusedSimpArgs false
set_option maxRecDepth 20000
section
variable {c : Config} {e : Entry} {t : Thread}
theorem ent_yes (h : (isEntry e = true ∧ ¬ c.keys ≤ e.key) ∧ ¬ c.capacity ≤ indexOf e.handle) : entOk c e = true := by
  unfold entOk; rw [h.1.1, decide_eq_true (show e.key < c.keys by omega), decide_eq_true (show indexOf e.handle < c.capacity by omega)]; rfl
theorem ent_no (h : (isEntry e = false ∨ c.keys ≤ e.key) ∨ c.capacity ≤ indexOf e.handle) : entOk c e = false := by
  unfold entOk
  rcases h with (h | h) | h
  · rw [h]; rfl
  · rw [decide_eq_false (show ¬ e.key < c.keys by omega)]; simp
  · rw [decide_eq_false (show ¬ indexOf e.handle < c.capacity by omega)]; simp
theorem th_noS (h : (¬t.pc ∈ pcs ∨ ¬t.pc = 0 ∧ ¬t.op.ok) ∨ c.keys ≤ t.op.key ∧ ¬t.pc = 0) : threadOk c t = false := th_no1 (by
  rcases h with (h | h) | h
  · exact .inl h
  · exact .inr ⟨h.1, .inl h.2⟩
  · exact .inr ⟨h.2, .inr h.1⟩)
theorem th_yesS (hf : freeOk c t = true) (he : (t.buffer ++ t.work).all (entOk c) = true) (hp : pcOk c t) :
    threadOk c t = (zeroOk c t.node && zeroOk c t.prev && zeroOk c t.curr && zeroOk c t.next && !isMarked t.node && !isMarked t.prev && !isMarked t.curr && (t.limbo.all (isNode c) && decide ((t.limbo.length : Int) ≤ 100)) && decide (0 ≤ t.snapshot ∧ t.snapshot ≤ 99) && decide ((t.buffer.length : Int) ≤ 100) && decide ((t.work.length : Int) ≤ 100) && decide ((t.free.length : Int) ≤ 100) && decide ((t.found.length : Int) ≤ 100)) := by
  unfold threadOk
  rw [hf, he, decide_eq_true hp, Bool.eq_iff_iff]
  unfold regsOk
  simp only [isLink_zero, Bool.and_eq_true, decide_eq_true_eq, Bool.true_and]
  unfold sizesOk
  constructor
  · rintro ⟨⟨⟨⟨⟨⟨a1, b1⟩, a2, b2⟩, a3, b3⟩, a4⟩, l⟩, h5, h6, h7, h8, h9, h10⟩
    exact ⟨⟨⟨⟨⟨⟨⟨⟨⟨⟨⟨⟨a1, a2⟩, a3⟩, a4⟩, b1⟩, b2⟩, b3⟩, l, h10⟩, h5⟩, h6⟩, h7⟩, h8⟩, h9⟩
  · rintro ⟨⟨⟨⟨⟨⟨⟨⟨⟨⟨⟨⟨a1, a2⟩, a3⟩, a4⟩, b1⟩, b2⟩, b3⟩, l, h10⟩, h5⟩, h6⟩, h7⟩, h8⟩, h9⟩
    exact ⟨⟨⟨⟨⟨⟨a1, b1⟩, a2, b2⟩, a3, b3⟩, a4⟩, l⟩, h5, h6, h7, h8, h9, h10⟩
theorem th_free (hx : freeOk c t = false) : threadOk c t = false := by unfold threadOk; rw [hx]; rfl
theorem th_ents (hx : (t.buffer ++ t.work).all (entOk c) = false) : threadOk c t = false := by unfold threadOk; rw [hx]; simp
end
set_option maxHeartbeats 4000000 in
set_option maxRecDepth 20000 in
theorem l8Thread_c {W : World} {c : Config} {t : Sl.Thread} {cs : List Value} (hm : threadEK.K W t cs) (hw : t.wf) (hok : c.ok) (hz : (t.size : Int) ≤ 1048576) : Calls Try.prog 42 #[.agg c.enc.toArray, .agg cs.toArray] W (Ret fun v w' => v = .bool (threadOk c t) ∧ Below W.heap.size W w') := by
  refine calls_fr Try.func42 rfl Try.ntmps42 rfl ?_
  intro a hF
  have hS := Sep.refl W
  obtain ⟨v0, v1, v2, v3, v4, rfl, r0, r1, r2, r3, r4⟩ := hm
  obtain ⟨A_a, q_a, rfl, hq_a, hn_a⟩ := r0.sl; unfold maxLen at hn_a
  obtain ⟨A_b, q_b, rfl, hq_b, hn_b⟩ := r1.sl; unfold maxLen at hn_b
  obtain ⟨A_c, q_c, rfl, hq_c, hn_c⟩ := r2.sl; unfold maxLen at hn_c
  obtain ⟨A_d, q_d, rfl, hq_d, hn_d⟩ := r3.sl; unfold maxLen at hn_d
  obtain ⟨A_e, q_e, rfl, hq_e, hn_e⟩ := r4.sl; unfold maxLen at hn_e
  obtain ⟨wpc, wop, wres, wsnap, wnode, wprev, wcurr, wnext, wseen, wstamp, wat, wfound, wfree, wbuf, wwork, wlimbo⟩ := hw
  have hb := hok; unfold Config.ok at hb
  have hw1 : IntKind.i64.wrap (c.threads - 1) = c.threads - 1 := w64_id (by omega) (by omega)
  have hw2 : IntKind.i64.wrap (c.capacity - 1) = c.capacity - 1 := w64_id (by omega) (by omega)
  have hw3 : IntKind.i64.wrap (IntKind.i64.wrap (2 * c.threads) - 1) = 2 * c.threads - 1 := by rw [w64_id (q := 2 * c.threads) (by omega) (by omega)]; exact w64_id (by omega) (by omega)
  have hz1 := hz; unfold Sl.Thread.size at hz1
  have hw5 : IntKind.i64.wrap (t.buffer.length + t.work.length) = t.buffer.length + t.work.length := w64_id (by omega) (by omega)
  refine ws fun K1 hK1 => ?_
  refine wl_box (cs := [_, _, _, _, _, _]) hF hS rfl (hF.ev rfl) rfl ?_; clear hF a; intro g1 w1 a hS_ hB_ hF; replace hS := hS_; clear hS_ hB_
  refine wl_box (cs := [_, _, _, _, _, _, _, _, _, _, _, _, _, _, _, _, _, _, _]) hF hS rfl (hF.ev rfl) rfl ?_; clear hF a; intro g2 w2 a hS_ hB_ hF; replace hS := hS_; clear hS_ hB_
  refine wl_mvs (A := [_]) hF rfl ?_; clear hF a; intro a hF
  refine wl_nil (hK1 _ _ ?_)
  refine wp_seq_k fun K2 hK2 => ?_
  refine ws fun K3 hK3 => ?_
  refine wl_mvs (A := [_]) hF rfl ?_; clear hF a; intro a hF
  refine wl_nil (hK3 _ _ ?_)
  refine wp_block ?_
  have hL_ := (((hF.nil.keep hF (t := 4) rfl).keep hF (t := 3) rfl).keep hF (t := 2) rfl)
  refine wp_loop_r (σ := Nat) (fun k L_ => (5, vi k) :: L_) (fun k => (k ≤ t.free.length) ∧ ((t.free.take k).all (fun x => decide (0 ≤ x ∧ x ≤ c.capacity - 1)) = true)) (fun k => t.free.length - k) 0 hS (hL_.keepE hF (t := 5) rfl rfl) ?_ ?_
  · exact ⟨Nat.zero_le _, rfl⟩
  clear hF hS hL_ a
  rintro k a w3 ⟨hk, hn⟩ hS hF; try dsimp only at hF; try dsimp only at hS
  refine wp_seq_k fun K4 hK4 => ?_
  refine ws fun K5 hK5 => ?_
  refine wl_mvs (A := [_]) hF rfl ?_; clear hF a; intro a hF
  refine wl hF rfl rfl rfl (r_field fo55_12 (hF.ev rfl)) ?_; clear hF a; intro a hF
  refine wl hF rfl rfl rfl (r_load1 sc24 (hF.ev rfl) (hS.box (i := 0) rfl rfl)) ?_; clear hF a; intro a hF
  refine wl hF rfl rfl rfl (r_len ul24 (hF.ev rfl)) ?_; clear hF a; intro a hF
  refine wl hF rfl rfl rfl (r_lss (hF.ev rfl) (hF.ev rfl)) ?_; clear hF a; intro a hF
  refine wl_nil (hK5 _ _ ?_)
  refine wc_fx (t := 13) hF rfl ?_ ?_ <;> clear hF <;> intro c13 hF <;> try simp only [zb1, zb2, zb3, zb4, zb5, zb6, zb7, zb8] at c13
  ·
    have hlt : k < t.free.length := by omega
    have hx := at0_nat hlt
    refine wp_skip ?_
    refine hK4 _ _ ?_
    refine wp_seq_k fun K6 hK6 => ?_
    refine wp_block ?_
    refine wp_seq_k fun K7 hK7 => ?_
    refine wp_region_calm (by kernel_rfl) (by kernel_rfl) ?_
    refine wq hF rfl rfl rfl (fun w_ hB_ => r_field fo55_12 (hF.ev rfl)) ?_; clear hF a; intro a hF
    refine wq hF rfl rfl rfl (fun w_ hB_ => r_load1 sc24 (hF.ev rfl) ((hS.ext hB_).box (i := 0) rfl rfl)) ?_; clear hF a; intro a hF
    refine wq_mvs (A := [_]) hF rfl ?_; clear hF a; intro a hF
    obtain ⟨g19, o19, m19, q19, hv19, hm19, hl19, hc19⟩ := Rd.atF (r1) (a := a) (X := .tmp 18) (hF.ev rfl) (by omega) (by omega)
    refine wq hF rfl rfl rfl (fun w_ hB_ => r_index sl24 ((hF.ev rfl).trans hv19) (hF.ev rfl) (by omega) (by first | omega | (simp at hm19; omega))) ?_; clear hF a; intro a hF
    refine wq hF rfl rfl rfl (fun w_ hB_ => r_load1 sc3 (hF.ev rfl) (cellB (hS.ext hB_).old (hc19 0 _ rfl))) ?_; clear hF a; intro a hF
    refine wq hF rfl rfl rfl (fun w_ hB_ => r_field fo31_2 (hF.ev rfl)) ?_; clear hF a; intro a hF
    refine wq hF rfl rfl rfl (fun w_ hB_ => r_load1 sc3 (hF.ev rfl) ((hS.ext hB_).box (i := 1) rfl rfl)) ?_; clear hF a; intro a hF
    refine wq hF rfl rfl rfl (fun w_ hB_ => r_sub (hF.ev rfl) ec) ?_; clear hF a; intro a hF
    refine wq_call hF rfl rfl rfl (fun w_ hB_ => r_call3 en16 (hF.ev rfl) ec (hF.ev rfl)) (fun w_ hB_ => l1In_c _ _ _) ?_; clear hF a; intro a hF
    refine wq hF rfl rfl rfl (fun w_ hB_ => r_not (hF.ev rfl)) ?_; clear hF a; intro a hF
    refine wpQuiet_nil ?_; intro w4 hB_; replace hS := hS.ext hB_; clear hB_
    refine hK7 _ _ ?_
    refine wc_fx (t := 25) hF rfl ?_ ?_ <;> clear hF <;> intro c25 hF <;> try simp only [zb1, zb2, zb3, zb4, zb5, zb6, zb7, zb8] at c25
    ·
      refine ws fun K8 hK8 => ?_
      refine wl_mvs (A := [_]) hF rfl ?_; clear hF a; intro a hF
      refine wl_nil (hK8 _ _ ?_)
      refine wp_ret ?_
      try simp only [Exit.then, Exit.inBlock, ↓reduceIte]
      refine ret1 rfl hF rfl ⟨congrArg Value.bool (Eq.symm ?_), hS.old⟩
      first
        | exact th_free (all_no hx (decide_eq_false (hw2 ▸ c25)))
        | exact th_ents (all_no hx (ent_no c74))
        | exact th_noS c102
        | exact th_yesS (all_done hn (by omega)) (all_done hn2 (by rw [List.length_append]; omega)) ⟨⟨c102.1.1, by rcases c102.1.2 with h | h; exact .inl h; exact c102.2.elim (fun h2 => .inr ⟨h, by omega⟩) .inl⟩, by omega, fun h => by omega, fun h => by omega⟩
        | exact th_no fun hp => by
            obtain ⟨-, p1, p2, p3⟩ := hp
            rcases c148 with (c148 | c148) | c148
            · exact p1 c148
            · rcases c148.1 with h | h
              · have := p2 h; omega
              · have := p3 h; omega
            · have := p2 c148.1; omega
    refine wp_skip ?_
    simp only [Exit.then, Exit.inBlock, ↓reduceIte]
    refine hK6 _ _ ?_
    refine wp_region_lit ?_
    refine wl_mvs (A := [_]) hF rfl ?_; clear hF a; intro a hF
    refine wl hF rfl rfl rfl (r_add (hF.ev rfl) ec) ?_; clear hF a; intro a hF
    refine wl_mvs (A := [_]) hF rfl ?_; clear hF a; intro a hF
    refine wl_nil ?_
    try simp only [Exit.then, Exit.inBlock, ↓reduceIte]
    refine ⟨k + 1, ⟨by omega, all_nxt hn hx (by rw [decide_eq_true (hw2 ▸ c25)])⟩, hS, ((((hF.nil.keep hF (t := 4) rfl).keep hF (t := 3) rfl).keep hF (t := 2) rfl).keepE hF (t := 5) rfl (wk (by omega))), by omega⟩
  refine wp_exit ?_
  simp only [Exit.then, Exit.inBlock, ↓reduceIte]
  refine hK2 _ _ ?_
  refine wp_seq_k fun K9 hK9 => ?_
  refine ws fun K10 hK10 => ?_
  refine wl_mvs (A := [_]) hF rfl ?_; clear hF a; intro a hF
  refine wl_nil (hK10 _ _ ?_)
  refine wp_block ?_
  have hL_ := (((hF.nil.keep hF (t := 4) rfl).keep hF (t := 3) rfl).keep hF (t := 2) rfl)
  refine wp_loop_r (σ := Nat) (fun k L_ => (6, vi k) :: L_) (fun k => (k ≤ t.buffer.length + t.work.length) ∧ (((t.buffer ++ t.work).take k).all (entOk c) = true)) (fun k => (t.buffer ++ t.work).length - k) 0 hS (hL_.keepE hF (t := 6) rfl rfl) ?_ ?_
  · exact ⟨Nat.zero_le _, rfl⟩
  clear hF hS hL_ a
  rintro k a w5 ⟨hk, hn2⟩ hS hF; try dsimp only at hF; try dsimp only at hS
  refine wp_seq_k fun K11 hK11 => ?_
  refine ws fun K12 hK12 => ?_
  refine wl_mvs (A := [_]) hF rfl ?_; clear hF a; intro a hF
  refine wl hF rfl rfl rfl (r_field fo55_13 (hF.ev rfl)) ?_; clear hF a; intro a hF
  refine wl hF rfl rfl rfl (r_load1 sc53 (hF.ev rfl) (hS.box (i := 0) rfl rfl)) ?_; clear hF a; intro a hF
  refine wl hF rfl rfl rfl (r_len ul53 (hF.ev rfl)) ?_; clear hF a; intro a hF
  refine wl hF rfl rfl rfl (r_field fo55_14 (hF.ev rfl)) ?_; clear hF a; intro a hF
  refine wl hF rfl rfl rfl (r_load1 sc53 (hF.ev rfl) (hS.box (i := 0) rfl rfl)) ?_; clear hF a; intro a hF
  refine wl hF rfl rfl rfl (r_len ul53 (hF.ev rfl)) ?_; clear hF a; intro a hF
  refine wl hF rfl rfl rfl (r_add (hF.ev rfl) (hF.ev rfl)) ?_; clear hF a; intro a hF
  refine wl hF rfl rfl rfl (r_lss (hF.ev rfl) (hF.ev rfl)) ?_; clear hF a; intro a hF
  refine wl_nil (hK12 _ _ ?_)
  refine wc_fx (t := 34) hF rfl ?_ ?_ <;> clear hF <;> intro c34 hF <;> try simp only [zb1, zb2, zb3, zb4, zb5, zb6, zb7, zb8] at c34
  ·
    rw [hw5] at c34
    refine wp_skip ?_
    refine hK11 _ _ ?_
    refine wp_seq_k fun K13 hK13 => ?_
    refine wp_block ?_
    refine ws fun K14 hK14 => ?_
    refine wl hF rfl rfl rfl (r_build (bd86) trivial) ?_; clear hF a; intro a hF
    refine wl_alloc hF hS rfl zr86 ?_; clear hF a; intro g3 w6 a hS_ hB_ hF; replace hS := hS_; clear hS_ hB_
    refine wl_storew hF hS (i := 0) rfl (hF.ev rfl) (hF.ev rfl) sz86 rfl rfl ?_; intro w7 hS_; replace hS := hS_; clear hS_; dsimp only [List.set, Nat.reduceAdd] at hS
    refine wl_nil (hK14 _ _ ?_)
    refine wp_seq_k fun K15 hK15 => ?_
    refine ws fun K16 hK16 => ?_
    refine wl_mvs (A := [_]) hF rfl ?_; clear hF a; intro a hF
    refine wl hF rfl rfl rfl (r_field fo55_13 (hF.ev rfl)) ?_; clear hF a; intro a hF
    refine wl hF rfl rfl rfl (r_load1 sc53 (hF.ev rfl) (hS.box (i := 1) rfl rfl)) ?_; clear hF a; intro a hF
    refine wl hF rfl rfl rfl (r_len ul53 (hF.ev rfl)) ?_; clear hF a; intro a hF
    refine wl hF rfl rfl rfl (r_lss (hF.ev rfl) (hF.ev rfl)) ?_; clear hF a; intro a hF
    refine wl_nil (hK16 _ _ ?_)
    refine wc_fx (t := 42) hF rfl ?_ ?_ <;> clear hF <;> intro c42 hF <;> try simp only [zb1, zb2, zb3, zb4, zb5, zb6, zb7, zb8] at c42
    ·
      have hlt : k < t.buffer.length := by omega
      have hwf := wbuf _ (at0_mem (xs := t.buffer) (i := (k : Int)) (by omega) (by omega))
      have hx := (at0_nat (xs := t.buffer ++ t.work) (k := k) (by rw [List.length_append]; omega)).trans (congrArg some (at0_app1 c42))
      refine wp_region_lit ?_
      refine wl hF rfl rfl rfl (r_field fo55_13 (hF.ev rfl)) ?_; clear hF a; intro a hF
      refine wl hF rfl rfl rfl (r_load1 sc53 (hF.ev rfl) (hS.box (i := 1) rfl rfl)) ?_; clear hF a; intro a hF
      refine wl_mvs (A := [_]) hF rfl ?_; clear hF a; intro a hF
      obtain ⟨g46, o46, m46, q46, hv46, hm46, hl46, hc46⟩ := Rd.atF (r2) (a := a) (X := .tmp 45) (hF.ev rfl) (by omega) (by omega)
      refine wl hF rfl rfl rfl (r_index sl53 ((hF.ev rfl).trans hv46) (hF.ev rfl) (by omega) (by first | omega | (simp at hm46; omega))) ?_; clear hF a; intro a hF
      refine wl hF rfl rfl rfl (r_loadn ag86 (hF.ev rfl) (fun j_ u_ hu_ => cellB hS.old (hc46 j_ u_ hu_)) sz86) ?_; clear hF a; intro a hF
      refine wl_storen (cs' := [_, _, _, _]) hF hS (i := 0) rfl (hF.ev rfl) (hF.ev rfl) sz86 ⟨rfl, rfl⟩ rfl rfl ?_; intro w8 hS_; replace hS := hS_; clear hS_; dsimp only [List.set] at hS
      refine wl_nil (hK15 _ _ ?_)
      refine wp_seq_k fun K17 hK17 => ?_
      refine wp_region_calm (by kernel_rfl) (by kernel_rfl) ?_
      refine wq hF rfl rfl rfl (fun w_ hB_ => r_loadn ag86 (hF.ev rfl) ((hS.ext hB_).box_rd (i := 0) rfl) sz86) ?_; clear hF a; intro a hF
      refine wq_call hF rfl rfl rfl (fun w_ hB_ => r_call1 en57 (hF.ev rfl)) (fun w_ hB_ => specIsEntry_c hwf) ?_; clear hF a; intro a hF
      refine wq hF rfl rfl rfl (fun w_ hB_ => r_not (hF.ev rfl)) ?_; clear hF a; intro a hF
      refine wq_mvs (A := [_]) hF rfl ?_; clear hF a; intro a hF
      apply wq_or (A := [_, _, _, _, _, _]) (pk := 66) hF (tc := 60) rfl
      ·
        intro hg60 a hF; try simp only [zb1, zb2, zb3, zb4, zb5, zb6, zb7, zb8] at hg60
        refine wq_take hF rfl rfl rfl rfl ?_
        refine wq hF rfl rfl rfl (fun w_ hB_ => r_field fo86_1 (hF.ev rfl)) ?_; clear hF a; intro a hF
        refine wq_take hF rfl rfl rfl rfl ?_
        refine wq hF rfl rfl rfl (fun w_ hB_ => r_load1 sc3 (hF.ev rfl) ((hS.ext hB_).box (i := 0) rfl rfl)) ?_; clear hF a; intro a hF
        refine wq_take hF rfl rfl rfl rfl ?_
        refine wq hF rfl rfl rfl (fun w_ hB_ => r_field fo31_1 (hF.ev rfl)) ?_; clear hF a; intro a hF
        refine wq_take hF rfl rfl rfl rfl ?_
        refine wq hF rfl rfl rfl (fun w_ hB_ => r_load1 sc3 (hF.ev rfl) ((hS.ext hB_).box (i := 2) rfl rfl)) ?_; clear hF a; intro a hF
        refine wq_take hF rfl rfl rfl rfl ?_
        refine wq hF rfl rfl rfl (fun w_ hB_ => r_geq (hF.ev rfl) (hF.ev rfl)) ?_; clear hF a; intro a hF
        refine wq hF rfl rfl rfl (fun w_ hB_ => r_pick_f (hF.ev rfl) (hF.ev rfl)) ?_; clear hF a; intro a hF
        exact wpQuiet_nil ((Fr.pre (A := [_, _, _, _, _, _]) hF rfl).keep hF (t := 66) rfl)
      ·
        intro hg60 a hF; try simp only [zb1, zb2, zb3, zb4, zb5, zb6, zb7, zb8] at hg60
        refine wq_mvs (A := [_, _, _, _, _]) hF rfl ?_; clear hF a; intro a hF
        refine wq hF rfl rfl rfl (fun w_ hB_ => r_pick_t (hF.ev rfl) ec) ?_; clear hF a; intro a hF
        exact wpQuiet_nil ((Fr.pre (A := [_, _, _, _, _, _]) hF rfl).keep hF (t := 66) rfl)
      clear hF a; intro a hF
      refine wq_mvs (A := [_]) hF rfl ?_; clear hF a; intro a hF
      apply wq_or (A := [_, _, _, _, _, _, _]) (pk := 74) hF (tc := 67) rfl
      ·
        intro hg67 a hF; try simp only [zb1, zb2, zb3, zb4, zb5, zb6, zb7, zb8] at hg67
        refine wq_take hF rfl rfl rfl rfl ?_
        refine wq hF rfl rfl rfl (fun w_ hB_ => r_field fo86_0 (hF.ev rfl)) ?_; clear hF a; intro a hF
        refine wq_take hF rfl rfl rfl rfl ?_
        refine wq hF rfl rfl rfl (fun w_ hB_ => r_load1 sc3 (hF.ev rfl) ((hS.ext hB_).box (i := 0) rfl rfl)) ?_; clear hF a; intro a hF
        refine wq_take hF rfl rfl rfl rfl ?_
        refine wq_call hF rfl rfl rfl (fun w_ hB_ => r_call1 en58 (hF.ev rfl)) (fun w_ hB_ => specIndexOf_c hwf.1) ?_; clear hF a; intro a hF
        refine wq_take hF rfl rfl rfl rfl ?_
        refine wq hF rfl rfl rfl (fun w_ hB_ => r_field fo31_2 (hF.ev rfl)) ?_; clear hF a; intro a hF
        refine wq_take hF rfl rfl rfl rfl ?_
        refine wq hF rfl rfl rfl (fun w_ hB_ => r_load1 sc3 (hF.ev rfl) ((hS.ext hB_).box (i := 2) rfl rfl)) ?_; clear hF a; intro a hF
        refine wq_take hF rfl rfl rfl rfl ?_
        refine wq hF rfl rfl rfl (fun w_ hB_ => r_geq (hF.ev rfl) (hF.ev rfl)) ?_; clear hF a; intro a hF
        refine wq hF rfl rfl rfl (fun w_ hB_ => r_pick_f (hF.ev rfl) (hF.ev rfl)) ?_; clear hF a; intro a hF
        exact wpQuiet_nil ((Fr.pre (A := [_, _, _, _, _, _, _]) hF rfl).keep hF (t := 74) rfl)
      ·
        intro hg67 a hF; try simp only [zb1, zb2, zb3, zb4, zb5, zb6, zb7, zb8] at hg67
        refine wq_mvs (A := [_, _, _, _, _, _]) hF rfl ?_; clear hF a; intro a hF
        refine wq hF rfl rfl rfl (fun w_ hB_ => r_pick_t (hF.ev rfl) ec) ?_; clear hF a; intro a hF
        exact wpQuiet_nil ((Fr.pre (A := [_, _, _, _, _, _, _]) hF rfl).keep hF (t := 74) rfl)
      clear hF a; intro a hF
      refine wpQuiet_nil ?_; intro w11 hB_; replace hS := hS.ext hB_; clear hB_
      refine hK17 _ _ ?_
      refine wc_fx (t := 74) hF rfl ?_ ?_ <;> clear hF <;> intro c74 hF <;> try simp only [zb1, zb2, zb3, zb4, zb5, zb6, zb7, zb8] at c74
      ·
        refine ws fun K18 hK18 => ?_
        refine wl_mvs (A := [_]) hF rfl ?_; clear hF a; intro a hF
        refine wl_nil (hK18 _ _ ?_)
        refine wp_ret ?_
        try simp only [Exit.then, Exit.inBlock, ↓reduceIte]
        refine ret1 rfl hF rfl ⟨congrArg Value.bool (Eq.symm ?_), hS.old⟩
        first
          | exact th_free (all_no hx (decide_eq_false (hw2 ▸ c25)))
          | exact th_ents (all_no hx (ent_no c74))
          | exact th_noS c102
          | exact th_yesS (all_done hn (by omega)) (all_done hn2 (by rw [List.length_append]; omega)) ⟨⟨c102.1.1, by rcases c102.1.2 with h | h; exact .inl h; exact c102.2.elim (fun h2 => .inr ⟨h, by omega⟩) .inl⟩, by omega, fun h => by omega, fun h => by omega⟩
          | exact th_no fun hp => by
              obtain ⟨-, p1, p2, p3⟩ := hp
              rcases c148 with (c148 | c148) | c148
              · exact p1 c148
              · rcases c148.1 with h | h
                · have := p2 h; omega
                · have := p3 h; omega
              · have := p2 c148.1; omega
      refine wp_skip ?_
      simp only [Exit.then, Exit.inBlock, ↓reduceIte]
      refine hK13 _ _ ?_
      refine wp_region_lit ?_
      refine wl_mvs (A := [_]) hF rfl ?_; clear hF a; intro a hF
      refine wl hF rfl rfl rfl (r_add (hF.ev rfl) ec) ?_; clear hF a; intro a hF
      refine wl_mvs (A := [_]) hF rfl ?_; clear hF a; intro a hF
      refine wl_nil ?_
      try simp only [Exit.then, Exit.inBlock, ↓reduceIte]
      refine ⟨k + 1, ⟨by omega, all_nxt hn2 hx (ent_yes c74)⟩, (hS.pick [1, 2] (by decide) rfl), ((((hF.nil.keep hF (t := 4) rfl).keep hF (t := 3) rfl).keep hF (t := 2) rfl).keepE hF (t := 6) rfl (wk (by omega))), by rw [List.length_append]; omega⟩
    have hw4 : IntKind.i64.wrap ((k : Int) - t.buffer.length) = k - t.buffer.length := w64_id (by omega) (by omega)
    have hwf := wwork _ (at0_mem (xs := t.work) (i := IntKind.i64.wrap ((k : Int) - t.buffer.length)) (by omega) (by omega))
    have hx : (t.buffer ++ t.work)[k]? = some (at0 t.work (IntKind.i64.wrap ((k : Int) - t.buffer.length))) := by rw [hw4]; exact (at0_nat (xs := t.buffer ++ t.work) (k := k) (by rw [List.length_append]; omega)).trans (congrArg some (at0_app2 c42))
    refine wp_region_lit ?_
    refine wl hF rfl rfl rfl (r_field fo55_14 (hF.ev rfl)) ?_; clear hF a; intro a hF
    refine wl hF rfl rfl rfl (r_load1 sc53 (hF.ev rfl) (hS.box (i := 1) rfl rfl)) ?_; clear hF a; intro a hF
    refine wl_mvs (A := [_]) hF rfl ?_; clear hF a; intro a hF
    refine wl hF rfl rfl rfl (r_field fo55_13 (hF.ev rfl)) ?_; clear hF a; intro a hF
    refine wl hF rfl rfl rfl (r_load1 sc53 (hF.ev rfl) (hS.box (i := 1) rfl rfl)) ?_; clear hF a; intro a hF
    refine wl hF rfl rfl rfl (r_len ul53 (hF.ev rfl)) ?_; clear hF a; intro a hF
    refine wl hF rfl rfl rfl (r_sub (hF.ev rfl) (hF.ev rfl)) ?_; clear hF a; intro a hF
    obtain ⟨g55, o55, m55, q55, hv55, hm55, hl55, hc55⟩ := Rd.atF (r3) (a := a) (X := .tmp 54) (hF.ev rfl) (by omega) (by omega)
    refine wl hF rfl rfl rfl (r_index sl53 ((hF.ev rfl).trans hv55) (hF.ev rfl) (by omega) (by first | omega | (simp at hm55; omega))) ?_; clear hF a; intro a hF
    refine wl hF rfl rfl rfl (r_loadn ag86 (hF.ev rfl) (fun j_ u_ hu_ => cellB hS.old (hc55 j_ u_ hu_)) sz86) ?_; clear hF a; intro a hF
    refine wl_storen (cs' := [_, _, _, _]) hF hS (i := 0) rfl (hF.ev rfl) (hF.ev rfl) sz86 ⟨rfl, rfl⟩ rfl rfl ?_; intro w12 hS_; replace hS := hS_; clear hS_; dsimp only [List.set] at hS
    refine wl_nil (hK15 _ _ ?_)
    refine wp_seq_k fun K19 hK19 => ?_
    refine wp_region_calm (by kernel_rfl) (by kernel_rfl) ?_
    refine wq hF rfl rfl rfl (fun w_ hB_ => r_loadn ag86 (hF.ev rfl) ((hS.ext hB_).box_rd (i := 0) rfl) sz86) ?_; clear hF a; intro a hF
    refine wq_call hF rfl rfl rfl (fun w_ hB_ => r_call1 en57 (hF.ev rfl)) (fun w_ hB_ => specIsEntry_c hwf) ?_; clear hF a; intro a hF
    refine wq hF rfl rfl rfl (fun w_ hB_ => r_not (hF.ev rfl)) ?_; clear hF a; intro a hF
    refine wq_mvs (A := [_]) hF rfl ?_; clear hF a; intro a hF
    apply wq_or (A := [_, _, _, _, _, _]) (pk := 66) hF (tc := 60) rfl
    ·
      intro hg60 a hF; try simp only [zb1, zb2, zb3, zb4, zb5, zb6, zb7, zb8] at hg60
      refine wq_take hF rfl rfl rfl rfl ?_
      refine wq hF rfl rfl rfl (fun w_ hB_ => r_field fo86_1 (hF.ev rfl)) ?_; clear hF a; intro a hF
      refine wq_take hF rfl rfl rfl rfl ?_
      refine wq hF rfl rfl rfl (fun w_ hB_ => r_load1 sc3 (hF.ev rfl) ((hS.ext hB_).box (i := 0) rfl rfl)) ?_; clear hF a; intro a hF
      refine wq_take hF rfl rfl rfl rfl ?_
      refine wq hF rfl rfl rfl (fun w_ hB_ => r_field fo31_1 (hF.ev rfl)) ?_; clear hF a; intro a hF
      refine wq_take hF rfl rfl rfl rfl ?_
      refine wq hF rfl rfl rfl (fun w_ hB_ => r_load1 sc3 (hF.ev rfl) ((hS.ext hB_).box (i := 2) rfl rfl)) ?_; clear hF a; intro a hF
      refine wq_take hF rfl rfl rfl rfl ?_
      refine wq hF rfl rfl rfl (fun w_ hB_ => r_geq (hF.ev rfl) (hF.ev rfl)) ?_; clear hF a; intro a hF
      refine wq hF rfl rfl rfl (fun w_ hB_ => r_pick_f (hF.ev rfl) (hF.ev rfl)) ?_; clear hF a; intro a hF
      exact wpQuiet_nil ((Fr.pre (A := [_, _, _, _, _, _]) hF rfl).keep hF (t := 66) rfl)
    ·
      intro hg60 a hF; try simp only [zb1, zb2, zb3, zb4, zb5, zb6, zb7, zb8] at hg60
      refine wq_mvs (A := [_, _, _, _, _]) hF rfl ?_; clear hF a; intro a hF
      refine wq hF rfl rfl rfl (fun w_ hB_ => r_pick_t (hF.ev rfl) ec) ?_; clear hF a; intro a hF
      exact wpQuiet_nil ((Fr.pre (A := [_, _, _, _, _, _]) hF rfl).keep hF (t := 66) rfl)
    clear hF a; intro a hF
    refine wq_mvs (A := [_]) hF rfl ?_; clear hF a; intro a hF
    apply wq_or (A := [_, _, _, _, _, _, _]) (pk := 74) hF (tc := 67) rfl
    ·
      intro hg67 a hF; try simp only [zb1, zb2, zb3, zb4, zb5, zb6, zb7, zb8] at hg67
      refine wq_take hF rfl rfl rfl rfl ?_
      refine wq hF rfl rfl rfl (fun w_ hB_ => r_field fo86_0 (hF.ev rfl)) ?_; clear hF a; intro a hF
      refine wq_take hF rfl rfl rfl rfl ?_
      refine wq hF rfl rfl rfl (fun w_ hB_ => r_load1 sc3 (hF.ev rfl) ((hS.ext hB_).box (i := 0) rfl rfl)) ?_; clear hF a; intro a hF
      refine wq_take hF rfl rfl rfl rfl ?_
      refine wq_call hF rfl rfl rfl (fun w_ hB_ => r_call1 en58 (hF.ev rfl)) (fun w_ hB_ => specIndexOf_c hwf.1) ?_; clear hF a; intro a hF
      refine wq_take hF rfl rfl rfl rfl ?_
      refine wq hF rfl rfl rfl (fun w_ hB_ => r_field fo31_2 (hF.ev rfl)) ?_; clear hF a; intro a hF
      refine wq_take hF rfl rfl rfl rfl ?_
      refine wq hF rfl rfl rfl (fun w_ hB_ => r_load1 sc3 (hF.ev rfl) ((hS.ext hB_).box (i := 2) rfl rfl)) ?_; clear hF a; intro a hF
      refine wq_take hF rfl rfl rfl rfl ?_
      refine wq hF rfl rfl rfl (fun w_ hB_ => r_geq (hF.ev rfl) (hF.ev rfl)) ?_; clear hF a; intro a hF
      refine wq hF rfl rfl rfl (fun w_ hB_ => r_pick_f (hF.ev rfl) (hF.ev rfl)) ?_; clear hF a; intro a hF
      exact wpQuiet_nil ((Fr.pre (A := [_, _, _, _, _, _, _]) hF rfl).keep hF (t := 74) rfl)
    ·
      intro hg67 a hF; try simp only [zb1, zb2, zb3, zb4, zb5, zb6, zb7, zb8] at hg67
      refine wq_mvs (A := [_, _, _, _, _, _]) hF rfl ?_; clear hF a; intro a hF
      refine wq hF rfl rfl rfl (fun w_ hB_ => r_pick_t (hF.ev rfl) ec) ?_; clear hF a; intro a hF
      exact wpQuiet_nil ((Fr.pre (A := [_, _, _, _, _, _, _]) hF rfl).keep hF (t := 74) rfl)
    clear hF a; intro a hF
    refine wpQuiet_nil ?_; intro w15 hB_; replace hS := hS.ext hB_; clear hB_
    refine hK19 _ _ ?_
    refine wc_fx (t := 74) hF rfl ?_ ?_ <;> clear hF <;> intro c74 hF <;> try simp only [zb1, zb2, zb3, zb4, zb5, zb6, zb7, zb8] at c74
    ·
      refine ws fun K20 hK20 => ?_
      refine wl_mvs (A := [_]) hF rfl ?_; clear hF a; intro a hF
      refine wl_nil (hK20 _ _ ?_)
      refine wp_ret ?_
      try simp only [Exit.then, Exit.inBlock, ↓reduceIte]
      refine ret1 rfl hF rfl ⟨congrArg Value.bool (Eq.symm ?_), hS.old⟩
      first
        | exact th_free (all_no hx (decide_eq_false (hw2 ▸ c25)))
        | exact th_ents (all_no hx (ent_no c74))
        | exact th_noS c102
        | exact th_yesS (all_done hn (by omega)) (all_done hn2 (by rw [List.length_append]; omega)) ⟨⟨c102.1.1, by rcases c102.1.2 with h | h; exact .inl h; exact c102.2.elim (fun h2 => .inr ⟨h, by omega⟩) .inl⟩, by omega, fun h => by omega, fun h => by omega⟩
        | exact th_no fun hp => by
            obtain ⟨-, p1, p2, p3⟩ := hp
            rcases c148 with (c148 | c148) | c148
            · exact p1 c148
            · rcases c148.1 with h | h
              · have := p2 h; omega
              · have := p3 h; omega
            · have := p2 c148.1; omega
    refine wp_skip ?_
    simp only [Exit.then, Exit.inBlock, ↓reduceIte]
    refine hK13 _ _ ?_
    refine wp_region_lit ?_
    refine wl_mvs (A := [_]) hF rfl ?_; clear hF a; intro a hF
    refine wl hF rfl rfl rfl (r_add (hF.ev rfl) ec) ?_; clear hF a; intro a hF
    refine wl_mvs (A := [_]) hF rfl ?_; clear hF a; intro a hF
    refine wl_nil ?_
    try simp only [Exit.then, Exit.inBlock, ↓reduceIte]
    refine ⟨k + 1, ⟨by omega, all_nxt hn2 hx (ent_yes c74)⟩, (hS.pick [1, 2] (by decide) rfl), ((((hF.nil.keep hF (t := 4) rfl).keep hF (t := 3) rfl).keep hF (t := 2) rfl).keepE hF (t := 6) rfl (wk (by omega))), by rw [List.length_append]; omega⟩
  rw [hw5] at c34
  refine wp_exit ?_
  simp only [Exit.then, Exit.inBlock, ↓reduceIte]
  refine hK9 _ _ ?_
  refine wp_seq_k fun K21 hK21 => ?_
  refine ws fun K22 hK22 => ?_
  refine wl hF rfl rfl rfl (r_field fo55_0 (hF.ev rfl)) ?_; clear hF a; intro a hF
  refine wl hF rfl rfl rfl (r_load1 sc3 (hF.ev rfl) (hS.box (i := 0) rfl rfl)) ?_; clear hF a; intro a hF
  refine wl_call hF rfl rfl rfl (r_call1 en59 (hF.ev rfl)) (specIsPc_c) ?_; clear hF a; rintro v w16 a ⟨rfl, hB_⟩ hF; replace hS := hS.ext hB_; clear hB_
  refine wl hF rfl rfl rfl (r_not (hF.ev rfl)) ?_; clear hF a; intro a hF
  refine wl_mvs (A := [_]) hF rfl ?_; clear hF a; intro a hF
  apply wl_or (A := [_, _, _, _, _, _, _, _, _, _]) (pk := 89) hF hS (tc := 79) rfl
  ·
    intro hg79 a hF; try simp only [zb1, zb2, zb3, zb4, zb5, zb6, zb7, zb8] at hg79
    refine wl_take hF rfl rfl rfl rfl ?_
    refine wl hF rfl rfl rfl (r_field fo55_0 (hF.ev rfl)) ?_; clear hF a; intro a hF
    refine wl_take hF rfl rfl rfl rfl ?_
    refine wl hF rfl rfl rfl (r_load1 sc3 (hF.ev rfl) (hS.box (i := 0) rfl rfl)) ?_; clear hF a; intro a hF
    refine wl_take hF rfl rfl rfl rfl ?_
    refine wl hF rfl rfl rfl (r_neq (hF.ev rfl) ec) ?_; clear hF a; intro a hF
    refine wl_mvs (A := [_]) hF rfl ?_; clear hF a; intro a hF
    apply wl_and (A := [_, _, _, _, _]) (pk := 88) hF hS (tc := 83) rfl
    ·
      intro hg83 a hF; try simp only [zb1, zb2, zb3, zb4, zb5, zb6, zb7, zb8] at hg83
      refine wl_take hF rfl rfl rfl rfl ?_
      refine wl hF rfl rfl rfl (r_field fo55_1 (hF.ev rfl)) ?_; clear hF a; intro a hF
      refine wl_take hF rfl rfl rfl rfl ?_
      refine wl hF rfl rfl rfl (r_loadn ag38 (hF.ev rfl) (hS.boxn (vs := [_, _, _]) (i := 0) (m := 3) rfl rfl) sz38) ?_; clear hF a; intro a hF
      refine wl_take hF rfl rfl rfl rfl ?_
      refine wl_call hF rfl rfl rfl (r_call1 en17 (hF.ev rfl)) (specIsOp_c _) ?_; clear hF a; rintro v w17 a ⟨rfl, hB_⟩ hF; replace hS := hS.ext hB_; clear hB_
      refine wl_take hF rfl rfl rfl rfl ?_
      refine wl hF rfl rfl rfl (r_not (hF.ev rfl)) ?_; clear hF a; intro a hF
      refine wl_take hF rfl rfl rfl rfl ?_
      refine wl hF rfl rfl rfl (r_pick_t (hF.ev rfl) (hF.ev rfl)) ?_; clear hF a; intro a hF
      exact wl_nil ⟨rfl, (Fr.pre (A := [_, _, _, _, _]) hF rfl).keep hF (t := 88) rfl, hS⟩
    ·
      intro hg83 a hF; try simp only [zb1, zb2, zb3, zb4, zb5, zb6, zb7, zb8] at hg83
      refine wl_mvs (A := [_, _, _, _]) hF rfl ?_; clear hF a; intro a hF
      refine wl_take hF rfl rfl rfl rfl ?_
      refine wl hF rfl rfl rfl (r_pick_f (hF.ev rfl) ec) ?_; clear hF a; intro a hF
      exact wl_nil ⟨rfl, (Fr.pre (A := [_, _, _, _, _]) hF rfl).keep hF (t := 88) rfl, hS⟩
    intro a w18 hF hS
    refine wl hF rfl rfl rfl (r_pick_f (hF.ev rfl) (hF.ev rfl)) ?_; clear hF a; intro a hF
    exact wl_nil ⟨rfl, (Fr.pre (A := [_, _, _, _, _, _]) hF rfl).keep hF (t := 89) rfl, hS⟩
  ·
    intro hg79 a hF; try simp only [zb1, zb2, zb3, zb4, zb5, zb6, zb7, zb8] at hg79
    refine wl_mvs (A := [_, _, _, _, _, _, _, _, _]) hF rfl ?_; clear hF a; intro a hF
    refine wl hF rfl rfl rfl (r_pick_t (hF.ev rfl) ec) ?_; clear hF a; intro a hF
    exact wl_nil ⟨rfl, (Fr.pre (A := [_, _, _, _, _, _, _, _, _, _]) hF rfl).keep hF (t := 89) rfl, hS⟩
  clear hF a hS; intro a w19 hF hS
  refine wl_mvs (A := [_]) hF rfl ?_; clear hF a; intro a hF
  apply wl_or (A := [_, _, _, _, _, _, _, _, _, _, _, _]) (pk := 102) hF hS (tc := 90) rfl
  ·
    intro hg90 a hF; try simp only [zb1, zb2, zb3, zb4, zb5, zb6, zb7, zb8] at hg90
    refine wl_take hF rfl rfl rfl rfl ?_
    refine wl hF rfl rfl rfl (r_field fo55_1 (hF.ev rfl)) ?_; clear hF a; intro a hF
    refine wl_take hF rfl rfl rfl rfl ?_
    refine wl hF rfl rfl rfl (r_field fo38_1 (hF.ev rfl)) ?_; clear hF a; intro a hF
    refine wl_take hF rfl rfl rfl rfl ?_
    refine wl hF rfl rfl rfl (r_load1 sc3 (hF.ev rfl) (hS.box (i := 0) rfl rfl)) ?_; clear hF a; intro a hF
    refine wl_take hF rfl rfl rfl rfl ?_
    refine wl hF rfl rfl rfl (r_field fo31_1 (hF.ev rfl)) ?_; clear hF a; intro a hF
    refine wl_take hF rfl rfl rfl rfl ?_
    refine wl hF rfl rfl rfl (r_load1 sc3 (hF.ev rfl) (hS.box (i := 1) rfl rfl)) ?_; clear hF a; intro a hF
    refine wl_take hF rfl rfl rfl rfl ?_
    refine wl hF rfl rfl rfl (r_geq (hF.ev rfl) (hF.ev rfl)) ?_; clear hF a; intro a hF
    refine wl_mvs (A := [_]) hF rfl ?_; clear hF a; intro a hF
    apply wl_and (A := [_, _, _, _]) (pk := 101) hF hS (tc := 97) rfl
    ·
      intro hg97 a hF; try simp only [zb1, zb2, zb3, zb4, zb5, zb6, zb7, zb8] at hg97
      refine wl_take hF rfl rfl rfl rfl ?_
      refine wl hF rfl rfl rfl (r_field fo55_0 (hF.ev rfl)) ?_; clear hF a; intro a hF
      refine wl_take hF rfl rfl rfl rfl ?_
      refine wl hF rfl rfl rfl (r_load1 sc3 (hF.ev rfl) (hS.box (i := 0) rfl rfl)) ?_; clear hF a; intro a hF
      refine wl_take hF rfl rfl rfl rfl ?_
      refine wl hF rfl rfl rfl (r_neq (hF.ev rfl) ec) ?_; clear hF a; intro a hF
      refine wl_take hF rfl rfl rfl rfl ?_
      refine wl hF rfl rfl rfl (r_pick_t (hF.ev rfl) (hF.ev rfl)) ?_; clear hF a; intro a hF
      exact wl_nil ⟨rfl, (Fr.pre (A := [_, _, _, _]) hF rfl).keep hF (t := 101) rfl, hS⟩
    ·
      intro hg97 a hF; try simp only [zb1, zb2, zb3, zb4, zb5, zb6, zb7, zb8] at hg97
      refine wl_mvs (A := [_, _, _]) hF rfl ?_; clear hF a; intro a hF
      refine wl_take hF rfl rfl rfl rfl ?_
      refine wl hF rfl rfl rfl (r_pick_f (hF.ev rfl) ec) ?_; clear hF a; intro a hF
      exact wl_nil ⟨rfl, (Fr.pre (A := [_, _, _, _]) hF rfl).keep hF (t := 101) rfl, hS⟩
    intro a w20 hF hS
    refine wl hF rfl rfl rfl (r_pick_f (hF.ev rfl) (hF.ev rfl)) ?_; clear hF a; intro a hF
    exact wl_nil ⟨rfl, (Fr.pre (A := [_, _, _, _, _, _, _, _, _]) hF rfl).keep hF (t := 102) rfl, hS⟩
  ·
    intro hg90 a hF; try simp only [zb1, zb2, zb3, zb4, zb5, zb6, zb7, zb8] at hg90
    refine wl_mvs (A := [_, _, _, _, _, _, _, _, _, _, _]) hF rfl ?_; clear hF a; intro a hF
    refine wl hF rfl rfl rfl (r_pick_t (hF.ev rfl) ec) ?_; clear hF a; intro a hF
    exact wl_nil ⟨rfl, (Fr.pre (A := [_, _, _, _, _, _, _, _, _, _, _, _]) hF rfl).keep hF (t := 102) rfl, hS⟩
  clear hF a hS; intro a w21 hF hS
  refine wl_nil (hK22 _ _ ?_)
  refine wc_fx (t := 102) hF rfl ?_ ?_ <;> clear hF <;> intro c102 hF <;> try simp only [zb1, zb2, zb3, zb4, zb5, zb6, zb7, zb8] at c102
  ·
    refine ws fun K23 hK23 => ?_
    refine wl_mvs (A := [_]) hF rfl ?_; clear hF a; intro a hF
    refine wl_nil (hK23 _ _ ?_)
    refine wp_ret ?_
    try simp only [Exit.then, Exit.inBlock, ↓reduceIte]
    refine ret1 rfl hF rfl ⟨congrArg Value.bool (Eq.symm ?_), hS.old⟩
    first
      | exact th_free (all_no hx (decide_eq_false (hw2 ▸ c25)))
      | exact th_ents (all_no hx (ent_no c74))
      | exact th_noS c102
      | exact th_yesS (all_done hn (by omega)) (all_done hn2 (by rw [List.length_append]; omega)) ⟨⟨c102.1.1, by rcases c102.1.2 with h | h; exact .inl h; exact c102.2.elim (fun h2 => .inr ⟨h, by omega⟩) .inl⟩, by omega, fun h => by omega, fun h => by omega⟩
      | exact th_no fun hp => by
          obtain ⟨-, p1, p2, p3⟩ := hp
          rcases c148 with (c148 | c148) | c148
          · exact p1 c148
          · rcases c148.1 with h | h
            · have := p2 h; omega
            · have := p3 h; omega
          · have := p2 c148.1; omega
  refine wp_skip ?_
  refine hK21 _ _ ?_
  refine wp_seq_k fun K24 hK24 => ?_
  refine ws fun K25 hK25 => ?_
  refine wl hF rfl rfl rfl (r_field fo55_0 (hF.ev rfl)) ?_; clear hF a; intro a hF
  refine wl hF rfl rfl rfl (r_load1 sc3 (hF.ev rfl) (hS.box (i := 0) rfl rfl)) ?_; clear hF a; intro a hF
  refine wl hF rfl rfl rfl (r_eql (hF.ev rfl) ec) ?_; clear hF a; intro a hF
  refine wl_mvs (A := [_]) hF rfl ?_; clear hF a; intro a hF
  apply wl_or (A := [_, _, _, _]) (pk := 110) hF hS (tc := 106) rfl
  ·
    intro hg106 a hF; try simp only [zb1, zb2, zb3, zb4, zb5, zb6, zb7, zb8] at hg106
    refine wl_take hF rfl rfl rfl rfl ?_
    refine wl hF rfl rfl rfl (r_field fo55_0 (hF.ev rfl)) ?_; clear hF a; intro a hF
    refine wl_take hF rfl rfl rfl rfl ?_
    refine wl hF rfl rfl rfl (r_load1 sc3 (hF.ev rfl) (hS.box (i := 0) rfl rfl)) ?_; clear hF a; intro a hF
    refine wl_take hF rfl rfl rfl rfl ?_
    refine wl hF rfl rfl rfl (r_eql (hF.ev rfl) ec) ?_; clear hF a; intro a hF
    refine wl hF rfl rfl rfl (r_pick_f (hF.ev rfl) (hF.ev rfl)) ?_; clear hF a; intro a hF
    exact wl_nil ⟨rfl, (Fr.pre (A := [_, _, _, _]) hF rfl).keep hF (t := 110) rfl, hS⟩
  ·
    intro hg106 a hF; try simp only [zb1, zb2, zb3, zb4, zb5, zb6, zb7, zb8] at hg106
    refine wl_mvs (A := [_, _, _]) hF rfl ?_; clear hF a; intro a hF
    refine wl hF rfl rfl rfl (r_pick_t (hF.ev rfl) ec) ?_; clear hF a; intro a hF
    exact wl_nil ⟨rfl, (Fr.pre (A := [_, _, _, _]) hF rfl).keep hF (t := 110) rfl, hS⟩
  clear hF a hS; intro a w22 hF hS
  refine wl_mvs (A := [_]) hF rfl ?_; clear hF a; intro a hF
  apply wl_and (A := [_, _, _, _, _]) (pk := 116) hF hS (tc := 111) rfl
  ·
    intro hg111 a hF; try simp only [zb1, zb2, zb3, zb4, zb5, zb6, zb7, zb8] at hg111
    refine wl_take hF rfl rfl rfl rfl ?_
    refine wl hF rfl rfl rfl (r_field fo55_14 (hF.ev rfl)) ?_; clear hF a; intro a hF
    refine wl_take hF rfl rfl rfl rfl ?_
    refine wl hF rfl rfl rfl (r_load1 sc53 (hF.ev rfl) (hS.box (i := 0) rfl rfl)) ?_; clear hF a; intro a hF
    refine wl_take hF rfl rfl rfl rfl ?_
    refine wl hF rfl rfl rfl (r_len ul53 (hF.ev rfl)) ?_; clear hF a; intro a hF
    refine wl_take hF rfl rfl rfl rfl ?_
    refine wl hF rfl rfl rfl (r_eql (hF.ev rfl) ec) ?_; clear hF a; intro a hF
    refine wl hF rfl rfl rfl (r_pick_t (hF.ev rfl) (hF.ev rfl)) ?_; clear hF a; intro a hF
    exact wl_nil ⟨rfl, (Fr.pre (A := [_, _, _, _, _]) hF rfl).keep hF (t := 116) rfl, hS⟩
  ·
    intro hg111 a hF; try simp only [zb1, zb2, zb3, zb4, zb5, zb6, zb7, zb8] at hg111
    refine wl_mvs (A := [_, _, _, _]) hF rfl ?_; clear hF a; intro a hF
    refine wl hF rfl rfl rfl (r_pick_f (hF.ev rfl) ec) ?_; clear hF a; intro a hF
    exact wl_nil ⟨rfl, (Fr.pre (A := [_, _, _, _, _]) hF rfl).keep hF (t := 116) rfl, hS⟩
  clear hF a hS; intro a w23 hF hS
  refine wl_mvs (A := [_]) hF rfl ?_; clear hF a; intro a hF
  apply wl_or (A := [_, _, _, _, _, _, _, _, _, _, _, _, _, _, _, _, _, _, _]) (pk := 136) hF hS (tc := 117) rfl
  ·
    intro hg117 a hF; try simp only [zb1, zb2, zb3, zb4, zb5, zb6, zb7, zb8] at hg117
    refine wl_take hF rfl rfl rfl rfl ?_
    refine wl hF rfl rfl rfl (r_field fo55_0 (hF.ev rfl)) ?_; clear hF a; intro a hF
    refine wl_take hF rfl rfl rfl rfl ?_
    refine wl hF rfl rfl rfl (r_load1 sc3 (hF.ev rfl) (hS.box (i := 0) rfl rfl)) ?_; clear hF a; intro a hF
    refine wl_take hF rfl rfl rfl rfl ?_
    refine wl hF rfl rfl rfl (r_eql (hF.ev rfl) ec) ?_; clear hF a; intro a hF
    refine wl_mvs (A := [_]) hF rfl ?_; clear hF a; intro a hF
    apply wl_or (A := [_, _, _, _]) (pk := 125) hF hS (tc := 121) rfl
    ·
      intro hg121 a hF; try simp only [zb1, zb2, zb3, zb4, zb5, zb6, zb7, zb8] at hg121
      refine wl_take hF rfl rfl rfl rfl ?_
      refine wl hF rfl rfl rfl (r_field fo55_0 (hF.ev rfl)) ?_; clear hF a; intro a hF
      refine wl_take hF rfl rfl rfl rfl ?_
      refine wl hF rfl rfl rfl (r_load1 sc3 (hF.ev rfl) (hS.box (i := 0) rfl rfl)) ?_; clear hF a; intro a hF
      refine wl_take hF rfl rfl rfl rfl ?_
      refine wl hF rfl rfl rfl (r_eql (hF.ev rfl) ec) ?_; clear hF a; intro a hF
      refine wl_take hF rfl rfl rfl rfl ?_
      refine wl hF rfl rfl rfl (r_pick_f (hF.ev rfl) (hF.ev rfl)) ?_; clear hF a; intro a hF
      exact wl_nil ⟨rfl, (Fr.pre (A := [_, _, _, _]) hF rfl).keep hF (t := 125) rfl, hS⟩
    ·
      intro hg121 a hF; try simp only [zb1, zb2, zb3, zb4, zb5, zb6, zb7, zb8] at hg121
      refine wl_mvs (A := [_, _, _]) hF rfl ?_; clear hF a; intro a hF
      refine wl_take hF rfl rfl rfl rfl ?_
      refine wl hF rfl rfl rfl (r_pick_t (hF.ev rfl) ec) ?_; clear hF a; intro a hF
      exact wl_nil ⟨rfl, (Fr.pre (A := [_, _, _, _]) hF rfl).keep hF (t := 125) rfl, hS⟩
    intro a w24 hF hS
    refine wl_mvs (A := [_]) hF rfl ?_; clear hF a; intro a hF
    apply wl_and (A := [_, _, _, _, _, _, _, _, _]) (pk := 135) hF hS (tc := 126) rfl
    ·
      intro hg126 a hF; try simp only [zb1, zb2, zb3, zb4, zb5, zb6, zb7, zb8] at hg126
      refine wl_take hF rfl rfl rfl rfl ?_
      refine wl hF rfl rfl rfl (r_field fo55_10 (hF.ev rfl)) ?_; clear hF a; intro a hF
      refine wl_take hF rfl rfl rfl rfl ?_
      refine wl hF rfl rfl rfl (r_load1 sc3 (hF.ev rfl) (hS.box (i := 0) rfl rfl)) ?_; clear hF a; intro a hF
      refine wl_take hF rfl rfl rfl rfl ?_
      refine wl hF rfl rfl rfl (r_field fo31_0 (hF.ev rfl)) ?_; clear hF a; intro a hF
      refine wl_take hF rfl rfl rfl rfl ?_
      refine wl hF rfl rfl rfl (r_load1 sc3 (hF.ev rfl) (hS.box (i := 1) rfl rfl)) ?_; clear hF a; intro a hF
      refine wl_take hF rfl rfl rfl rfl ?_
      refine wl hF rfl rfl rfl (r_mul ec (hF.ev rfl)) ?_; clear hF a; intro a hF
      refine wl_take hF rfl rfl rfl rfl ?_
      refine wl hF rfl rfl rfl (r_sub (hF.ev rfl) ec) ?_; clear hF a; intro a hF
      refine wl_take hF rfl rfl rfl rfl ?_
      refine wl_call hF rfl rfl rfl (r_call3 en16 (hF.ev rfl) ec (hF.ev rfl)) (l1In_c _ _ _) ?_; clear hF a; rintro v w25 a ⟨rfl, hB_⟩ hF; replace hS := hS.ext hB_; clear hB_
      refine wl_take hF rfl rfl rfl rfl ?_
      refine wl hF rfl rfl rfl (r_not (hF.ev rfl)) ?_; clear hF a; intro a hF
      refine wl_take hF rfl rfl rfl rfl ?_
      refine wl hF rfl rfl rfl (r_pick_t (hF.ev rfl) (hF.ev rfl)) ?_; clear hF a; intro a hF
      exact wl_nil ⟨rfl, (Fr.pre (A := [_, _, _, _, _, _, _, _, _]) hF rfl).keep hF (t := 135) rfl, hS⟩
    ·
      intro hg126 a hF; try simp only [zb1, zb2, zb3, zb4, zb5, zb6, zb7, zb8] at hg126
      refine wl_mvs (A := [_, _, _, _, _, _, _, _]) hF rfl ?_; clear hF a; intro a hF
      refine wl_take hF rfl rfl rfl rfl ?_
      refine wl hF rfl rfl rfl (r_pick_f (hF.ev rfl) ec) ?_; clear hF a; intro a hF
      exact wl_nil ⟨rfl, (Fr.pre (A := [_, _, _, _, _, _, _, _, _]) hF rfl).keep hF (t := 135) rfl, hS⟩
    intro a w26 hF hS
    refine wl hF rfl rfl rfl (r_pick_f (hF.ev rfl) (hF.ev rfl)) ?_; clear hF a; intro a hF
    exact wl_nil ⟨rfl, (Fr.pre (A := [_, _, _, _, _, _, _, _]) hF rfl).keep hF (t := 136) rfl, hS⟩
  ·
    intro hg117 a hF; try simp only [zb1, zb2, zb3, zb4, zb5, zb6, zb7, zb8] at hg117
    refine wl_mvs (A := [_, _, _, _, _, _, _, _, _, _, _, _, _, _, _, _, _, _]) hF rfl ?_; clear hF a; intro a hF
    refine wl hF rfl rfl rfl (r_pick_t (hF.ev rfl) ec) ?_; clear hF a; intro a hF
    exact wl_nil ⟨rfl, (Fr.pre (A := [_, _, _, _, _, _, _, _, _, _, _, _, _, _, _, _, _, _, _]) hF rfl).keep hF (t := 136) rfl, hS⟩
  clear hF a hS; intro a w27 hF hS
  refine wl_mvs (A := [_]) hF rfl ?_; clear hF a; intro a hF
  apply wl_or (A := [_, _, _, _, _, _, _, _, _, _, _]) (pk := 148) hF hS (tc := 137) rfl
  ·
    intro hg137 a hF; try simp only [zb1, zb2, zb3, zb4, zb5, zb6, zb7, zb8] at hg137
    refine wl_take hF rfl rfl rfl rfl ?_
    refine wl hF rfl rfl rfl (r_field fo55_0 (hF.ev rfl)) ?_; clear hF a; intro a hF
    refine wl_take hF rfl rfl rfl rfl ?_
    refine wl hF rfl rfl rfl (r_load1 sc3 (hF.ev rfl) (hS.box (i := 0) rfl rfl)) ?_; clear hF a; intro a hF
    refine wl_take hF rfl rfl rfl rfl ?_
    refine wl hF rfl rfl rfl (r_eql (hF.ev rfl) ec) ?_; clear hF a; intro a hF
    refine wl_mvs (A := [_]) hF rfl ?_; clear hF a; intro a hF
    apply wl_and (A := [_, _, _, _, _, _]) (pk := 147) hF hS (tc := 141) rfl
    ·
      intro hg141 a hF; try simp only [zb1, zb2, zb3, zb4, zb5, zb6, zb7, zb8] at hg141
      refine wl_take hF rfl rfl rfl rfl ?_
      refine wl hF rfl rfl rfl (r_field fo55_10 (hF.ev rfl)) ?_; clear hF a; intro a hF
      refine wl_take hF rfl rfl rfl rfl ?_
      refine wl hF rfl rfl rfl (r_load1 sc3 (hF.ev rfl) (hS.box (i := 0) rfl rfl)) ?_; clear hF a; intro a hF
      refine wl_take hF rfl rfl rfl rfl ?_
      refine wl hF rfl rfl rfl (r_field fo31_0 (hF.ev rfl)) ?_; clear hF a; intro a hF
      refine wl_take hF rfl rfl rfl rfl ?_
      refine wl hF rfl rfl rfl (r_load1 sc3 (hF.ev rfl) (hS.box (i := 1) rfl rfl)) ?_; clear hF a; intro a hF
      refine wl_take hF rfl rfl rfl rfl ?_
      refine wl hF rfl rfl rfl (r_geq (hF.ev rfl) (hF.ev rfl)) ?_; clear hF a; intro a hF
      refine wl_take hF rfl rfl rfl rfl ?_
      refine wl hF rfl rfl rfl (r_pick_t (hF.ev rfl) (hF.ev rfl)) ?_; clear hF a; intro a hF
      exact wl_nil ⟨rfl, (Fr.pre (A := [_, _, _, _, _, _]) hF rfl).keep hF (t := 147) rfl, hS⟩
    ·
      intro hg141 a hF; try simp only [zb1, zb2, zb3, zb4, zb5, zb6, zb7, zb8] at hg141
      refine wl_mvs (A := [_, _, _, _, _]) hF rfl ?_; clear hF a; intro a hF
      refine wl_take hF rfl rfl rfl rfl ?_
      refine wl hF rfl rfl rfl (r_pick_f (hF.ev rfl) ec) ?_; clear hF a; intro a hF
      exact wl_nil ⟨rfl, (Fr.pre (A := [_, _, _, _, _, _]) hF rfl).keep hF (t := 147) rfl, hS⟩
    intro a w28 hF hS
    refine wl hF rfl rfl rfl (r_pick_f (hF.ev rfl) (hF.ev rfl)) ?_; clear hF a; intro a hF
    exact wl_nil ⟨rfl, (Fr.pre (A := [_, _, _, _, _, _]) hF rfl).keep hF (t := 148) rfl, hS⟩
  ·
    intro hg137 a hF; try simp only [zb1, zb2, zb3, zb4, zb5, zb6, zb7, zb8] at hg137
    refine wl_mvs (A := [_, _, _, _, _, _, _, _, _, _]) hF rfl ?_; clear hF a; intro a hF
    refine wl hF rfl rfl rfl (r_pick_t (hF.ev rfl) ec) ?_; clear hF a; intro a hF
    exact wl_nil ⟨rfl, (Fr.pre (A := [_, _, _, _, _, _, _, _, _, _, _]) hF rfl).keep hF (t := 148) rfl, hS⟩
  clear hF a hS; intro a w29 hF hS
  refine wl_nil (hK25 _ _ ?_)
  refine wc_fx (t := 148) hF rfl ?_ ?_ <;> clear hF <;> intro c148 hF <;> try simp only [zb1, zb2, zb3, zb4, zb5, zb6, zb7, zb8] at c148
  ·
    refine ws fun K26 hK26 => ?_
    refine wl_mvs (A := [_]) hF rfl ?_; clear hF a; intro a hF
    refine wl_nil (hK26 _ _ ?_)
    refine wp_ret ?_
    try simp only [Exit.then, Exit.inBlock, ↓reduceIte]
    refine ret1 rfl hF rfl ⟨congrArg Value.bool (Eq.symm ?_), hS.old⟩
    first
      | exact th_free (all_no hx (decide_eq_false (hw2 ▸ c25)))
      | exact th_ents (all_no hx (ent_no c74))
      | exact th_noS c102
      | exact th_yesS (all_done hn (by omega)) (all_done hn2 (by rw [List.length_append]; omega)) ⟨⟨c102.1.1, by rcases c102.1.2 with h | h; exact .inl h; exact c102.2.elim (fun h2 => .inr ⟨h, by omega⟩) .inl⟩, by omega, fun h => by omega, fun h => by omega⟩
      | exact th_no fun hp => by
          obtain ⟨-, p1, p2, p3⟩ := hp
          rcases c148 with (c148 | c148) | c148
          · exact p1 c148
          · rcases c148.1 with h | h
            · have := p2 h; omega
            · have := p3 h; omega
          · have := p2 c148.1; omega
  refine wp_skip ?_
  refine hK24 _ _ ?_
  refine ws fun K27 hK27 => ?_
  refine wl hF rfl rfl rfl (r_loadn ag31 (hF.ev rfl) (hS.box_rd (i := 1) rfl) sz31) ?_; clear hF a; intro a hF
  refine wl hF rfl rfl rfl (r_field fo55_4 (hF.ev rfl)) ?_; clear hF a; intro a hF
  refine wl hF rfl rfl rfl (r_load1 sc3 (hF.ev rfl) (hS.box (i := 0) rfl rfl)) ?_; clear hF a; intro a hF
  refine wl_call hF rfl rfl rfl (r_call2 en44 (hF.ev rfl) (hF.ev rfl)) (l8Zero_c (by assumption)) ?_; clear hF a; rintro v w30 a ⟨rfl, hB_⟩ hF; replace hS := hS.ext hB_; clear hB_
  refine wl_mvs (A := [_]) hF rfl ?_; clear hF a; intro a hF
  apply wl_and (A := [_, _, _, _, _]) (pk := 158) hF hS (tc := 153) rfl
  ·
    intro hg153 a hF; try simp only [zb1, zb2, zb3, zb4, zb5, zb6, zb7, zb8] at hg153
    refine wl_take hF rfl rfl rfl rfl ?_
    refine wl hF rfl rfl rfl (r_loadn ag31 (hF.ev rfl) (hS.box_rd (i := 1) rfl) sz31) ?_; clear hF a; intro a hF
    refine wl_take hF rfl rfl rfl rfl ?_
    refine wl hF rfl rfl rfl (r_field fo55_5 (hF.ev rfl)) ?_; clear hF a; intro a hF
    refine wl_take hF rfl rfl rfl rfl ?_
    refine wl hF rfl rfl rfl (r_load1 sc3 (hF.ev rfl) (hS.box (i := 0) rfl rfl)) ?_; clear hF a; intro a hF
    refine wl_take hF rfl rfl rfl rfl ?_
    refine wl_call hF rfl rfl rfl (r_call2 en44 (hF.ev rfl) (hF.ev rfl)) (l8Zero_c (by assumption)) ?_; clear hF a; rintro v w31 a ⟨rfl, hB_⟩ hF; replace hS := hS.ext hB_; clear hB_
    refine wl hF rfl rfl rfl (r_pick_t (hF.ev rfl) (hF.ev rfl)) ?_; clear hF a; intro a hF
    exact wl_nil ⟨rfl, (Fr.pre (A := [_, _, _, _, _]) hF rfl).keep hF (t := 158) rfl, hS⟩
  ·
    intro hg153 a hF; try simp only [zb1, zb2, zb3, zb4, zb5, zb6, zb7, zb8] at hg153
    refine wl_mvs (A := [_, _, _, _]) hF rfl ?_; clear hF a; intro a hF
    refine wl hF rfl rfl rfl (r_pick_f (hF.ev rfl) ec) ?_; clear hF a; intro a hF
    exact wl_nil ⟨rfl, (Fr.pre (A := [_, _, _, _, _]) hF rfl).keep hF (t := 158) rfl, hS⟩
  clear hF a hS; intro a w32 hF hS
  refine wl_mvs (A := [_]) hF rfl ?_; clear hF a; intro a hF
  apply wl_and (A := [_, _, _, _, _]) (pk := 164) hF hS (tc := 159) rfl
  ·
    intro hg159 a hF; try simp only [zb1, zb2, zb3, zb4, zb5, zb6, zb7, zb8] at hg159
    refine wl_take hF rfl rfl rfl rfl ?_
    refine wl hF rfl rfl rfl (r_loadn ag31 (hF.ev rfl) (hS.box_rd (i := 1) rfl) sz31) ?_; clear hF a; intro a hF
    refine wl_take hF rfl rfl rfl rfl ?_
    refine wl hF rfl rfl rfl (r_field fo55_6 (hF.ev rfl)) ?_; clear hF a; intro a hF
    refine wl_take hF rfl rfl rfl rfl ?_
    refine wl hF rfl rfl rfl (r_load1 sc3 (hF.ev rfl) (hS.box (i := 0) rfl rfl)) ?_; clear hF a; intro a hF
    refine wl_take hF rfl rfl rfl rfl ?_
    refine wl_call hF rfl rfl rfl (r_call2 en44 (hF.ev rfl) (hF.ev rfl)) (l8Zero_c (by assumption)) ?_; clear hF a; rintro v w33 a ⟨rfl, hB_⟩ hF; replace hS := hS.ext hB_; clear hB_
    refine wl hF rfl rfl rfl (r_pick_t (hF.ev rfl) (hF.ev rfl)) ?_; clear hF a; intro a hF
    exact wl_nil ⟨rfl, (Fr.pre (A := [_, _, _, _, _]) hF rfl).keep hF (t := 164) rfl, hS⟩
  ·
    intro hg159 a hF; try simp only [zb1, zb2, zb3, zb4, zb5, zb6, zb7, zb8] at hg159
    refine wl_mvs (A := [_, _, _, _]) hF rfl ?_; clear hF a; intro a hF
    refine wl hF rfl rfl rfl (r_pick_f (hF.ev rfl) ec) ?_; clear hF a; intro a hF
    exact wl_nil ⟨rfl, (Fr.pre (A := [_, _, _, _, _]) hF rfl).keep hF (t := 164) rfl, hS⟩
  clear hF a hS; intro a w34 hF hS
  refine wl_mvs (A := [_]) hF rfl ?_; clear hF a; intro a hF
  apply wl_and (A := [_, _, _, _, _]) (pk := 170) hF hS (tc := 165) rfl
  ·
    intro hg165 a hF; try simp only [zb1, zb2, zb3, zb4, zb5, zb6, zb7, zb8] at hg165
    refine wl_take hF rfl rfl rfl rfl ?_
    refine wl hF rfl rfl rfl (r_loadn ag31 (hF.ev rfl) (hS.box_rd (i := 1) rfl) sz31) ?_; clear hF a; intro a hF
    refine wl_take hF rfl rfl rfl rfl ?_
    refine wl hF rfl rfl rfl (r_field fo55_7 (hF.ev rfl)) ?_; clear hF a; intro a hF
    refine wl_take hF rfl rfl rfl rfl ?_
    refine wl hF rfl rfl rfl (r_load1 sc3 (hF.ev rfl) (hS.box (i := 0) rfl rfl)) ?_; clear hF a; intro a hF
    refine wl_take hF rfl rfl rfl rfl ?_
    refine wl_call hF rfl rfl rfl (r_call2 en44 (hF.ev rfl) (hF.ev rfl)) (l8Zero_c (by assumption)) ?_; clear hF a; rintro v w35 a ⟨rfl, hB_⟩ hF; replace hS := hS.ext hB_; clear hB_
    refine wl hF rfl rfl rfl (r_pick_t (hF.ev rfl) (hF.ev rfl)) ?_; clear hF a; intro a hF
    exact wl_nil ⟨rfl, (Fr.pre (A := [_, _, _, _, _]) hF rfl).keep hF (t := 170) rfl, hS⟩
  ·
    intro hg165 a hF; try simp only [zb1, zb2, zb3, zb4, zb5, zb6, zb7, zb8] at hg165
    refine wl_mvs (A := [_, _, _, _]) hF rfl ?_; clear hF a; intro a hF
    refine wl hF rfl rfl rfl (r_pick_f (hF.ev rfl) ec) ?_; clear hF a; intro a hF
    exact wl_nil ⟨rfl, (Fr.pre (A := [_, _, _, _, _]) hF rfl).keep hF (t := 170) rfl, hS⟩
  clear hF a hS; intro a w36 hF hS
  refine wl_mvs (A := [_]) hF rfl ?_; clear hF a; intro a hF
  apply wl_and (A := [_, _, _, _, _]) (pk := 176) hF hS (tc := 171) rfl
  ·
    intro hg171 a hF; try simp only [zb1, zb2, zb3, zb4, zb5, zb6, zb7, zb8] at hg171
    refine wl_take hF rfl rfl rfl rfl ?_
    refine wl hF rfl rfl rfl (r_field fo55_4 (hF.ev rfl)) ?_; clear hF a; intro a hF
    refine wl_take hF rfl rfl rfl rfl ?_
    refine wl hF rfl rfl rfl (r_load1 sc3 (hF.ev rfl) (hS.box (i := 0) rfl rfl)) ?_; clear hF a; intro a hF
    refine wl_take hF rfl rfl rfl rfl ?_
    refine wl_call hF rfl rfl rfl (r_call1 en45 (hF.ev rfl)) (specIsMarked_c (by assumption)) ?_; clear hF a; rintro v w37 a ⟨rfl, hB_⟩ hF; replace hS := hS.ext hB_; clear hB_
    refine wl_take hF rfl rfl rfl rfl ?_
    refine wl hF rfl rfl rfl (r_not (hF.ev rfl)) ?_; clear hF a; intro a hF
    refine wl hF rfl rfl rfl (r_pick_t (hF.ev rfl) (hF.ev rfl)) ?_; clear hF a; intro a hF
    exact wl_nil ⟨rfl, (Fr.pre (A := [_, _, _, _, _]) hF rfl).keep hF (t := 176) rfl, hS⟩
  ·
    intro hg171 a hF; try simp only [zb1, zb2, zb3, zb4, zb5, zb6, zb7, zb8] at hg171
    refine wl_mvs (A := [_, _, _, _]) hF rfl ?_; clear hF a; intro a hF
    refine wl hF rfl rfl rfl (r_pick_f (hF.ev rfl) ec) ?_; clear hF a; intro a hF
    exact wl_nil ⟨rfl, (Fr.pre (A := [_, _, _, _, _]) hF rfl).keep hF (t := 176) rfl, hS⟩
  clear hF a hS; intro a w38 hF hS
  refine wl_mvs (A := [_]) hF rfl ?_; clear hF a; intro a hF
  apply wl_and (A := [_, _, _, _, _]) (pk := 182) hF hS (tc := 177) rfl
  ·
    intro hg177 a hF; try simp only [zb1, zb2, zb3, zb4, zb5, zb6, zb7, zb8] at hg177
    refine wl_take hF rfl rfl rfl rfl ?_
    refine wl hF rfl rfl rfl (r_field fo55_5 (hF.ev rfl)) ?_; clear hF a; intro a hF
    refine wl_take hF rfl rfl rfl rfl ?_
    refine wl hF rfl rfl rfl (r_load1 sc3 (hF.ev rfl) (hS.box (i := 0) rfl rfl)) ?_; clear hF a; intro a hF
    refine wl_take hF rfl rfl rfl rfl ?_
    refine wl_call hF rfl rfl rfl (r_call1 en45 (hF.ev rfl)) (specIsMarked_c (by assumption)) ?_; clear hF a; rintro v w39 a ⟨rfl, hB_⟩ hF; replace hS := hS.ext hB_; clear hB_
    refine wl_take hF rfl rfl rfl rfl ?_
    refine wl hF rfl rfl rfl (r_not (hF.ev rfl)) ?_; clear hF a; intro a hF
    refine wl hF rfl rfl rfl (r_pick_t (hF.ev rfl) (hF.ev rfl)) ?_; clear hF a; intro a hF
    exact wl_nil ⟨rfl, (Fr.pre (A := [_, _, _, _, _]) hF rfl).keep hF (t := 182) rfl, hS⟩
  ·
    intro hg177 a hF; try simp only [zb1, zb2, zb3, zb4, zb5, zb6, zb7, zb8] at hg177
    refine wl_mvs (A := [_, _, _, _]) hF rfl ?_; clear hF a; intro a hF
    refine wl hF rfl rfl rfl (r_pick_f (hF.ev rfl) ec) ?_; clear hF a; intro a hF
    exact wl_nil ⟨rfl, (Fr.pre (A := [_, _, _, _, _]) hF rfl).keep hF (t := 182) rfl, hS⟩
  clear hF a hS; intro a w40 hF hS
  refine wl_mvs (A := [_]) hF rfl ?_; clear hF a; intro a hF
  apply wl_and (A := [_, _, _, _, _]) (pk := 188) hF hS (tc := 183) rfl
  ·
    intro hg183 a hF; try simp only [zb1, zb2, zb3, zb4, zb5, zb6, zb7, zb8] at hg183
    refine wl_take hF rfl rfl rfl rfl ?_
    refine wl hF rfl rfl rfl (r_field fo55_6 (hF.ev rfl)) ?_; clear hF a; intro a hF
    refine wl_take hF rfl rfl rfl rfl ?_
    refine wl hF rfl rfl rfl (r_load1 sc3 (hF.ev rfl) (hS.box (i := 0) rfl rfl)) ?_; clear hF a; intro a hF
    refine wl_take hF rfl rfl rfl rfl ?_
    refine wl_call hF rfl rfl rfl (r_call1 en45 (hF.ev rfl)) (specIsMarked_c (by assumption)) ?_; clear hF a; rintro v w41 a ⟨rfl, hB_⟩ hF; replace hS := hS.ext hB_; clear hB_
    refine wl_take hF rfl rfl rfl rfl ?_
    refine wl hF rfl rfl rfl (r_not (hF.ev rfl)) ?_; clear hF a; intro a hF
    refine wl hF rfl rfl rfl (r_pick_t (hF.ev rfl) (hF.ev rfl)) ?_; clear hF a; intro a hF
    exact wl_nil ⟨rfl, (Fr.pre (A := [_, _, _, _, _]) hF rfl).keep hF (t := 188) rfl, hS⟩
  ·
    intro hg183 a hF; try simp only [zb1, zb2, zb3, zb4, zb5, zb6, zb7, zb8] at hg183
    refine wl_mvs (A := [_, _, _, _]) hF rfl ?_; clear hF a; intro a hF
    refine wl hF rfl rfl rfl (r_pick_f (hF.ev rfl) ec) ?_; clear hF a; intro a hF
    exact wl_nil ⟨rfl, (Fr.pre (A := [_, _, _, _, _]) hF rfl).keep hF (t := 188) rfl, hS⟩
  clear hF a hS; intro a w42 hF hS
  refine wl_mvs (A := [_]) hF rfl ?_; clear hF a; intro a hF
  refine wl_nil (hK27 _ _ ?_)
  refine ws fun K28 hK28 => ?_
  refine wl_mvs (A := [_, _]) hF rfl ?_; clear hF a; intro a hF
  apply wl_and (A := [_, _, _, _, _]) (pk := 195) hF hS (tc := 190) rfl
  ·
    intro hg190 a hF; try simp only [zb1, zb2, zb3, zb4, zb5, zb6, zb7, zb8] at hg190
    refine wl_take hF rfl rfl rfl rfl ?_
    refine wl hF rfl rfl rfl (r_loadn ag31 (hF.ev rfl) (hS.box_rd (i := 1) rfl) sz31) ?_; clear hF a; intro a hF
    refine wl_take hF rfl rfl rfl rfl ?_
    refine wl hF rfl rfl rfl (r_field fo55_15 (hF.ev rfl)) ?_; clear hF a; intro a hF
    refine wl_take hF rfl rfl rfl rfl ?_
    refine wl hF rfl rfl rfl (r_load1 sc24 (hF.ev rfl) (hS.box (i := 0) rfl rfl)) ?_; clear hF a; intro a hF
    refine wl_take hF rfl rfl rfl rfl ?_
    refine wl_call hF rfl rfl rfl (r_call2 en60 (hF.ev rfl) (hF.ev rfl)) (l8Handles_c (hS.rd r4) wlimbo) ?_; clear hF a; rintro v w43 a ⟨rfl, hB_⟩ hF; replace hS := hS.ext hB_; clear hB_
    refine wl hF rfl rfl rfl (r_pick_t (hF.ev rfl) (hF.ev rfl)) ?_; clear hF a; intro a hF
    exact wl_nil ⟨rfl, (Fr.pre (A := [_, _, _, _, _]) hF rfl).keep hF (t := 195) rfl, hS⟩
  ·
    intro hg190 a hF; try simp only [zb1, zb2, zb3, zb4, zb5, zb6, zb7, zb8] at hg190
    refine wl_mvs (A := [_, _, _, _]) hF rfl ?_; clear hF a; intro a hF
    refine wl hF rfl rfl rfl (r_pick_f (hF.ev rfl) ec) ?_; clear hF a; intro a hF
    exact wl_nil ⟨rfl, (Fr.pre (A := [_, _, _, _, _]) hF rfl).keep hF (t := 195) rfl, hS⟩
  clear hF a hS; intro a w44 hF hS
  refine wl_mvs (A := [_]) hF rfl ?_; clear hF a; intro a hF
  apply wl_and (A := [_, _, _, _]) (pk := 200) hF hS (tc := 196) rfl
  ·
    intro hg196 a hF; try simp only [zb1, zb2, zb3, zb4, zb5, zb6, zb7, zb8] at hg196
    refine wl_take hF rfl rfl rfl rfl ?_
    refine wl hF rfl rfl rfl (r_field fo55_3 (hF.ev rfl)) ?_; clear hF a; intro a hF
    refine wl_take hF rfl rfl rfl rfl ?_
    refine wl hF rfl rfl rfl (r_load1 sc3 (hF.ev rfl) (hS.box (i := 0) rfl rfl)) ?_; clear hF a; intro a hF
    refine wl_take hF rfl rfl rfl rfl ?_
    refine wl_call hF rfl rfl rfl (r_call3 en16 (hF.ev rfl) ec ec) (l1In_c _ _ _) ?_; clear hF a; rintro v w45 a ⟨rfl, hB_⟩ hF; replace hS := hS.ext hB_; clear hB_
    refine wl hF rfl rfl rfl (r_pick_t (hF.ev rfl) (hF.ev rfl)) ?_; clear hF a; intro a hF
    exact wl_nil ⟨rfl, (Fr.pre (A := [_, _, _, _]) hF rfl).keep hF (t := 200) rfl, hS⟩
  ·
    intro hg196 a hF; try simp only [zb1, zb2, zb3, zb4, zb5, zb6, zb7, zb8] at hg196
    refine wl_mvs (A := [_, _, _]) hF rfl ?_; clear hF a; intro a hF
    refine wl hF rfl rfl rfl (r_pick_f (hF.ev rfl) ec) ?_; clear hF a; intro a hF
    exact wl_nil ⟨rfl, (Fr.pre (A := [_, _, _, _]) hF rfl).keep hF (t := 200) rfl, hS⟩
  clear hF a hS; intro a w46 hF hS
  refine wl_mvs (A := [_]) hF rfl ?_; clear hF a; intro a hF
  apply wl_and (A := [_, _, _, _, _]) (pk := 206) hF hS (tc := 201) rfl
  ·
    intro hg201 a hF; try simp only [zb1, zb2, zb3, zb4, zb5, zb6, zb7, zb8] at hg201
    refine wl_take hF rfl rfl rfl rfl ?_
    refine wl hF rfl rfl rfl (r_field fo55_13 (hF.ev rfl)) ?_; clear hF a; intro a hF
    refine wl_take hF rfl rfl rfl rfl ?_
    refine wl hF rfl rfl rfl (r_load1 sc53 (hF.ev rfl) (hS.box (i := 0) rfl rfl)) ?_; clear hF a; intro a hF
    refine wl_take hF rfl rfl rfl rfl ?_
    refine wl hF rfl rfl rfl (r_len ul53 (hF.ev rfl)) ?_; clear hF a; intro a hF
    refine wl_take hF rfl rfl rfl rfl ?_
    refine wl hF rfl rfl rfl (r_leq (hF.ev rfl) ec) ?_; clear hF a; intro a hF
    refine wl hF rfl rfl rfl (r_pick_t (hF.ev rfl) (hF.ev rfl)) ?_; clear hF a; intro a hF
    exact wl_nil ⟨rfl, (Fr.pre (A := [_, _, _, _, _]) hF rfl).keep hF (t := 206) rfl, hS⟩
  ·
    intro hg201 a hF; try simp only [zb1, zb2, zb3, zb4, zb5, zb6, zb7, zb8] at hg201
    refine wl_mvs (A := [_, _, _, _]) hF rfl ?_; clear hF a; intro a hF
    refine wl hF rfl rfl rfl (r_pick_f (hF.ev rfl) ec) ?_; clear hF a; intro a hF
    exact wl_nil ⟨rfl, (Fr.pre (A := [_, _, _, _, _]) hF rfl).keep hF (t := 206) rfl, hS⟩
  clear hF a hS; intro a w47 hF hS
  refine wl_mvs (A := [_]) hF rfl ?_; clear hF a; intro a hF
  apply wl_and (A := [_, _, _, _, _]) (pk := 212) hF hS (tc := 207) rfl
  ·
    intro hg207 a hF; try simp only [zb1, zb2, zb3, zb4, zb5, zb6, zb7, zb8] at hg207
    refine wl_take hF rfl rfl rfl rfl ?_
    refine wl hF rfl rfl rfl (r_field fo55_14 (hF.ev rfl)) ?_; clear hF a; intro a hF
    refine wl_take hF rfl rfl rfl rfl ?_
    refine wl hF rfl rfl rfl (r_load1 sc53 (hF.ev rfl) (hS.box (i := 0) rfl rfl)) ?_; clear hF a; intro a hF
    refine wl_take hF rfl rfl rfl rfl ?_
    refine wl hF rfl rfl rfl (r_len ul53 (hF.ev rfl)) ?_; clear hF a; intro a hF
    refine wl_take hF rfl rfl rfl rfl ?_
    refine wl hF rfl rfl rfl (r_leq (hF.ev rfl) ec) ?_; clear hF a; intro a hF
    refine wl hF rfl rfl rfl (r_pick_t (hF.ev rfl) (hF.ev rfl)) ?_; clear hF a; intro a hF
    exact wl_nil ⟨rfl, (Fr.pre (A := [_, _, _, _, _]) hF rfl).keep hF (t := 212) rfl, hS⟩
  ·
    intro hg207 a hF; try simp only [zb1, zb2, zb3, zb4, zb5, zb6, zb7, zb8] at hg207
    refine wl_mvs (A := [_, _, _, _]) hF rfl ?_; clear hF a; intro a hF
    refine wl hF rfl rfl rfl (r_pick_f (hF.ev rfl) ec) ?_; clear hF a; intro a hF
    exact wl_nil ⟨rfl, (Fr.pre (A := [_, _, _, _, _]) hF rfl).keep hF (t := 212) rfl, hS⟩
  clear hF a hS; intro a w48 hF hS
  refine wl_mvs (A := [_]) hF rfl ?_; clear hF a; intro a hF
  apply wl_and (A := [_, _, _, _, _]) (pk := 218) hF hS (tc := 213) rfl
  ·
    intro hg213 a hF; try simp only [zb1, zb2, zb3, zb4, zb5, zb6, zb7, zb8] at hg213
    refine wl_take hF rfl rfl rfl rfl ?_
    refine wl hF rfl rfl rfl (r_field fo55_12 (hF.ev rfl)) ?_; clear hF a; intro a hF
    refine wl_take hF rfl rfl rfl rfl ?_
    refine wl hF rfl rfl rfl (r_load1 sc24 (hF.ev rfl) (hS.box (i := 0) rfl rfl)) ?_; clear hF a; intro a hF
    refine wl_take hF rfl rfl rfl rfl ?_
    refine wl hF rfl rfl rfl (r_len ul24 (hF.ev rfl)) ?_; clear hF a; intro a hF
    refine wl_take hF rfl rfl rfl rfl ?_
    refine wl hF rfl rfl rfl (r_leq (hF.ev rfl) ec) ?_; clear hF a; intro a hF
    refine wl hF rfl rfl rfl (r_pick_t (hF.ev rfl) (hF.ev rfl)) ?_; clear hF a; intro a hF
    exact wl_nil ⟨rfl, (Fr.pre (A := [_, _, _, _, _]) hF rfl).keep hF (t := 218) rfl, hS⟩
  ·
    intro hg213 a hF; try simp only [zb1, zb2, zb3, zb4, zb5, zb6, zb7, zb8] at hg213
    refine wl_mvs (A := [_, _, _, _]) hF rfl ?_; clear hF a; intro a hF
    refine wl hF rfl rfl rfl (r_pick_f (hF.ev rfl) ec) ?_; clear hF a; intro a hF
    exact wl_nil ⟨rfl, (Fr.pre (A := [_, _, _, _, _]) hF rfl).keep hF (t := 218) rfl, hS⟩
  clear hF a hS; intro a w49 hF hS
  refine wl_mvs (A := [_]) hF rfl ?_; clear hF a; intro a hF
  apply wl_and (A := [_, _, _, _, _]) (pk := 224) hF hS (tc := 219) rfl
  ·
    intro hg219 a hF; try simp only [zb1, zb2, zb3, zb4, zb5, zb6, zb7, zb8] at hg219
    refine wl_take hF rfl rfl rfl rfl ?_
    refine wl hF rfl rfl rfl (r_field fo55_11 (hF.ev rfl)) ?_; clear hF a; intro a hF
    refine wl_take hF rfl rfl rfl rfl ?_
    refine wl hF rfl rfl rfl (r_load1 sc24 (hF.ev rfl) (hS.box (i := 0) rfl rfl)) ?_; clear hF a; intro a hF
    refine wl_take hF rfl rfl rfl rfl ?_
    refine wl hF rfl rfl rfl (r_len ul24 (hF.ev rfl)) ?_; clear hF a; intro a hF
    refine wl_take hF rfl rfl rfl rfl ?_
    refine wl hF rfl rfl rfl (r_leq (hF.ev rfl) ec) ?_; clear hF a; intro a hF
    refine wl hF rfl rfl rfl (r_pick_t (hF.ev rfl) (hF.ev rfl)) ?_; clear hF a; intro a hF
    exact wl_nil ⟨rfl, (Fr.pre (A := [_, _, _, _, _]) hF rfl).keep hF (t := 224) rfl, hS⟩
  ·
    intro hg219 a hF; try simp only [zb1, zb2, zb3, zb4, zb5, zb6, zb7, zb8] at hg219
    refine wl_mvs (A := [_, _, _, _]) hF rfl ?_; clear hF a; intro a hF
    refine wl hF rfl rfl rfl (r_pick_f (hF.ev rfl) ec) ?_; clear hF a; intro a hF
    exact wl_nil ⟨rfl, (Fr.pre (A := [_, _, _, _, _]) hF rfl).keep hF (t := 224) rfl, hS⟩
  clear hF a hS; intro a w50 hF hS
  refine wl_mvs (A := [_]) hF rfl ?_; clear hF a; intro a hF
  refine wl_nil (hK28 _ _ ?_)
  refine wp_ret ?_
  try simp only [Exit.then, Exit.inBlock, ↓reduceIte]
  refine ret1 rfl hF rfl ⟨congrArg Value.bool (Eq.symm ?_), hS.old⟩
  first
    | exact th_free (all_no hx (decide_eq_false (hw2 ▸ c25)))
    | exact th_ents (all_no hx (ent_no c74))
    | exact th_noS c102
    | exact th_yesS (all_done hn (by omega)) (all_done hn2 (by rw [List.length_append]; omega)) ⟨⟨c102.1.1, by rcases c102.1.2 with h | h; exact .inl h; exact c102.2.elim (fun h2 => .inr ⟨h, by omega⟩) .inl⟩, by omega, fun h => by omega, fun h => by omega⟩
    | exact th_no fun hp => by
        obtain ⟨-, p1, p2, p3⟩ := hp
        rcases c148 with (c148 | c148) | c148
        · exact p1 c148
        · rcases c148.1 with h | h
          · have := p2 h; omega
          · have := p3 h; omega
        · have := p2 c148.1; omega
end Go.Proofs.Ytifhfodphoeeoaa.Wk
namespace Go.Proofs.Ytifhfodphoeeoaa.Wk
open Go Go.RowKit Sl
set_option linter.unusedVariables false
set_option linter.unusedSimpArgs false
set_option maxRecDepth 20000
theorem thread_inner0 (w : World) : Sat (threadEK.inner default []) (fun _ => False) w := by
  have h := Sat.nil (fun _ => False) w
  have c := fun {α : Type} (ek : EK α) {l : List Res} (h : Sat l (fun _ => False) w) => Sat.cons (S1 := fun _ => False) (S' := fun _ => False) h (own_nil ek _ w) (fun k hk => hk) (fun k hk => hk) (fun k hk _ => hk)
  exact c intEK (c intEK (c entryEK (c entryEK (c intEK h))))
set_option maxHeartbeats 4000000 in
set_option maxRecDepth 20000 in
theorem toConfig_c {W : World} (x : Config) : Calls Try.prog 22 #[.agg x.enc.toArray] W (Ret fun v w' => v = .agg x.enc.toArray ∧ Below W.heap.size W w') := by
  refine calls_fr Try.func22 rfl Try.ntmps22 rfl ?_
  intro a hF
  have hS := Sep.refl W
  refine ws fun K1 hK1 => ?_
  refine wl_box (cs := [_, _, _, _, _, _]) hF hS rfl (hF.ev rfl) rfl ?_; clear hF a; intro g1 w1 a hS_ hB_ hF; replace hS := hS_; clear hS_ hB_
  refine wl_alloc hF hS rfl zr31 ?_; clear hF a; intro g2 w2 a hS_ hB_ hF; replace hS := hS_; clear hS_ hB_
  refine wl_nil (hK1 _ _ ?_)
  refine ws fun K2 hK2 => ?_
  refine wl_alloc hF hS rfl zr31 ?_; clear hF a; intro g3 w3 a hS_ hB_ hF; replace hS := hS_; clear hS_ hB_
  refine wl_nil (hK2 _ _ ?_)
  refine ws fun K3 hK3 => ?_
  refine wl hF rfl rfl rfl (r_field fo23_0 (hF.ev rfl)) ?_; clear hF a; intro a hF
  refine wl hF rfl rfl rfl (r_load1 sc3 (hF.ev rfl) (hS.box (i := 2) rfl rfl)) ?_; clear hF a; intro a hF
  refine wl hF rfl rfl rfl (r_field fo31_0 (hF.ev rfl)) ?_; clear hF a; intro a hF
  refine wl_store hF hS (i := 0) rfl sz3 (hF.ev rfl) (hF.ev rfl) rfl rfl ?_; intro w4 hS_; replace hS := hS_; clear hS_; dsimp only [List.set, Nat.reduceAdd] at hS
  refine wl_nil (hK3 _ _ ?_)
  refine ws fun K4 hK4 => ?_
  refine wl hF rfl rfl rfl (r_field fo23_1 (hF.ev rfl)) ?_; clear hF a; intro a hF
  refine wl hF rfl rfl rfl (r_load1 sc3 (hF.ev rfl) (hS.box (i := 2) rfl rfl)) ?_; clear hF a; intro a hF
  refine wl hF rfl rfl rfl (r_field fo31_1 (hF.ev rfl)) ?_; clear hF a; intro a hF
  refine wl_store hF hS (i := 0) rfl sz3 (hF.ev rfl) (hF.ev rfl) rfl rfl ?_; intro w5 hS_; replace hS := hS_; clear hS_; dsimp only [List.set, Nat.reduceAdd] at hS
  refine wl_nil (hK4 _ _ ?_)
  refine ws fun K5 hK5 => ?_
  refine wl hF rfl rfl rfl (r_field fo23_2 (hF.ev rfl)) ?_; clear hF a; intro a hF
  refine wl hF rfl rfl rfl (r_load1 sc3 (hF.ev rfl) (hS.box (i := 2) rfl rfl)) ?_; clear hF a; intro a hF
  refine wl hF rfl rfl rfl (r_field fo31_2 (hF.ev rfl)) ?_; clear hF a; intro a hF
  refine wl_store hF hS (i := 0) rfl sz3 (hF.ev rfl) (hF.ev rfl) rfl rfl ?_; intro w6 hS_; replace hS := hS_; clear hS_; dsimp only [List.set, Nat.reduceAdd] at hS
  refine wl_nil (hK5 _ _ ?_)
  refine ws fun K6 hK6 => ?_
  refine wl hF rfl rfl rfl (r_field fo23_3 (hF.ev rfl)) ?_; clear hF a; intro a hF
  refine wl hF rfl rfl rfl (r_load1 sc3 (hF.ev rfl) (hS.box (i := 2) rfl rfl)) ?_; clear hF a; intro a hF
  refine wl hF rfl rfl rfl (r_field fo31_3 (hF.ev rfl)) ?_; clear hF a; intro a hF
  refine wl_store hF hS (i := 0) rfl sz3 (hF.ev rfl) (hF.ev rfl) rfl rfl ?_; intro w7 hS_; replace hS := hS_; clear hS_; dsimp only [List.set, Nat.reduceAdd] at hS
  refine wl_nil (hK6 _ _ ?_)
  refine ws fun K7 hK7 => ?_
  refine wl hF rfl rfl rfl (r_field fo23_4 (hF.ev rfl)) ?_; clear hF a; intro a hF
  refine wl hF rfl rfl rfl (r_load1 sc3 (hF.ev rfl) (hS.box (i := 2) rfl rfl)) ?_; clear hF a; intro a hF
  refine wl hF rfl rfl rfl (r_field fo31_4 (hF.ev rfl)) ?_; clear hF a; intro a hF
  refine wl_store hF hS (i := 0) rfl sz3 (hF.ev rfl) (hF.ev rfl) rfl rfl ?_; intro w8 hS_; replace hS := hS_; clear hS_; dsimp only [List.set, Nat.reduceAdd] at hS
  refine wl_nil (hK7 _ _ ?_)
  refine ws fun K8 hK8 => ?_
  refine wl hF rfl rfl rfl (r_field fo23_5 (hF.ev rfl)) ?_; clear hF a; intro a hF
  refine wl hF rfl rfl rfl (r_load1 sc3 (hF.ev rfl) (hS.box (i := 2) rfl rfl)) ?_; clear hF a; intro a hF
  refine wl hF rfl rfl rfl (r_field fo31_5 (hF.ev rfl)) ?_; clear hF a; intro a hF
  refine wl_store hF hS (i := 0) rfl sz3 (hF.ev rfl) (hF.ev rfl) rfl rfl ?_; intro w9 hS_; replace hS := hS_; clear hS_; dsimp only [List.set, Nat.reduceAdd] at hS
  refine wl_nil (hK8 _ _ ?_)
  refine ws fun K9 hK9 => ?_
  refine wl hF rfl rfl rfl (r_loadn ag31 (hF.ev rfl) (hS.box_rd (i := 0) rfl) sz31) ?_; clear hF a; intro a hF
  refine wl_storew hF hS (i := 1) rfl (hF.ev rfl) (hF.ev rfl) sz31 rfl rfl ?_; intro w10 hS_; replace hS := hS_; clear hS_; dsimp only [List.set, Nat.reduceAdd] at hS
  refine wl_nil (hK9 _ _ ?_)
  refine wp_ret ?_
  try simp only [Exit.then, Exit.inBlock, ↓reduceIte]
  exact ret1c rfl ag31 hF hS (i := 1) rfl sz31 rfl ⟨rfl, hS.old⟩
set_option maxHeartbeats 4000000 in
set_option maxRecDepth 20000 in
theorem szThreadS_c {W : World} {va : Value} {xs : List Sl.Thread} {left : Int} (ha : threadEK.Rd W va xs) (h0 : 0 ≤ left) (h1 : left ≤ 1048576) : Calls Try.prog 13 #[va, vi left] W (Ret fun v w' => (∃ r : Int, v = vi r ∧ -1 ≤ r ∧ r ≤ left ∧ (0 ≤ r → (xs.length + crow (Sl.Thread.size) xs : Int) ≤ left - r)) ∧ Below W.heap.size W w') := by
  refine calls_fr Try.func13 rfl Try.ntmps13 rfl ?_
  intro a hF
  obtain ⟨A_a, q_a, rfl, hq_a, hn_a⟩ := ha.sl; unfold maxLen at hn_a
  have hS := Sep.refl W
  have e : IntKind.i64.wrap (left - xs.length) = left - xs.length := w64_id (by omega) (by omega)
  refine ws fun K1 hK1 => ?_
  refine wl_mvs (A := [_]) hF rfl ?_; clear hF a; intro a hF
  refine wl_nil (hK1 _ _ ?_)
  refine ws fun K2 hK2 => ?_
  refine wl_mvs (A := [_, _]) hF rfl ?_; clear hF a; intro a hF
  refine wl hF rfl rfl rfl (r_len ul25 (hF.ev rfl)) ?_; clear hF a; intro a hF
  refine wl hF rfl rfl rfl (r_sub (hF.ev rfl) (hF.ev rfl)) ?_; clear hF a; intro a hF
  refine wl_mvs (A := [_]) hF rfl ?_; clear hF a; intro a hF
  refine wl_nil (hK2 _ _ ?_)
  refine wp_seq_k fun K3 hK3 => ?_
  refine ws fun K4 hK4 => ?_
  refine wl_mvs (A := [_]) hF rfl ?_; clear hF a; intro a hF
  refine wl hF rfl rfl rfl (r_lss (hF.ev rfl) ec) ?_; clear hF a; intro a hF
  refine wl_nil (hK4 _ _ ?_)
  refine wc_fx (t := 11) hF rfl ?_ ?_ <;> clear hF <;> intro c11 hF <;> try simp only [zb1, zb2, zb3, zb4, zb5, zb6, zb7, zb8] at c11
  ·
    rw [e] at c11
    refine ws fun K5 hK5 => ?_
    refine wl_mvs (A := [_]) hF rfl ?_; clear hF a; intro a hF
    refine wl_nil (hK5 _ _ ?_)
    refine wp_ret ?_
    try simp only [Exit.then, Exit.inBlock, ↓reduceIte]
    first | exact ret1 rfl hF rfl ⟨⟨-1, rfl, by omega, by omega, by omega⟩, hS.old⟩ | (obtain rfl : k = xs.length := (by omega); rw [List.take_length] at hr2; exact ret1 rfl hF rfl ⟨⟨_, rfl, by omega, by omega, fun _ => hr2⟩, hS.old⟩)
  rw [e] at c11
  refine wp_skip ?_
  refine hK3 _ _ ?_
  refine wp_seq_k fun K6 hK6 => ?_
  refine ws fun K7 hK7 => ?_
  refine wl_mvs (A := [_]) hF rfl ?_; clear hF a; intro a hF
  refine wl_nil (hK7 _ _ ?_)
  refine wp_block ?_
  have hL_ := ((hF.nil.keep hF (t := 4) rfl).keep hF (t := 0) rfl)
  refine wp_loop_r (σ := Nat × Int) (fun s L_ => (5, vi s.1) :: (1, vi s.2) :: L_) (fun s => (s.1 ≤ xs.length) ∧ (0 ≤ s.2) ∧ (s.2 ≤ left) ∧ ((xs.length + crow (Sl.Thread.size) (xs.take s.1) : Int) ≤ left - s.2)) (fun s => xs.length - s.1) (0, left - xs.length) hS ((hL_.keepE hF (t := 1) rfl (congrArg vi e)).keepE hF (t := 5) rfl rfl) ?_ ?_
  · exact ⟨Nat.zero_le _, by dsimp only; omega, by dsimp only; omega, by simp only [List.take_zero, crow]; omega⟩
  clear hF hS hL_ a
  rintro ⟨k, r⟩ a w1 ⟨hk, hr0, hr1, hr2⟩ hS hF; try dsimp only at hF; try dsimp only at hS; try dsimp only at hk; try dsimp only at hr0; try dsimp only at hr1; try dsimp only at hr2
  refine wp_seq_k fun K8 hK8 => ?_
  refine ws fun K9 hK9 => ?_
  refine wl_mvs (A := [_, _]) hF rfl ?_; clear hF a; intro a hF
  refine wl hF rfl rfl rfl (r_len ul25 (hF.ev rfl)) ?_; clear hF a; intro a hF
  refine wl hF rfl rfl rfl (r_lss (hF.ev rfl) (hF.ev rfl)) ?_; clear hF a; intro a hF
  refine wl_nil (hK9 _ _ ?_)
  refine wc_fx (t := 15) hF rfl ?_ ?_ <;> clear hF <;> intro c15 hF <;> try simp only [zb1, zb2, zb3, zb4, zb5, zb6, zb7, zb8] at c15
  ·
    have hlt : k < xs.length := by omega
    have hx := at0_nat hlt
    refine wp_skip ?_
    refine hK8 _ _ ?_
    refine wp_seq_k fun K10 hK10 => ?_
    refine wp_block ?_
    refine ws fun K11 hK11 => ?_
    refine wl_mvs (A := [_, _]) hF rfl ?_; clear hF a; intro a hF
    obtain ⟨g20, o20, m20, q20, cs20, hv20, hm20, hl20, hk20, hz20, hc20⟩ := Rd.at (ha) (a := a) (X := .tmp 19) (hF.ev rfl) (by omega) (by omega)
    have hkk20 := hk20; obtain ⟨v20_0, v20_1, v20_2, v20_3, v20_4, rfl, r20_0, r20_1, r20_2, r20_3, r20_4⟩ := hk20
    refine wl hF rfl rfl rfl (r_index sl25 ((hF.ev rfl).trans hv20) (hF.ev rfl) (by omega) (by first | omega | (simp at hm20; omega))) ?_; clear hF a; intro a hF
    refine wl hF rfl rfl rfl (r_loadn ag71 (hF.ev rfl) (fun j_ u_ hu_ => cellB hS.old (hc20 j_ u_ hu_)) sz71) ?_; clear hF a; intro a hF
    refine wl_mvs (A := [_]) hF rfl ?_; clear hF a; intro a hF
    refine wl_call hF rfl rfl rfl (r_call2 en38 (hF.ev rfl) (hF.ev rfl)) (szThread_c (hS.k hkk20) (by omega) (by omega)) ?_; clear hF a; rintro v w2 a ⟨⟨r23, rfl, e1_23, e2_23, e3_23⟩, hB_⟩ hF; replace hS := hS.ext hB_; clear hB_
    refine wl_mvs (A := [_]) hF rfl ?_; clear hF a; intro a hF
    refine wl_nil (hK11 _ _ ?_)
    refine ws fun K12 hK12 => ?_
    refine wl_mvs (A := [_]) hF rfl ?_; clear hF a; intro a hF
    refine wl hF rfl rfl rfl (r_lss (hF.ev rfl) ec) ?_; clear hF a; intro a hF
    refine wl_nil (hK12 _ _ ?_)
    refine wc_fx (t := 25) hF rfl ?_ ?_ <;> clear hF <;> intro c25 hF <;> try simp only [zb1, zb2, zb3, zb4, zb5, zb6, zb7, zb8] at c25
    ·
      refine ws fun K13 hK13 => ?_
      refine wl_mvs (A := [_]) hF rfl ?_; clear hF a; intro a hF
      refine wl_nil (hK13 _ _ ?_)
      refine wp_ret ?_
      try simp only [Exit.then, Exit.inBlock, ↓reduceIte]
      first | exact ret1 rfl hF rfl ⟨⟨-1, rfl, by omega, by omega, by omega⟩, hS.old⟩ | (obtain rfl : k = xs.length := (by omega); rw [List.take_length] at hr2; exact ret1 rfl hF rfl ⟨⟨_, rfl, by omega, by omega, fun _ => hr2⟩, hS.old⟩)
    refine wp_skip ?_
    simp only [Exit.then, Exit.inBlock, ↓reduceIte]
    refine hK10 _ _ ?_
    refine wp_region_lit ?_
    refine wl_mvs (A := [_]) hF rfl ?_; clear hF a; intro a hF
    refine wl hF rfl rfl rfl (r_add (hF.ev rfl) ec) ?_; clear hF a; intro a hF
    refine wl_mvs (A := [_]) hF rfl ?_; clear hF a; intro a hF
    refine wl_nil ?_
    try simp only [Exit.then, Exit.inBlock, ↓reduceIte]
    have e4 := e3_23 (by omega)
    have hr2 : (xs.length + crow (Sl.Thread.size) (xs.take k) : Int) ≤ left - r := hr2
    refine ⟨(k + 1, r23), ⟨by dsimp only; omega, by dsimp only; omega, by dsimp only; omega, by dsimp only; rw [crow_next hx]; omega⟩, hS, ((((hF.nil.keep hF (t := 4) rfl).keep hF (t := 0) rfl).keepE hF (t := 1) rfl rfl).keepE hF (t := 5) rfl (wk (by omega))), by dsimp only; omega⟩
  refine wp_exit ?_
  simp only [Exit.then, Exit.inBlock, ↓reduceIte]
  refine hK6 _ _ ?_
  refine ws fun K14 hK14 => ?_
  refine wl_mvs (A := [_, _]) hF rfl ?_; clear hF a; intro a hF
  refine wl_nil (hK14 _ _ ?_)
  refine wp_ret ?_
  try simp only [Exit.then, Exit.inBlock, ↓reduceIte]
  first | exact ret1 rfl hF rfl ⟨⟨-1, rfl, by omega, by omega, by omega⟩, hS.old⟩ | (obtain rfl : k = xs.length := (by omega); rw [List.take_length] at hr2; exact ret1 rfl hF rfl ⟨⟨_, rfl, by omega, by omega, fun _ => hr2⟩, hS.old⟩)
set_option maxHeartbeats 4000000 in
set_option maxRecDepth 20000 in
theorem toThreadS_c {W : World} {va : Value} {xs : List Sl.Thread} (ha : threadEK.Rd W va xs) (hz : xs.length + crow (Sl.Thread.size) xs ≤ 1048576) : Calls Try.prog 24 #[va] W (Ret (Mk W (fun s : Slv => sv s) (fun s => [Own (threadEK) (sv s) xs]))) := by
  refine calls_fr Try.func24 rfl Try.ntmps24 rfl ?_
  intro a hF
  obtain ⟨A_a, q_a, rfl, hq_a, hn_a⟩ := ha.sl; unfold maxLen at hn_a
  have hS := Sep.refl W
  refine ws fun K1 hK1 => ?_
  refine wl_mvs (A := [_]) hF rfl ?_; clear hF a; intro a hF
  refine wl_nil (hK1 _ _ ?_)
  refine ws fun K2 hK2 => ?_
  refine wl_mvs (A := [_]) hF rfl ?_; clear hF a; intro a hF
  refine wl hF rfl rfl rfl (r_len ul25 (hF.ev rfl)) ?_; clear hF a; intro a hF
  refine wl_make threadEK (default : Sl.Thread) [] hF hS rfl mk32 rfl thread_inner0 (hF.ev rfl) (by omega) (by unfold maxLen; omega) ?_; clear hF a; intro gm_7 w1 a hS_ hF; replace hS := hS_; clear hS_
  refine wl_mvs (A := [_]) hF rfl ?_; clear hF a; intro a hF
  refine wl_nil (hK2 _ _ ?_)
  refine wp_seq_k fun K3 hK3 => ?_
  refine ws fun K4 hK4 => ?_
  refine wl_mvs (A := [_]) hF rfl ?_; clear hF a; intro a hF
  refine wl_nil (hK4 _ _ ?_)
  refine wp_block ?_
  rw [show List.replicate xs.length ((default : Sl.Thread)) = xs.take 0 ++ List.replicate (xs.length - 0) ((default : Sl.Thread)) from by simp] at hS
  replace hS := hS.pull (p := 0) rfl; dsimp only [List.eraseIdx] at hS
  have hL_ := (((hF.nil.keep hF (t := 3) rfl).keep hF (t := 2) rfl).keep hF (t := 0) rfl)
  refine wp_loop_m (σ := Nat) (fun k L_ => (4, vi k) :: L_) (fun k l_ => (Own threadEK (.slice (some ⟨gm_7, 0, none⟩) xs.length xs.length) (xs.take k ++ List.replicate (xs.length - k) ((default : Sl.Thread)))) :: l_) (fun k => (k ≤ xs.length)) (fun k => xs.length - k) 0 (hS) (hL_.keepE hF (t := 4) rfl rfl) ?_ ?_
  · exact Nat.zero_le _
  clear hF hS hL_ a
  rintro k a w2 hk hS hF; try dsimp only at hF; try dsimp only at hS
  refine wp_seq_k fun K5 hK5 => ?_
  refine ws fun K6 hK6 => ?_
  refine wl_mvs (A := [_, _]) hF rfl ?_; clear hF a; intro a hF
  refine wl hF rfl rfl rfl (r_len ul25 (hF.ev rfl)) ?_; clear hF a; intro a hF
  refine wl hF rfl rfl rfl (r_lss (hF.ev rfl) (hF.ev rfl)) ?_; clear hF a; intro a hF
  refine wl_nil (hK6 _ _ ?_)
  refine wc_fx (t := 11) hF rfl ?_ ?_ <;> clear hF <;> intro c11 hF <;> try simp only [zb1, zb2, zb3, zb4, zb5, zb6, zb7, zb8] at c11
  ·
    have hlt : k < xs.length := by omega
    have hx := at0_nat hlt
    have hc1 := crow_le1 (c := Sl.Thread.size) hx
    refine wp_skip ?_
    refine hK5 _ _ ?_
    refine wp_seq_k fun K7 hK7 => ?_
    refine wp_block ?_
    refine wp_region_lit ?_
    refine wl_mvs (A := [_, _, _, _]) hF rfl ?_; clear hF a; intro a hF
    obtain ⟨g18, o18, m18, q18, cs18, hv18, hm18, hl18, hk18, hz18, hc18⟩ := Rd.at (ha) (a := a) (X := .tmp 17) (hF.ev rfl) (by omega) (by omega)
    have hkk18 := hk18; obtain ⟨v18_0, v18_1, v18_2, v18_3, v18_4, rfl, r18_0, r18_1, r18_2, r18_3, r18_4⟩ := hk18
    refine wl hF rfl rfl rfl (r_index sl25 ((hF.ev rfl).trans hv18) (hF.ev rfl) (by omega) (by first | omega | (simp at hm18; omega))) ?_; clear hF a; intro a hF
    refine wl hF rfl rfl rfl (r_loadn ag71 (hF.ev rfl) (fun j_ u_ hu_ => cellB hS.old (hc18 j_ u_ hu_)) sz71) ?_; clear hF a; intro a hF
    refine wl_mk hF hS rfl rfl rfl (r_call1 en48 (hF.ev rfl)) (toThread_c (hS.k hkk18) (by omega)) ?_; clear hF a; rintro vs20 w3 a hS_ hF; replace hS := hS_; clear hS_; dsimp only [List.cons_append, List.nil_append] at hS
    obtain ⟨g21, o21, m21, q21, cs21, hv21, hm21, hl21, hk21, hz21, hc21⟩ := Rd.at ((hS.own_rd (i := 1) rfl)) (a := a) (X := .tmp 15) (hF.ev rfl) (by omega) (by simp; omega)
    have hkk21 := hk21; obtain ⟨v21_0, v21_1, v21_2, v21_3, v21_4, rfl, r21_0, r21_1, r21_2, r21_3, r21_4⟩ := hk21
    refine wl hF rfl rfl rfl (r_index sl32 ((hF.ev rfl).trans hv21) (hF.ev rfl) (by omega) (by first | omega | (simp at hm21; omega))) ?_; clear hF a; intro a hF
    replace hS := hS.pull (p := 0) rfl; dsimp only [List.eraseIdx] at hS
    refine wl_oput (q := 0) hF hS rfl hv21 (at0_get (by omega) (by first | omega | (simp; omega))) sz55 (hF.ev rfl) rfl (hF.ev rfl) rfl ?_; intro w4 hS_; replace hS := hS_; clear hS_; dsimp only [List.set] at hS
    refine wl_nil ?_
    simp only [Exit.then, Exit.inBlock, ↓reduceIte]
    refine hK7 _ _ ?_
    refine wp_region_lit ?_
    refine wl_mvs (A := [_]) hF rfl ?_; clear hF a; intro a hF
    refine wl hF rfl rfl rfl (r_add (hF.ev rfl) ec) ?_; clear hF a; intro a hF
    refine wl_mvs (A := [_]) hF rfl ?_; clear hF a; intro a hF
    refine wl_nil ?_
    try simp only [Exit.then, Exit.inBlock, ↓reduceIte]
    rw [Int.toNat_natCast, fill_set hx] at hS
    refine ⟨k + 1, (by omega), hS, ((((hF.nil.keep hF (t := 3) rfl).keep hF (t := 2) rfl).keep hF (t := 0) rfl).keepE hF (t := 4) rfl (wk (by omega))), by omega⟩
  refine wp_exit ?_
  simp only [Exit.then, Exit.inBlock, ↓reduceIte]
  refine hK3 _ _ ?_
  refine ws fun K8 hK8 => ?_
  refine wl_mvs (A := [_, _]) hF rfl ?_; clear hF a; intro a hF
  refine wl_nil (hK8 _ _ ?_)
  refine wp_ret ?_
  try simp only [Exit.then, Exit.inBlock, ↓reduceIte]
  obtain rfl : k = xs.length := by omega
  refine ret1 rfl hF rfl ?_
  rw [Nat.sub_self, List.replicate_zero, List.append_nil, List.take_length] at hS; exact Sep.mkS (hS.pick [0] (by decide) rfl) rfl
set_option maxHeartbeats 4000000 in
set_option maxRecDepth 20000 in
theorem eqThreadS_c {W : World} {va vb : Value} {xs ys : List Sl.Thread} (ha : threadEK.Rd W va xs) (hb : threadEK.Rd W vb ys) : Calls Try.prog 33 #[va, vb] W (Ret fun v w' => v = .bool (decide (xs = ys)) ∧ Below W.heap.size W w') := by
  refine calls_fr Try.func33 rfl Try.ntmps33 rfl ?_
  intro a hF
  obtain ⟨A_a, q_a, rfl, hq_a, hn_a⟩ := ha.sl; unfold maxLen at hn_a
  obtain ⟨A_b, q_b, rfl, hq_b, hn_b⟩ := hb.sl; unfold maxLen at hn_b
  have hS := Sep.refl W
  refine ws fun K1 hK1 => ?_
  refine wl_mvs (A := [_]) hF rfl ?_; clear hF a; intro a hF
  refine wl_nil (hK1 _ _ ?_)
  refine wp_seq_k fun K2 hK2 => ?_
  refine ws fun K3 hK3 => ?_
  refine wl_mvs (A := [_]) hF rfl ?_; clear hF a; intro a hF
  refine wl hF rfl rfl rfl (r_len ul32 (hF.ev rfl)) ?_; clear hF a; intro a hF
  refine wl_mvs (A := [_]) hF rfl ?_; clear hF a; intro a hF
  refine wl hF rfl rfl rfl (r_len ul32 (hF.ev rfl)) ?_; clear hF a; intro a hF
  refine wl hF rfl rfl rfl (r_neq (hF.ev rfl) (hF.ev rfl)) ?_; clear hF a; intro a hF
  refine wl_nil (hK3 _ _ ?_)
  refine wc_fx (t := 10) hF rfl ?_ ?_ <;> clear hF <;> intro c10 hF <;> try simp only [zb1, zb2, zb3, zb4, zb5, zb6, zb7, zb8] at c10
  ·
    refine ws fun K4 hK4 => ?_
    refine wl_mvs (A := [_]) hF rfl ?_; clear hF a; intro a hF
    refine wl_nil (hK4 _ _ ?_)
    refine wp_ret ?_
    try simp only [Exit.then, Exit.inBlock, ↓reduceIte]
    refine ret1 rfl hF rfl ⟨?_, hS.old⟩
    first | exact eq_len c10 | exact eq_at hx hy c26 | exact eq_all htk hk hlen (by omega)
  refine wp_skip ?_
  refine hK2 _ _ ?_
  refine wp_seq_k fun K5 hK5 => ?_
  refine ws fun K6 hK6 => ?_
  refine wl_mvs (A := [_]) hF rfl ?_; clear hF a; intro a hF
  refine wl_nil (hK6 _ _ ?_)
  refine wp_block ?_
  have hL_ := (((hF.nil.keep hF (t := 4) rfl).keep hF (t := 1) rfl).keep hF (t := 0) rfl)
  refine wp_loop_r (σ := Nat) (fun k L_ => (5, vi k) :: L_) (fun k => (k ≤ xs.length) ∧ (xs.length = ys.length) ∧ (xs.take k = ys.take k)) (fun k => xs.length - k) 0 hS (hL_.keepE hF (t := 5) rfl rfl) ?_ ?_
  · exact ⟨Nat.zero_le _, by omega, rfl⟩
  clear hF hS hL_ a
  rintro k a w1 ⟨hk, hlen, htk⟩ hS hF; try dsimp only at hF; try dsimp only at hS
  refine wp_seq_k fun K7 hK7 => ?_
  refine ws fun K8 hK8 => ?_
  refine wl_mvs (A := [_, _]) hF rfl ?_; clear hF a; intro a hF
  refine wl hF rfl rfl rfl (r_len ul32 (hF.ev rfl)) ?_; clear hF a; intro a hF
  refine wl hF rfl rfl rfl (r_lss (hF.ev rfl) (hF.ev rfl)) ?_; clear hF a; intro a hF
  refine wl_nil (hK8 _ _ ?_)
  refine wc_fx (t := 14) hF rfl ?_ ?_ <;> clear hF <;> intro c14 hF <;> try simp only [zb1, zb2, zb3, zb4, zb5, zb6, zb7, zb8] at c14
  ·
    have hlt : k < xs.length := by omega
    have hx := at0_nat hlt
    have hy := at0_nat (xs := ys) (k := k) (by omega)
    refine wp_skip ?_
    refine hK7 _ _ ?_
    refine wp_seq_k fun K9 hK9 => ?_
    refine wp_block ?_
    refine wp_seq_k fun K10 hK10 => ?_
    refine wp_region_calm (by kernel_rfl) (by kernel_rfl) ?_
    refine wq_mvs (A := [_, _]) hF rfl ?_; clear hF a; intro a hF
    obtain ⟨g19, o19, m19, q19, cs19, hv19, hm19, hl19, hk19, hz19, hc19⟩ := Rd.at (ha) (a := a) (X := .tmp 18) (hF.ev rfl) (by omega) (by omega)
    have hkk19 := hk19; obtain ⟨v19_0, v19_1, v19_2, v19_3, v19_4, rfl, r19_0, r19_1, r19_2, r19_3, r19_4⟩ := hk19
    refine wq hF rfl rfl rfl (fun w_ hB_ => r_index sl32 ((hF.ev rfl).trans hv19) (hF.ev rfl) (by omega) (by first | omega | (simp at hm19; omega))) ?_; clear hF a; intro a hF
    refine wq hF rfl rfl rfl (fun w_ hB_ => r_loadn ag55 (hF.ev rfl) (fun j_ u_ hu_ => cellB (hS.ext hB_).old (hc19 j_ u_ hu_)) sz55) ?_; clear hF a; intro a hF
    refine wq_mvs (A := [_, _]) hF rfl ?_; clear hF a; intro a hF
    obtain ⟨g23, o23, m23, q23, cs23, hv23, hm23, hl23, hk23, hz23, hc23⟩ := Rd.at (hb) (a := a) (X := .tmp 22) (hF.ev rfl) (by omega) (by omega)
    have hkk23 := hk23; obtain ⟨v23_0, v23_1, v23_2, v23_3, v23_4, rfl, r23_0, r23_1, r23_2, r23_3, r23_4⟩ := hk23
    refine wq hF rfl rfl rfl (fun w_ hB_ => r_index sl32 ((hF.ev rfl).trans hv23) (hF.ev rfl) (by omega) (by first | omega | (simp at hm23; omega))) ?_; clear hF a; intro a hF
    refine wq hF rfl rfl rfl (fun w_ hB_ => r_loadn ag55 (hF.ev rfl) (fun j_ u_ hu_ => cellB (hS.ext hB_).old (hc23 j_ u_ hu_)) sz55) ?_; clear hF a; intro a hF
    refine wq_call hF rfl rfl rfl (fun w_ hB_ => r_call2 en53 (hF.ev rfl) (hF.ev rfl)) (fun w_ hB_ => eqThread_c ((hS.ext hB_).k hkk19) ((hS.ext hB_).k hkk23)) ?_; clear hF a; intro a hF
    refine wq hF rfl rfl rfl (fun w_ hB_ => r_not (hF.ev rfl)) ?_; clear hF a; intro a hF
    refine wpQuiet_nil ?_; intro w2 hB_; replace hS := hS.ext hB_; clear hB_
    refine hK10 _ _ ?_
    refine wc_fx (t := 26) hF rfl ?_ ?_ <;> clear hF <;> intro c26 hF <;> try simp only [zb1, zb2, zb3, zb4, zb5, zb6, zb7, zb8] at c26
    ·
      refine ws fun K11 hK11 => ?_
      refine wl_mvs (A := [_]) hF rfl ?_; clear hF a; intro a hF
      refine wl_nil (hK11 _ _ ?_)
      refine wp_ret ?_
      try simp only [Exit.then, Exit.inBlock, ↓reduceIte]
      refine ret1 rfl hF rfl ⟨?_, hS.old⟩
      first | exact eq_len c10 | exact eq_at hx hy c26 | exact eq_all htk hk hlen (by omega)
    refine wp_skip ?_
    simp only [Exit.then, Exit.inBlock, ↓reduceIte]
    refine hK9 _ _ ?_
    refine wp_region_lit ?_
    refine wl_mvs (A := [_]) hF rfl ?_; clear hF a; intro a hF
    refine wl hF rfl rfl rfl (r_add (hF.ev rfl) ec) ?_; clear hF a; intro a hF
    refine wl_mvs (A := [_]) hF rfl ?_; clear hF a; intro a hF
    refine wl_nil ?_
    try simp only [Exit.then, Exit.inBlock, ↓reduceIte]
    refine ⟨k + 1, ⟨by omega, hlen, take_next htk hx hy c26⟩, hS, ((((hF.nil.keep hF (t := 4) rfl).keep hF (t := 1) rfl).keep hF (t := 0) rfl).keepE hF (t := 5) rfl (wk (by omega))), by omega⟩
  refine wp_exit ?_
  simp only [Exit.then, Exit.inBlock, ↓reduceIte]
  refine hK5 _ _ ?_
  refine ws fun K12 hK12 => ?_
  refine wl_mvs (A := [_]) hF rfl ?_; clear hF a; intro a hF
  refine wl_nil (hK12 _ _ ?_)
  refine wp_ret ?_
  try simp only [Exit.then, Exit.inBlock, ↓reduceIte]
  refine ret1 rfl hF rfl ⟨?_, hS.old⟩
  first | exact eq_len c10 | exact eq_at hx hy c26 | exact eq_all htk hk hlen (by omega)
set_option maxHeartbeats 4000000 in
set_option maxRecDepth 20000 in
theorem eqConfig_c {W : World} {x y : Config} : Calls Try.prog 31 #[.agg (x.enc).toArray, .agg (y.enc).toArray] W (Ret fun v w' => v = .bool (decide (x = y)) ∧ Below W.heap.size W w') := by
  refine calls_fr Try.func31 rfl Try.ntmps31 rfl ?_
  intro a hF
  have hS := Sep.refl W
  refine ws fun K1 hK1 => ?_
  refine wl_box (cs := [_, _, _, _, _, _]) hF hS rfl (hF.ev rfl) rfl ?_; clear hF a; intro g1 w1 a hS_ hB_ hF; replace hS := hS_; clear hS_ hB_
  refine wl_box (cs := [_, _, _, _, _, _]) hF hS rfl (hF.ev rfl) rfl ?_; clear hF a; intro g2 w2 a hS_ hB_ hF; replace hS := hS_; clear hS_ hB_
  refine wl_mvs (A := [_]) hF rfl ?_; clear hF a; intro a hF
  refine wl_nil (hK1 _ _ ?_)
  refine wp_seq_k fun K2 hK2 => ?_
  refine ws fun K3 hK3 => ?_
  refine wl hF rfl rfl rfl (r_field fo31_0 (hF.ev rfl)) ?_; clear hF a; intro a hF
  refine wl hF rfl rfl rfl (r_load1 sc3 (hF.ev rfl) (hS.box (i := 1) rfl rfl)) ?_; clear hF a; intro a hF
  refine wl hF rfl rfl rfl (r_field fo31_0 (hF.ev rfl)) ?_; clear hF a; intro a hF
  refine wl hF rfl rfl rfl (r_load1 sc3 (hF.ev rfl) (hS.box (i := 0) rfl rfl)) ?_; clear hF a; intro a hF
  refine wl hF rfl rfl rfl (r_neq (hF.ev rfl) (hF.ev rfl)) ?_; clear hF a; intro a hF
  refine wl_nil (hK3 _ _ ?_)
  first | refine wc_dec (hF.ev rfl) (fun c9 => ?_) (fun c9 => ?_) | refine wc_ndec (hF.ev rfl) (fun c9 => ?_) (fun c9 => ?_) | refine wc_b (hF.ev rfl) (fun c9 => ?_) (fun c9 => ?_)
  ·
    refine ws fun K4 hK4 => ?_
    refine wl_mvs (A := [_]) hF rfl ?_; clear hF a; intro a hF
    refine wl_nil (hK4 _ _ ?_)
    refine wp_ret ?_
    try simp only [Exit.then, Exit.inBlock, ↓reduceIte]
    refine ret1 rfl hF rfl ⟨congrArg Value.bool (Eq.symm ?_), hS.old⟩
    first | exact decide_eq_false (fun e => by subst e; first | exact c9 rfl | exact c14 rfl | exact c19 rfl | exact c24 rfl | exact c29 rfl | exact c34 rfl) | exact decide_eq_true (by cases x; cases y; simp only [Config.mk.injEq]; exact ⟨c9, c14, c19, c24, c29, c34⟩)
  refine wp_skip ?_
  refine hK2 _ _ ?_
  refine wp_seq_k fun K5 hK5 => ?_
  refine ws fun K6 hK6 => ?_
  refine wl hF rfl rfl rfl (r_field fo31_1 (hF.ev rfl)) ?_; clear hF a; intro a hF
  refine wl hF rfl rfl rfl (r_load1 sc3 (hF.ev rfl) (hS.box (i := 1) rfl rfl)) ?_; clear hF a; intro a hF
  refine wl hF rfl rfl rfl (r_field fo31_1 (hF.ev rfl)) ?_; clear hF a; intro a hF
  refine wl hF rfl rfl rfl (r_load1 sc3 (hF.ev rfl) (hS.box (i := 0) rfl rfl)) ?_; clear hF a; intro a hF
  refine wl hF rfl rfl rfl (r_neq (hF.ev rfl) (hF.ev rfl)) ?_; clear hF a; intro a hF
  refine wl_nil (hK6 _ _ ?_)
  first | refine wc_dec (hF.ev rfl) (fun c14 => ?_) (fun c14 => ?_) | refine wc_ndec (hF.ev rfl) (fun c14 => ?_) (fun c14 => ?_) | refine wc_b (hF.ev rfl) (fun c14 => ?_) (fun c14 => ?_)
  ·
    refine ws fun K7 hK7 => ?_
    refine wl_mvs (A := [_]) hF rfl ?_; clear hF a; intro a hF
    refine wl_nil (hK7 _ _ ?_)
    refine wp_ret ?_
    try simp only [Exit.then, Exit.inBlock, ↓reduceIte]
    refine ret1 rfl hF rfl ⟨congrArg Value.bool (Eq.symm ?_), hS.old⟩
    first | exact decide_eq_false (fun e => by subst e; first | exact c9 rfl | exact c14 rfl | exact c19 rfl | exact c24 rfl | exact c29 rfl | exact c34 rfl) | exact decide_eq_true (by cases x; cases y; simp only [Config.mk.injEq]; exact ⟨c9, c14, c19, c24, c29, c34⟩)
  refine wp_skip ?_
  refine hK5 _ _ ?_
  refine wp_seq_k fun K8 hK8 => ?_
  refine ws fun K9 hK9 => ?_
  refine wl hF rfl rfl rfl (r_field fo31_2 (hF.ev rfl)) ?_; clear hF a; intro a hF
  refine wl hF rfl rfl rfl (r_load1 sc3 (hF.ev rfl) (hS.box (i := 1) rfl rfl)) ?_; clear hF a; intro a hF
  refine wl hF rfl rfl rfl (r_field fo31_2 (hF.ev rfl)) ?_; clear hF a; intro a hF
  refine wl hF rfl rfl rfl (r_load1 sc3 (hF.ev rfl) (hS.box (i := 0) rfl rfl)) ?_; clear hF a; intro a hF
  refine wl hF rfl rfl rfl (r_neq (hF.ev rfl) (hF.ev rfl)) ?_; clear hF a; intro a hF
  refine wl_nil (hK9 _ _ ?_)
  first | refine wc_dec (hF.ev rfl) (fun c19 => ?_) (fun c19 => ?_) | refine wc_ndec (hF.ev rfl) (fun c19 => ?_) (fun c19 => ?_) | refine wc_b (hF.ev rfl) (fun c19 => ?_) (fun c19 => ?_)
  ·
    refine ws fun K10 hK10 => ?_
    refine wl_mvs (A := [_]) hF rfl ?_; clear hF a; intro a hF
    refine wl_nil (hK10 _ _ ?_)
    refine wp_ret ?_
    try simp only [Exit.then, Exit.inBlock, ↓reduceIte]
    refine ret1 rfl hF rfl ⟨congrArg Value.bool (Eq.symm ?_), hS.old⟩
    first | exact decide_eq_false (fun e => by subst e; first | exact c9 rfl | exact c14 rfl | exact c19 rfl | exact c24 rfl | exact c29 rfl | exact c34 rfl) | exact decide_eq_true (by cases x; cases y; simp only [Config.mk.injEq]; exact ⟨c9, c14, c19, c24, c29, c34⟩)
  refine wp_skip ?_
  refine hK8 _ _ ?_
  refine wp_seq_k fun K11 hK11 => ?_
  refine ws fun K12 hK12 => ?_
  refine wl hF rfl rfl rfl (r_field fo31_3 (hF.ev rfl)) ?_; clear hF a; intro a hF
  refine wl hF rfl rfl rfl (r_load1 sc3 (hF.ev rfl) (hS.box (i := 1) rfl rfl)) ?_; clear hF a; intro a hF
  refine wl hF rfl rfl rfl (r_field fo31_3 (hF.ev rfl)) ?_; clear hF a; intro a hF
  refine wl hF rfl rfl rfl (r_load1 sc3 (hF.ev rfl) (hS.box (i := 0) rfl rfl)) ?_; clear hF a; intro a hF
  refine wl hF rfl rfl rfl (r_neq (hF.ev rfl) (hF.ev rfl)) ?_; clear hF a; intro a hF
  refine wl_nil (hK12 _ _ ?_)
  first | refine wc_dec (hF.ev rfl) (fun c24 => ?_) (fun c24 => ?_) | refine wc_ndec (hF.ev rfl) (fun c24 => ?_) (fun c24 => ?_) | refine wc_b (hF.ev rfl) (fun c24 => ?_) (fun c24 => ?_)
  ·
    refine ws fun K13 hK13 => ?_
    refine wl_mvs (A := [_]) hF rfl ?_; clear hF a; intro a hF
    refine wl_nil (hK13 _ _ ?_)
    refine wp_ret ?_
    try simp only [Exit.then, Exit.inBlock, ↓reduceIte]
    refine ret1 rfl hF rfl ⟨congrArg Value.bool (Eq.symm ?_), hS.old⟩
    first | exact decide_eq_false (fun e => by subst e; first | exact c9 rfl | exact c14 rfl | exact c19 rfl | exact c24 rfl | exact c29 rfl | exact c34 rfl) | exact decide_eq_true (by cases x; cases y; simp only [Config.mk.injEq]; exact ⟨c9, c14, c19, c24, c29, c34⟩)
  refine wp_skip ?_
  refine hK11 _ _ ?_
  refine wp_seq_k fun K14 hK14 => ?_
  refine ws fun K15 hK15 => ?_
  refine wl hF rfl rfl rfl (r_field fo31_4 (hF.ev rfl)) ?_; clear hF a; intro a hF
  refine wl hF rfl rfl rfl (r_load1 sc3 (hF.ev rfl) (hS.box (i := 1) rfl rfl)) ?_; clear hF a; intro a hF
  refine wl hF rfl rfl rfl (r_field fo31_4 (hF.ev rfl)) ?_; clear hF a; intro a hF
  refine wl hF rfl rfl rfl (r_load1 sc3 (hF.ev rfl) (hS.box (i := 0) rfl rfl)) ?_; clear hF a; intro a hF
  refine wl hF rfl rfl rfl (r_neq (hF.ev rfl) (hF.ev rfl)) ?_; clear hF a; intro a hF
  refine wl_nil (hK15 _ _ ?_)
  first | refine wc_dec (hF.ev rfl) (fun c29 => ?_) (fun c29 => ?_) | refine wc_ndec (hF.ev rfl) (fun c29 => ?_) (fun c29 => ?_) | refine wc_b (hF.ev rfl) (fun c29 => ?_) (fun c29 => ?_)
  ·
    refine ws fun K16 hK16 => ?_
    refine wl_mvs (A := [_]) hF rfl ?_; clear hF a; intro a hF
    refine wl_nil (hK16 _ _ ?_)
    refine wp_ret ?_
    try simp only [Exit.then, Exit.inBlock, ↓reduceIte]
    refine ret1 rfl hF rfl ⟨congrArg Value.bool (Eq.symm ?_), hS.old⟩
    first | exact decide_eq_false (fun e => by subst e; first | exact c9 rfl | exact c14 rfl | exact c19 rfl | exact c24 rfl | exact c29 rfl | exact c34 rfl) | exact decide_eq_true (by cases x; cases y; simp only [Config.mk.injEq]; exact ⟨c9, c14, c19, c24, c29, c34⟩)
  refine wp_skip ?_
  refine hK14 _ _ ?_
  refine wp_seq_k fun K17 hK17 => ?_
  refine ws fun K18 hK18 => ?_
  refine wl hF rfl rfl rfl (r_field fo31_5 (hF.ev rfl)) ?_; clear hF a; intro a hF
  refine wl hF rfl rfl rfl (r_load1 sc3 (hF.ev rfl) (hS.box (i := 1) rfl rfl)) ?_; clear hF a; intro a hF
  refine wl hF rfl rfl rfl (r_field fo31_5 (hF.ev rfl)) ?_; clear hF a; intro a hF
  refine wl hF rfl rfl rfl (r_load1 sc3 (hF.ev rfl) (hS.box (i := 0) rfl rfl)) ?_; clear hF a; intro a hF
  refine wl hF rfl rfl rfl (r_neq (hF.ev rfl) (hF.ev rfl)) ?_; clear hF a; intro a hF
  refine wl_nil (hK18 _ _ ?_)
  first | refine wc_dec (hF.ev rfl) (fun c34 => ?_) (fun c34 => ?_) | refine wc_ndec (hF.ev rfl) (fun c34 => ?_) (fun c34 => ?_) | refine wc_b (hF.ev rfl) (fun c34 => ?_) (fun c34 => ?_)
  ·
    refine ws fun K19 hK19 => ?_
    refine wl_mvs (A := [_]) hF rfl ?_; clear hF a; intro a hF
    refine wl_nil (hK19 _ _ ?_)
    refine wp_ret ?_
    try simp only [Exit.then, Exit.inBlock, ↓reduceIte]
    refine ret1 rfl hF rfl ⟨congrArg Value.bool (Eq.symm ?_), hS.old⟩
    first | exact decide_eq_false (fun e => by subst e; first | exact c9 rfl | exact c14 rfl | exact c19 rfl | exact c24 rfl | exact c29 rfl | exact c34 rfl) | exact decide_eq_true (by cases x; cases y; simp only [Config.mk.injEq]; exact ⟨c9, c14, c19, c24, c29, c34⟩)
  refine wp_skip ?_
  refine hK17 _ _ ?_
  refine ws fun K20 hK20 => ?_
  refine wl_mvs (A := [_]) hF rfl ?_; clear hF a; intro a hF
  refine wl_nil (hK20 _ _ ?_)
  refine wp_ret ?_
  try simp only [Exit.then, Exit.inBlock, ↓reduceIte]
  refine ret1 rfl hF rfl ⟨congrArg Value.bool (Eq.symm ?_), hS.old⟩
  first | exact decide_eq_false (fun e => by subst e; first | exact c9 rfl | exact c14 rfl | exact c19 rfl | exact c24 rfl | exact c29 rfl | exact c34 rfl) | exact decide_eq_true (by cases x; cases y; simp only [Config.mk.injEq]; exact ⟨c9, c14, c19, c24, c29, c34⟩)
def _root_.Go.Proofs.Ytifhfodphoeeoaa.Sl.State.size (t : Sl.State) : Nat := t.cells.length + t.generations.length + (t.threads.length + crow Sl.Thread.size t.threads)
set_option maxHeartbeats 4000000 in
set_option maxRecDepth 20000 in
theorem szState_c {W : World} {t : Sl.State} {cs : List Value} {left : Int} (hm : stateEK.K W t cs) (h0 : 0 ≤ left) (h1 : left ≤ 1048576) : Calls Try.prog 4 #[.agg cs.toArray, vi left] W (Ret fun v w' => (∃ r : Int, v = vi r ∧ -1 ≤ r ∧ r ≤ left ∧ (0 ≤ r → (t.size : Int) ≤ left - r)) ∧ Below W.heap.size W w') := by
  refine calls_fr Try.func4 rfl Try.ntmps4 rfl ?_
  intro a hF
  obtain ⟨v0, v1, v2, rfl, r0, r1, r2⟩ := hm
  have hS := Sep.refl W
  refine ws fun K1 hK1 => ?_
  refine wl_box (cs := [_, _, _, _, _, _, _, _, _, _, _, _, _]) hF hS rfl (hF.ev rfl) rfl ?_; clear hF a; intro g1 w1 a hS_ hB_ hF; replace hS := hS_; clear hS_ hB_
  refine wl_mvs (A := [_]) hF rfl ?_; clear hF a; intro a hF
  refine wl_nil (hK1 _ _ ?_)
  refine ws fun K2 hK2 => ?_
  refine wl hF rfl rfl rfl (r_field fo27_1 (hF.ev rfl)) ?_; clear hF a; intro a hF
  refine wl hF rfl rfl rfl (r_load1 sc24 (hF.ev rfl) (hS.box (i := 0) rfl rfl)) ?_; clear hF a; intro a hF
  refine wl_mvs (A := [_]) hF rfl ?_; clear hF a; intro a hF
  refine wl_call hF rfl rfl rfl (r_call2 en12 (hF.ev rfl) (hF.ev rfl)) (szIntS_c (hS.rd r0) (by omega) (by omega)) ?_; clear hF a; rintro v w2 a ⟨⟨r8, rfl, e1_8, e2_8, e3_8⟩, hB_⟩ hF; replace hS := hS.ext hB_; clear hB_
  refine wl_mvs (A := [_]) hF rfl ?_; clear hF a; intro a hF
  refine wl_nil (hK2 _ _ ?_)
  refine wp_seq_k fun K3 hK3 => ?_
  refine ws fun K4 hK4 => ?_
  refine wl_mvs (A := [_]) hF rfl ?_; clear hF a; intro a hF
  refine wl hF rfl rfl rfl (r_lss (hF.ev rfl) ec) ?_; clear hF a; intro a hF
  refine wl_nil (hK4 _ _ ?_)
  first | refine wc_dec (hF.ev rfl) (fun c10 => ?_) (fun c10 => ?_) | refine wc_ndec (hF.ev rfl) (fun c10 => ?_) (fun c10 => ?_) | refine wc_b (hF.ev rfl) (fun c10 => ?_) (fun c10 => ?_)
  ·
    refine ws fun K5 hK5 => ?_
    refine wl_mvs (A := [_]) hF rfl ?_; clear hF a; intro a hF
    refine wl_nil (hK5 _ _ ?_)
    refine wp_ret ?_
    try simp only [Exit.then, Exit.inBlock, ↓reduceIte]
    first | exact ret1 rfl hF rfl ⟨⟨-1, rfl, by omega, by omega, by omega⟩, hS.old⟩ | exact ret1 rfl hF rfl ⟨⟨_, rfl, by omega, by omega, fun h => by unfold Sl.State.size; omega⟩, hS.old⟩
  refine wp_skip ?_
  refine hK3 _ _ ?_
  refine ws fun K6 hK6 => ?_
  refine wl hF rfl rfl rfl (r_field fo27_2 (hF.ev rfl)) ?_; clear hF a; intro a hF
  refine wl hF rfl rfl rfl (r_load1 sc24 (hF.ev rfl) (hS.box (i := 0) rfl rfl)) ?_; clear hF a; intro a hF
  refine wl_mvs (A := [_]) hF rfl ?_; clear hF a; intro a hF
  refine wl_call hF rfl rfl rfl (r_call2 en12 (hF.ev rfl) (hF.ev rfl)) (szIntS_c (hS.rd r1) (by omega) (by omega)) ?_; clear hF a; rintro v w3 a ⟨⟨r14, rfl, e1_14, e2_14, e3_14⟩, hB_⟩ hF; replace hS := hS.ext hB_; clear hB_
  refine wl_mvs (A := [_]) hF rfl ?_; clear hF a; intro a hF
  refine wl_nil (hK6 _ _ ?_)
  refine wp_seq_k fun K7 hK7 => ?_
  refine ws fun K8 hK8 => ?_
  refine wl_mvs (A := [_]) hF rfl ?_; clear hF a; intro a hF
  refine wl hF rfl rfl rfl (r_lss (hF.ev rfl) ec) ?_; clear hF a; intro a hF
  refine wl_nil (hK8 _ _ ?_)
  first | refine wc_dec (hF.ev rfl) (fun c16 => ?_) (fun c16 => ?_) | refine wc_ndec (hF.ev rfl) (fun c16 => ?_) (fun c16 => ?_) | refine wc_b (hF.ev rfl) (fun c16 => ?_) (fun c16 => ?_)
  ·
    refine ws fun K9 hK9 => ?_
    refine wl_mvs (A := [_]) hF rfl ?_; clear hF a; intro a hF
    refine wl_nil (hK9 _ _ ?_)
    refine wp_ret ?_
    try simp only [Exit.then, Exit.inBlock, ↓reduceIte]
    first | exact ret1 rfl hF rfl ⟨⟨-1, rfl, by omega, by omega, by omega⟩, hS.old⟩ | exact ret1 rfl hF rfl ⟨⟨_, rfl, by omega, by omega, fun h => by unfold Sl.State.size; omega⟩, hS.old⟩
  refine wp_skip ?_
  refine hK7 _ _ ?_
  refine ws fun K10 hK10 => ?_
  refine wl hF rfl rfl rfl (r_field fo27_3 (hF.ev rfl)) ?_; clear hF a; intro a hF
  refine wl hF rfl rfl rfl (r_load1 sc25 (hF.ev rfl) (hS.box (i := 0) rfl rfl)) ?_; clear hF a; intro a hF
  refine wl_mvs (A := [_]) hF rfl ?_; clear hF a; intro a hF
  refine wl_call hF rfl rfl rfl (r_call2 en13 (hF.ev rfl) (hF.ev rfl)) (szThreadS_c (hS.rd r2) (by omega) (by omega)) ?_; clear hF a; rintro v w4 a ⟨⟨r20, rfl, e1_20, e2_20, e3_20⟩, hB_⟩ hF; replace hS := hS.ext hB_; clear hB_
  refine wl_mvs (A := [_]) hF rfl ?_; clear hF a; intro a hF
  refine wl_nil (hK10 _ _ ?_)
  refine wp_seq_k fun K11 hK11 => ?_
  refine ws fun K12 hK12 => ?_
  refine wl_mvs (A := [_]) hF rfl ?_; clear hF a; intro a hF
  refine wl hF rfl rfl rfl (r_lss (hF.ev rfl) ec) ?_; clear hF a; intro a hF
  refine wl_nil (hK12 _ _ ?_)
  first | refine wc_dec (hF.ev rfl) (fun c22 => ?_) (fun c22 => ?_) | refine wc_ndec (hF.ev rfl) (fun c22 => ?_) (fun c22 => ?_) | refine wc_b (hF.ev rfl) (fun c22 => ?_) (fun c22 => ?_)
  ·
    refine ws fun K13 hK13 => ?_
    refine wl_mvs (A := [_]) hF rfl ?_; clear hF a; intro a hF
    refine wl_nil (hK13 _ _ ?_)
    refine wp_ret ?_
    try simp only [Exit.then, Exit.inBlock, ↓reduceIte]
    first | exact ret1 rfl hF rfl ⟨⟨-1, rfl, by omega, by omega, by omega⟩, hS.old⟩ | exact ret1 rfl hF rfl ⟨⟨_, rfl, by omega, by omega, fun h => by unfold Sl.State.size; omega⟩, hS.old⟩
  refine wp_skip ?_
  refine hK11 _ _ ?_
  refine ws fun K14 hK14 => ?_
  refine wl_mvs (A := [_, _]) hF rfl ?_; clear hF a; intro a hF
  refine wl_nil (hK14 _ _ ?_)
  refine wp_ret ?_
  try simp only [Exit.then, Exit.inBlock, ↓reduceIte]
  first | exact ret1 rfl hF rfl ⟨⟨-1, rfl, by omega, by omega, by omega⟩, hS.old⟩ | exact ret1 rfl hF rfl ⟨⟨_, rfl, by omega, by omega, fun h => by unfold Sl.State.size; omega⟩, hS.old⟩
set_option maxHeartbeats 4000000 in
set_option maxRecDepth 20000 in
theorem toState_c {W : World} {t : Sl.State} {cs : List Value} (hm : stateEK.K W t cs) (hz : t.size ≤ 1048576) : Calls Try.prog 6 #[.agg cs.toArray] W (Ret (Mk W (fun vs => .agg (stateEK.cells t vs).toArray) (fun vs => [Part stateEK t vs]))) := by
  refine calls_fr Try.func6 rfl Try.ntmps6 rfl ?_
  intro a hF
  obtain ⟨v0, v1, v2, rfl, r0, r1, r2⟩ := hm
  unfold Sl.State.size at hz
  have hS := Sep.refl W
  refine ws fun K1 hK1 => ?_
  refine wl_box (cs := [_, _, _, _, _, _, _, _, _, _, _, _, _]) hF hS rfl (hF.ev rfl) rfl ?_; clear hF a; intro g1 w1 a hS_ hB_ hF; replace hS := hS_; clear hS_ hB_
  refine wl_alloc hF hS rfl zr34 ?_; clear hF a; intro g2 w2 a hS_ hB_ hF; replace hS := hS_; clear hS_ hB_
  refine wl_nil (hK1 _ _ ?_)
  refine ws fun K2 hK2 => ?_
  refine wl_alloc hF hS rfl zr34 ?_; clear hF a; intro g3 w3 a hS_ hB_ hF; replace hS := hS_; clear hS_ hB_
  refine wl_nil (hK2 _ _ ?_)
  refine ws fun K3 hK3 => ?_
  refine wl hF rfl rfl rfl (r_field fo27_0 (hF.ev rfl)) ?_; clear hF a; intro a hF
  refine wl hF rfl rfl rfl (r_loadn ag23 (hF.ev rfl) (hS.boxn (vs := [_, _, _, _, _, _]) (i := 2) (m := 6) rfl rfl) sz23) ?_; clear hF a; intro a hF
  refine wl_call hF rfl rfl rfl (r_call1 en22 (hF.ev rfl)) (toConfig_c _) ?_; clear hF a; rintro v w4 a ⟨rfl, hB_⟩ hF; replace hS := hS.ext hB_; clear hB_
  refine wl hF rfl rfl rfl (r_field fo34_0 (hF.ev rfl)) ?_; clear hF a; intro a hF
  refine wl_storen (cs' := [_, _, _, _, _, _, _, _, _, _, _, _, _]) hF hS (i := 0) rfl (hF.ev rfl) (hF.ev rfl) sz31 ⟨rfl, rfl⟩ rfl rfl ?_; intro w5 hS_; replace hS := hS_; clear hS_; dsimp only [List.set] at hS
  refine wl_nil (hK3 _ _ ?_)
  refine ws fun K4 hK4 => ?_
  refine wl hF rfl rfl rfl (r_field fo27_1 (hF.ev rfl)) ?_; clear hF a; intro a hF
  refine wl hF rfl rfl rfl (r_load1 sc24 (hF.ev rfl) (hS.box (i := 2) rfl rfl)) ?_; clear hF a; intro a hF
  refine wl_mk hF hS rfl rfl rfl (r_call1 en23 (hF.ev rfl)) (toIntS_c (hS.rd r0) (by omega)) ?_; clear hF a; rintro s10 w6 a hS_ hF; replace hS := hS_; clear hS_; dsimp only [List.cons_append, List.nil_append] at hS
  refine wl hF rfl rfl rfl (r_field fo34_1 (hF.ev rfl)) ?_; clear hF a; intro a hF
  refine wl_store hF hS (i := 1) rfl sz24 (hF.ev rfl) (hF.ev rfl) rfl rfl ?_; intro w7 hS_; replace hS := hS_; clear hS_; dsimp only [List.set, Nat.reduceAdd] at hS
  refine wl_nil (hK4 _ _ ?_)
  refine ws fun K5 hK5 => ?_
  refine wl hF rfl rfl rfl (r_field fo27_2 (hF.ev rfl)) ?_; clear hF a; intro a hF
  refine wl hF rfl rfl rfl (r_load1 sc24 (hF.ev rfl) (hS.box (i := 3) rfl rfl)) ?_; clear hF a; intro a hF
  refine wl_mk hF hS rfl rfl rfl (r_call1 en23 (hF.ev rfl)) (toIntS_c (hS.rd r1) (by omega)) ?_; clear hF a; rintro s14 w8 a hS_ hF; replace hS := hS_; clear hS_; dsimp only [List.cons_append, List.nil_append] at hS
  refine wl hF rfl rfl rfl (r_field fo34_2 (hF.ev rfl)) ?_; clear hF a; intro a hF
  refine wl_store hF hS (i := 2) rfl sz24 (hF.ev rfl) (hF.ev rfl) rfl rfl ?_; intro w9 hS_; replace hS := hS_; clear hS_; dsimp only [List.set, Nat.reduceAdd] at hS
  refine wl_nil (hK5 _ _ ?_)
  refine ws fun K6 hK6 => ?_
  refine wl hF rfl rfl rfl (r_field fo27_3 (hF.ev rfl)) ?_; clear hF a; intro a hF
  refine wl hF rfl rfl rfl (r_load1 sc25 (hF.ev rfl) (hS.box (i := 4) rfl rfl)) ?_; clear hF a; intro a hF
  refine wl_mk hF hS rfl rfl rfl (r_call1 en24 (hF.ev rfl)) (toThreadS_c (hS.rd r2) (by omega)) ?_; clear hF a; rintro s18 w10 a hS_ hF; replace hS := hS_; clear hS_; dsimp only [List.cons_append, List.nil_append] at hS
  refine wl hF rfl rfl rfl (r_field fo34_3 (hF.ev rfl)) ?_; clear hF a; intro a hF
  refine wl_store hF hS (i := 3) rfl sz32 (hF.ev rfl) (hF.ev rfl) rfl rfl ?_; intro w11 hS_; replace hS := hS_; clear hS_; dsimp only [List.set, Nat.reduceAdd] at hS
  refine wl_nil (hK6 _ _ ?_)
  refine ws fun K7 hK7 => ?_
  refine wl hF rfl rfl rfl (r_field fo27_4 (hF.ev rfl)) ?_; clear hF a; intro a hF
  refine wl hF rfl rfl rfl (r_load1 sc3 (hF.ev rfl) (hS.box (i := 5) rfl rfl)) ?_; clear hF a; intro a hF
  refine wl hF rfl rfl rfl (r_field fo34_4 (hF.ev rfl)) ?_; clear hF a; intro a hF
  refine wl_store hF hS (i := 3) rfl sz3 (hF.ev rfl) (hF.ev rfl) rfl rfl ?_; intro w12 hS_; replace hS := hS_; clear hS_; dsimp only [List.set, Nat.reduceAdd] at hS
  refine wl_nil (hK7 _ _ ?_)
  refine ws fun K8 hK8 => ?_
  refine wl hF rfl rfl rfl (r_field fo27_5 (hF.ev rfl)) ?_; clear hF a; intro a hF
  refine wl hF rfl rfl rfl (r_load1 sc3 (hF.ev rfl) (hS.box (i := 5) rfl rfl)) ?_; clear hF a; intro a hF
  refine wl hF rfl rfl rfl (r_field fo34_5 (hF.ev rfl)) ?_; clear hF a; intro a hF
  refine wl_store hF hS (i := 3) rfl sz3 (hF.ev rfl) (hF.ev rfl) rfl rfl ?_; intro w13 hS_; replace hS := hS_; clear hS_; dsimp only [List.set, Nat.reduceAdd] at hS
  refine wl_nil (hK8 _ _ ?_)
  refine ws fun K9 hK9 => ?_
  refine wl hF rfl rfl rfl (r_field fo27_6 (hF.ev rfl)) ?_; clear hF a; intro a hF
  refine wl hF rfl rfl rfl (r_load1 sc3 (hF.ev rfl) (hS.box (i := 5) rfl rfl)) ?_; clear hF a; intro a hF
  refine wl hF rfl rfl rfl (r_field fo34_6 (hF.ev rfl)) ?_; clear hF a; intro a hF
  refine wl_store hF hS (i := 3) rfl sz3 (hF.ev rfl) (hF.ev rfl) rfl rfl ?_; intro w14 hS_; replace hS := hS_; clear hS_; dsimp only [List.set, Nat.reduceAdd] at hS
  refine wl_nil (hK9 _ _ ?_)
  refine ws fun K10 hK10 => ?_
  refine wl hF rfl rfl rfl (r_field fo27_7 (hF.ev rfl)) ?_; clear hF a; intro a hF
  refine wl hF rfl rfl rfl (r_load1 sc3 (hF.ev rfl) (hS.box (i := 5) rfl rfl)) ?_; clear hF a; intro a hF
  refine wl hF rfl rfl rfl (r_field fo34_7 (hF.ev rfl)) ?_; clear hF a; intro a hF
  refine wl_store hF hS (i := 3) rfl sz3 (hF.ev rfl) (hF.ev rfl) rfl rfl ?_; intro w15 hS_; replace hS := hS_; clear hS_; dsimp only [List.set, Nat.reduceAdd] at hS
  refine wl_nil (hK10 _ _ ?_)
  refine ws fun K11 hK11 => ?_
  refine wl hF rfl rfl rfl (r_loadn ag34 (hF.ev rfl) (hS.box_rd (i := 3) rfl) sz34) ?_; clear hF a; intro a hF
  refine wl_storew hF hS (i := 4) rfl (hF.ev rfl) (hF.ev rfl) sz34 rfl rfl ?_; intro w16 hS_; replace hS := hS_; clear hS_; dsimp only [List.set, Nat.reduceAdd] at hS
  refine wl_nil (hK11 _ _ ?_)
  refine wp_ret ?_
  try simp only [Exit.then, Exit.inBlock, ↓reduceIte]
  exact ret1c rfl ag34 hF hS (i := 4) rfl sz34 rfl ⟨[s10, s14, s18], rfl, hS.part_of [2, 1, 0] (by decide) rfl⟩
set_option maxHeartbeats 4000000 in
set_option maxRecDepth 20000 in
theorem eqState_c {W : World} {x y : Sl.State} {cs ds : List Value} (hx : stateEK.K W x cs) (hy : stateEK.K W y ds) : Calls Try.prog 9 #[.agg cs.toArray, .agg ds.toArray] W (Ret fun v w' => v = .bool (decide (x = y)) ∧ Below W.heap.size W w') := by
  refine calls_fr Try.func9 rfl Try.ntmps9 rfl ?_
  intro a hF
  obtain ⟨v0, v1, v2, rfl, r0, r1, r2⟩ := hx
  obtain ⟨u0, u1, u2, rfl, q0, q1, q2⟩ := hy
  have hS := Sep.refl W
  refine ws fun K1 hK1 => ?_
  refine wl_box (cs := [_, _, _, _, _, _, _, _, _, _, _, _, _]) hF hS rfl (hF.ev rfl) rfl ?_; clear hF a; intro g1 w1 a hS_ hB_ hF; replace hS := hS_; clear hS_ hB_
  refine wl_box (cs := [_, _, _, _, _, _, _, _, _, _, _, _, _]) hF hS rfl (hF.ev rfl) rfl ?_; clear hF a; intro g2 w2 a hS_ hB_ hF; replace hS := hS_; clear hS_ hB_
  refine wl_mvs (A := [_]) hF rfl ?_; clear hF a; intro a hF
  refine wl_nil (hK1 _ _ ?_)
  refine wp_seq_k fun K2 hK2 => ?_
  refine ws fun K3 hK3 => ?_
  refine wl hF rfl rfl rfl (r_field fo34_0 (hF.ev rfl)) ?_; clear hF a; intro a hF
  refine wl hF rfl rfl rfl (r_loadn ag31 (hF.ev rfl) (hS.boxn (vs := [_, _, _, _, _, _]) (i := 1) (m := 6) rfl rfl) sz31) ?_; clear hF a; intro a hF
  refine wl hF rfl rfl rfl (r_field fo34_0 (hF.ev rfl)) ?_; clear hF a; intro a hF
  refine wl hF rfl rfl rfl (r_loadn ag31 (hF.ev rfl) (hS.boxn (vs := [_, _, _, _, _, _]) (i := 0) (m := 6) rfl rfl) sz31) ?_; clear hF a; intro a hF
  refine wl_call hF rfl rfl rfl (r_call2 en31 (hF.ev rfl) (hF.ev rfl)) (eqConfig_c (x := x.config) (y := y.config)) ?_; clear hF a; rintro v w3 a ⟨rfl, hB_⟩ hF; replace hS := hS.ext hB_; clear hB_
  refine wl hF rfl rfl rfl (r_not (hF.ev rfl)) ?_; clear hF a; intro a hF
  refine wl_nil (hK3 _ _ ?_)
  first | refine wc_dec (hF.ev rfl) (fun c10 => ?_) (fun c10 => ?_) | refine wc_ndec (hF.ev rfl) (fun c10 => ?_) (fun c10 => ?_) | refine wc_b (hF.ev rfl) (fun c10 => ?_) (fun c10 => ?_)
  ·
    refine ws fun K4 hK4 => ?_
    refine wl_mvs (A := [_]) hF rfl ?_; clear hF a; intro a hF
    refine wl_nil (hK4 _ _ ?_)
    refine wp_ret ?_
    try simp only [Exit.then, Exit.inBlock, ↓reduceIte]
    refine ret1 rfl hF rfl ⟨congrArg Value.bool (Eq.symm ?_), hS.old⟩
    first | exact decide_eq_false (fun e => by subst e; first | exact c10 rfl | exact c16 rfl | exact c22 rfl | exact c28 rfl | exact c33 rfl | exact c38 rfl | exact c43 rfl | exact c48 rfl) | exact decide_eq_true (by cases x; cases y; simp only [Sl.State.mk.injEq]; exact ⟨c10, c16, c22, c28, c33, c38, c43, c48⟩)
  refine wp_skip ?_
  refine hK2 _ _ ?_
  refine wp_seq_k fun K5 hK5 => ?_
  refine ws fun K6 hK6 => ?_
  refine wl hF rfl rfl rfl (r_field fo34_1 (hF.ev rfl)) ?_; clear hF a; intro a hF
  refine wl hF rfl rfl rfl (r_load1 sc24 (hF.ev rfl) (hS.box (i := 1) rfl rfl)) ?_; clear hF a; intro a hF
  refine wl hF rfl rfl rfl (r_field fo34_1 (hF.ev rfl)) ?_; clear hF a; intro a hF
  refine wl hF rfl rfl rfl (r_load1 sc24 (hF.ev rfl) (hS.box (i := 0) rfl rfl)) ?_; clear hF a; intro a hF
  refine wl_call hF rfl rfl rfl (r_call2 en32 (hF.ev rfl) (hF.ev rfl)) (eqIntS_c (hS.rd r0) (hS.rd q0)) ?_; clear hF a; rintro v w4 a ⟨rfl, hB_⟩ hF; replace hS := hS.ext hB_; clear hB_
  refine wl hF rfl rfl rfl (r_not (hF.ev rfl)) ?_; clear hF a; intro a hF
  refine wl_nil (hK6 _ _ ?_)
  first | refine wc_dec (hF.ev rfl) (fun c16 => ?_) (fun c16 => ?_) | refine wc_ndec (hF.ev rfl) (fun c16 => ?_) (fun c16 => ?_) | refine wc_b (hF.ev rfl) (fun c16 => ?_) (fun c16 => ?_)
  ·
    refine ws fun K7 hK7 => ?_
    refine wl_mvs (A := [_]) hF rfl ?_; clear hF a; intro a hF
    refine wl_nil (hK7 _ _ ?_)
    refine wp_ret ?_
    try simp only [Exit.then, Exit.inBlock, ↓reduceIte]
    refine ret1 rfl hF rfl ⟨congrArg Value.bool (Eq.symm ?_), hS.old⟩
    first | exact decide_eq_false (fun e => by subst e; first | exact c10 rfl | exact c16 rfl | exact c22 rfl | exact c28 rfl | exact c33 rfl | exact c38 rfl | exact c43 rfl | exact c48 rfl) | exact decide_eq_true (by cases x; cases y; simp only [Sl.State.mk.injEq]; exact ⟨c10, c16, c22, c28, c33, c38, c43, c48⟩)
  refine wp_skip ?_
  refine hK5 _ _ ?_
  refine wp_seq_k fun K8 hK8 => ?_
  refine ws fun K9 hK9 => ?_
  refine wl hF rfl rfl rfl (r_field fo34_2 (hF.ev rfl)) ?_; clear hF a; intro a hF
  refine wl hF rfl rfl rfl (r_load1 sc24 (hF.ev rfl) (hS.box (i := 1) rfl rfl)) ?_; clear hF a; intro a hF
  refine wl hF rfl rfl rfl (r_field fo34_2 (hF.ev rfl)) ?_; clear hF a; intro a hF
  refine wl hF rfl rfl rfl (r_load1 sc24 (hF.ev rfl) (hS.box (i := 0) rfl rfl)) ?_; clear hF a; intro a hF
  refine wl_call hF rfl rfl rfl (r_call2 en32 (hF.ev rfl) (hF.ev rfl)) (eqIntS_c (hS.rd r1) (hS.rd q1)) ?_; clear hF a; rintro v w5 a ⟨rfl, hB_⟩ hF; replace hS := hS.ext hB_; clear hB_
  refine wl hF rfl rfl rfl (r_not (hF.ev rfl)) ?_; clear hF a; intro a hF
  refine wl_nil (hK9 _ _ ?_)
  first | refine wc_dec (hF.ev rfl) (fun c22 => ?_) (fun c22 => ?_) | refine wc_ndec (hF.ev rfl) (fun c22 => ?_) (fun c22 => ?_) | refine wc_b (hF.ev rfl) (fun c22 => ?_) (fun c22 => ?_)
  ·
    refine ws fun K10 hK10 => ?_
    refine wl_mvs (A := [_]) hF rfl ?_; clear hF a; intro a hF
    refine wl_nil (hK10 _ _ ?_)
    refine wp_ret ?_
    try simp only [Exit.then, Exit.inBlock, ↓reduceIte]
    refine ret1 rfl hF rfl ⟨congrArg Value.bool (Eq.symm ?_), hS.old⟩
    first | exact decide_eq_false (fun e => by subst e; first | exact c10 rfl | exact c16 rfl | exact c22 rfl | exact c28 rfl | exact c33 rfl | exact c38 rfl | exact c43 rfl | exact c48 rfl) | exact decide_eq_true (by cases x; cases y; simp only [Sl.State.mk.injEq]; exact ⟨c10, c16, c22, c28, c33, c38, c43, c48⟩)
  refine wp_skip ?_
  refine hK8 _ _ ?_
  refine wp_seq_k fun K11 hK11 => ?_
  refine ws fun K12 hK12 => ?_
  refine wl hF rfl rfl rfl (r_field fo34_3 (hF.ev rfl)) ?_; clear hF a; intro a hF
  refine wl hF rfl rfl rfl (r_load1 sc32 (hF.ev rfl) (hS.box (i := 1) rfl rfl)) ?_; clear hF a; intro a hF
  refine wl hF rfl rfl rfl (r_field fo34_3 (hF.ev rfl)) ?_; clear hF a; intro a hF
  refine wl hF rfl rfl rfl (r_load1 sc32 (hF.ev rfl) (hS.box (i := 0) rfl rfl)) ?_; clear hF a; intro a hF
  refine wl_call hF rfl rfl rfl (r_call2 en33 (hF.ev rfl) (hF.ev rfl)) (eqThreadS_c (hS.rd r2) (hS.rd q2)) ?_; clear hF a; rintro v w6 a ⟨rfl, hB_⟩ hF; replace hS := hS.ext hB_; clear hB_
  refine wl hF rfl rfl rfl (r_not (hF.ev rfl)) ?_; clear hF a; intro a hF
  refine wl_nil (hK12 _ _ ?_)
  first | refine wc_dec (hF.ev rfl) (fun c28 => ?_) (fun c28 => ?_) | refine wc_ndec (hF.ev rfl) (fun c28 => ?_) (fun c28 => ?_) | refine wc_b (hF.ev rfl) (fun c28 => ?_) (fun c28 => ?_)
  ·
    refine ws fun K13 hK13 => ?_
    refine wl_mvs (A := [_]) hF rfl ?_; clear hF a; intro a hF
    refine wl_nil (hK13 _ _ ?_)
    refine wp_ret ?_
    try simp only [Exit.then, Exit.inBlock, ↓reduceIte]
    refine ret1 rfl hF rfl ⟨congrArg Value.bool (Eq.symm ?_), hS.old⟩
    first | exact decide_eq_false (fun e => by subst e; first | exact c10 rfl | exact c16 rfl | exact c22 rfl | exact c28 rfl | exact c33 rfl | exact c38 rfl | exact c43 rfl | exact c48 rfl) | exact decide_eq_true (by cases x; cases y; simp only [Sl.State.mk.injEq]; exact ⟨c10, c16, c22, c28, c33, c38, c43, c48⟩)
  refine wp_skip ?_
  refine hK11 _ _ ?_
  refine wp_seq_k fun K14 hK14 => ?_
  refine ws fun K15 hK15 => ?_
  refine wl hF rfl rfl rfl (r_field fo34_4 (hF.ev rfl)) ?_; clear hF a; intro a hF
  refine wl hF rfl rfl rfl (r_load1 sc3 (hF.ev rfl) (hS.box (i := 1) rfl rfl)) ?_; clear hF a; intro a hF
  refine wl hF rfl rfl rfl (r_field fo34_4 (hF.ev rfl)) ?_; clear hF a; intro a hF
  refine wl hF rfl rfl rfl (r_load1 sc3 (hF.ev rfl) (hS.box (i := 0) rfl rfl)) ?_; clear hF a; intro a hF
  refine wl hF rfl rfl rfl (r_neq (hF.ev rfl) (hF.ev rfl)) ?_; clear hF a; intro a hF
  refine wl_nil (hK15 _ _ ?_)
  first | refine wc_dec (hF.ev rfl) (fun c33 => ?_) (fun c33 => ?_) | refine wc_ndec (hF.ev rfl) (fun c33 => ?_) (fun c33 => ?_) | refine wc_b (hF.ev rfl) (fun c33 => ?_) (fun c33 => ?_)
  ·
    refine ws fun K16 hK16 => ?_
    refine wl_mvs (A := [_]) hF rfl ?_; clear hF a; intro a hF
    refine wl_nil (hK16 _ _ ?_)
    refine wp_ret ?_
    try simp only [Exit.then, Exit.inBlock, ↓reduceIte]
    refine ret1 rfl hF rfl ⟨congrArg Value.bool (Eq.symm ?_), hS.old⟩
    first | exact decide_eq_false (fun e => by subst e; first | exact c10 rfl | exact c16 rfl | exact c22 rfl | exact c28 rfl | exact c33 rfl | exact c38 rfl | exact c43 rfl | exact c48 rfl) | exact decide_eq_true (by cases x; cases y; simp only [Sl.State.mk.injEq]; exact ⟨c10, c16, c22, c28, c33, c38, c43, c48⟩)
  refine wp_skip ?_
  refine hK14 _ _ ?_
  refine wp_seq_k fun K17 hK17 => ?_
  refine ws fun K18 hK18 => ?_
  refine wl hF rfl rfl rfl (r_field fo34_5 (hF.ev rfl)) ?_; clear hF a; intro a hF
  refine wl hF rfl rfl rfl (r_load1 sc3 (hF.ev rfl) (hS.box (i := 1) rfl rfl)) ?_; clear hF a; intro a hF
  refine wl hF rfl rfl rfl (r_field fo34_5 (hF.ev rfl)) ?_; clear hF a; intro a hF
  refine wl hF rfl rfl rfl (r_load1 sc3 (hF.ev rfl) (hS.box (i := 0) rfl rfl)) ?_; clear hF a; intro a hF
  refine wl hF rfl rfl rfl (r_neq (hF.ev rfl) (hF.ev rfl)) ?_; clear hF a; intro a hF
  refine wl_nil (hK18 _ _ ?_)
  first | refine wc_dec (hF.ev rfl) (fun c38 => ?_) (fun c38 => ?_) | refine wc_ndec (hF.ev rfl) (fun c38 => ?_) (fun c38 => ?_) | refine wc_b (hF.ev rfl) (fun c38 => ?_) (fun c38 => ?_)
  ·
    refine ws fun K19 hK19 => ?_
    refine wl_mvs (A := [_]) hF rfl ?_; clear hF a; intro a hF
    refine wl_nil (hK19 _ _ ?_)
    refine wp_ret ?_
    try simp only [Exit.then, Exit.inBlock, ↓reduceIte]
    refine ret1 rfl hF rfl ⟨congrArg Value.bool (Eq.symm ?_), hS.old⟩
    first | exact decide_eq_false (fun e => by subst e; first | exact c10 rfl | exact c16 rfl | exact c22 rfl | exact c28 rfl | exact c33 rfl | exact c38 rfl | exact c43 rfl | exact c48 rfl) | exact decide_eq_true (by cases x; cases y; simp only [Sl.State.mk.injEq]; exact ⟨c10, c16, c22, c28, c33, c38, c43, c48⟩)
  refine wp_skip ?_
  refine hK17 _ _ ?_
  refine wp_seq_k fun K20 hK20 => ?_
  refine ws fun K21 hK21 => ?_
  refine wl hF rfl rfl rfl (r_field fo34_6 (hF.ev rfl)) ?_; clear hF a; intro a hF
  refine wl hF rfl rfl rfl (r_load1 sc3 (hF.ev rfl) (hS.box (i := 1) rfl rfl)) ?_; clear hF a; intro a hF
  refine wl hF rfl rfl rfl (r_field fo34_6 (hF.ev rfl)) ?_; clear hF a; intro a hF
  refine wl hF rfl rfl rfl (r_load1 sc3 (hF.ev rfl) (hS.box (i := 0) rfl rfl)) ?_; clear hF a; intro a hF
  refine wl hF rfl rfl rfl (r_neq (hF.ev rfl) (hF.ev rfl)) ?_; clear hF a; intro a hF
  refine wl_nil (hK21 _ _ ?_)
  first | refine wc_dec (hF.ev rfl) (fun c43 => ?_) (fun c43 => ?_) | refine wc_ndec (hF.ev rfl) (fun c43 => ?_) (fun c43 => ?_) | refine wc_b (hF.ev rfl) (fun c43 => ?_) (fun c43 => ?_)
  ·
    refine ws fun K22 hK22 => ?_
    refine wl_mvs (A := [_]) hF rfl ?_; clear hF a; intro a hF
    refine wl_nil (hK22 _ _ ?_)
    refine wp_ret ?_
    try simp only [Exit.then, Exit.inBlock, ↓reduceIte]
    refine ret1 rfl hF rfl ⟨congrArg Value.bool (Eq.symm ?_), hS.old⟩
    first | exact decide_eq_false (fun e => by subst e; first | exact c10 rfl | exact c16 rfl | exact c22 rfl | exact c28 rfl | exact c33 rfl | exact c38 rfl | exact c43 rfl | exact c48 rfl) | exact decide_eq_true (by cases x; cases y; simp only [Sl.State.mk.injEq]; exact ⟨c10, c16, c22, c28, c33, c38, c43, c48⟩)
  refine wp_skip ?_
  refine hK20 _ _ ?_
  refine wp_seq_k fun K23 hK23 => ?_
  refine ws fun K24 hK24 => ?_
  refine wl hF rfl rfl rfl (r_field fo34_7 (hF.ev rfl)) ?_; clear hF a; intro a hF
  refine wl hF rfl rfl rfl (r_load1 sc3 (hF.ev rfl) (hS.box (i := 1) rfl rfl)) ?_; clear hF a; intro a hF
  refine wl hF rfl rfl rfl (r_field fo34_7 (hF.ev rfl)) ?_; clear hF a; intro a hF
  refine wl hF rfl rfl rfl (r_load1 sc3 (hF.ev rfl) (hS.box (i := 0) rfl rfl)) ?_; clear hF a; intro a hF
  refine wl hF rfl rfl rfl (r_neq (hF.ev rfl) (hF.ev rfl)) ?_; clear hF a; intro a hF
  refine wl_nil (hK24 _ _ ?_)
  first | refine wc_dec (hF.ev rfl) (fun c48 => ?_) (fun c48 => ?_) | refine wc_ndec (hF.ev rfl) (fun c48 => ?_) (fun c48 => ?_) | refine wc_b (hF.ev rfl) (fun c48 => ?_) (fun c48 => ?_)
  ·
    refine ws fun K25 hK25 => ?_
    refine wl_mvs (A := [_]) hF rfl ?_; clear hF a; intro a hF
    refine wl_nil (hK25 _ _ ?_)
    refine wp_ret ?_
    try simp only [Exit.then, Exit.inBlock, ↓reduceIte]
    refine ret1 rfl hF rfl ⟨congrArg Value.bool (Eq.symm ?_), hS.old⟩
    first | exact decide_eq_false (fun e => by subst e; first | exact c10 rfl | exact c16 rfl | exact c22 rfl | exact c28 rfl | exact c33 rfl | exact c38 rfl | exact c43 rfl | exact c48 rfl) | exact decide_eq_true (by cases x; cases y; simp only [Sl.State.mk.injEq]; exact ⟨c10, c16, c22, c28, c33, c38, c43, c48⟩)
  refine wp_skip ?_
  refine hK23 _ _ ?_
  refine ws fun K26 hK26 => ?_
  refine wl_mvs (A := [_]) hF rfl ?_; clear hF a; intro a hF
  refine wl_nil (hK26 _ _ ?_)
  refine wp_ret ?_
  try simp only [Exit.then, Exit.inBlock, ↓reduceIte]
  refine ret1 rfl hF rfl ⟨congrArg Value.bool (Eq.symm ?_), hS.old⟩
  first | exact decide_eq_false (fun e => by subst e; first | exact c10 rfl | exact c16 rfl | exact c22 rfl | exact c28 rfl | exact c33 rfl | exact c38 rfl | exact c43 rfl | exact c48 rfl) | exact decide_eq_true (by cases x; cases y; simp only [Sl.State.mk.injEq]; exact ⟨c10, c16, c22, c28, c33, c38, c43, c48⟩)
theorem eqState_same {W : World} {x : Sl.State} {cs ds : List Value} (hx : stateEK.K W x cs) (hy : stateEK.K W x ds) : Calls Try.prog 9 #[.agg cs.toArray, .agg ds.toArray] W (Ret fun v w' => v = .bool true ∧ Below W.heap.size W w') := by
  refine (eqState_c hx hy).mono ?_
  rintro e w' ⟨v, rfl, rfl, hb⟩
  exact ⟨_, rfl, by simp, hb⟩
end Go.Proofs.Ytifhfodphoeeoaa.Wk
namespace Go.Proofs.Ytifhfodphoeeoaa.Wk
open Go Go.RowKit Sl
set_option linter.unusedVariables false
set_option linter.unusedSimpArgs false
set_option maxRecDepth 20000
theorem headCell_eq {c : Config} {k : Int} (hok : c.ok) (h0 : 0 ≤ k) (h1 : k < c.keys) : headCell c k = 2 + 3 * c.threads + k := by
  unfold headCell; rw [if_pos ⟨hok, h0, by omega⟩]
theorem nodeCell_eq {c : Config} {i f : Int} (hok : c.ok) (h0 : 0 ≤ i) (h1 : i < c.capacity) (h2 : 0 ≤ f) (h3 : f ≤ 2) : nodeCell c i f = 2 + 3 * c.threads + c.keys + 3 * i + f := by
  unfold nodeCell; rw [if_pos ⟨hok, ⟨h0, by omega⟩, h2, h3⟩]
theorem cellCount_eq {c : Config} (hok : c.ok) : cellCount c = 2 + 3 * c.threads + c.keys + 3 * c.capacity := by
  unfold cellCount; rw [if_pos hok]
section
variable {s : State}
theorem st_shape (h : ¬ shapeOk s) : stateOk s = false := by unfold stateOk; rw [decide_eq_false h]; rfl
theorem st_counts (h : ¬ countsOk s) : stateOk s = false := by unfold stateOk; rw [decide_eq_false h]; simp
theorem st_gens (h : gensOk s = false) : stateOk s = false := by unfold stateOk; rw [h]; simp
theorem st_heads (h : headsOk s = false) : stateOk s = false := by unfold stateOk; rw [h]; simp
theorem st_nodes (h : nodesOk s = false) : stateOk s = false := by unfold stateOk; rw [h]; simp
theorem st_threads (h : s.threads.all (threadOk s.config) = false) : stateOk s = false := by unfold stateOk; rw [h]; simp
theorem st_yes (h1 : shapeOk s) (h2 : gensOk s = true) (h3 : headsOk s = true) (h4 : nodesOk s = true) : stateOk s = (s.threads.all (threadOk s.config) && decide (countsOk s)) := by
  unfold stateOk; rw [decide_eq_true h1, h2, h3, h4]; simp
end
set_option maxHeartbeats 4000000 in
set_option maxRecDepth 20000 in
theorem indexFuncT_c {W : World} {va : Value} {xs : List Sl.Thread} {f : FuncId} {cap : Array Value} {p : Sl.Thread → Bool} (ha : threadEK.Rd W va xs) (hen : enterB Try.prog f = true) (hf : ∀ (w : World) (cs : List Value) (x : Sl.Thread), x ∈ xs → Below W.heap.size W w → threadEK.K w x cs → Calls Try.prog f (#[.agg cs.toArray] ++ cap) w (Ret fun v w' => v = .bool (p x) ∧ Below w.heap.size w w')) : Calls Try.prog 84 #[va, .func (.func f) #[] cap] W (Ret fun v w' => (∃ j : Int, v = vi j ∧ (0 ≤ j ↔ xs.any p = true)) ∧ Below W.heap.size W w') := by
  refine calls_fr Try.func84 rfl Try.ntmps84 rfl ?_
  intro a hF
  obtain ⟨A_a, q_a, rfl, hq_a, hn_a⟩ := ha.sl; unfold maxLen at hn_a
  have hS := Sep.refl W
  refine ws fun K1 hK1 => ?_
  refine wl_mvs (A := [_]) hF rfl ?_; clear hF a; intro a hF
  refine wl_nil (hK1 _ _ ?_)
  refine wp_seq_k fun K2 hK2 => ?_
  refine ws fun K3 hK3 => ?_
  refine wl_mvs (A := [_]) hF rfl ?_; clear hF a; intro a hF
  refine wl hF rfl rfl rfl (r_len ul32 (hF.ev rfl)) ?_; clear hF a; intro a hF
  refine wl_mvs (A := [_]) hF rfl ?_; clear hF a; intro a hF
  refine wl_nil (hK3 _ _ ?_)
  refine wp_block ?_
  refine wp_loop_g (σ := Nat) (fun k a w => k ≤ xs.length ∧ (xs.take k).any p = false ∧ Sep W [] w ∧ Fr 19 [(8, vi k), (7, vi xs.length), (1, .func (.func f) #[] cap), (0, .slice A_a xs.length q_a)] a) (fun k => xs.length - k) 0 ?_ ?_
  · exact ⟨Nat.zero_le _, by simp, hS, ((((hF.nil.keep hF (t := 0) rfl).keep hF (t := 1) rfl).keep hF (t := 7) rfl).keep hF (t := 8) rfl)⟩
  clear hF hS a
  rintro k a w ⟨hk, hn, hS, hF⟩
  refine ws fun K4 hK4 => ?_
  refine wl hF rfl rfl rfl (r_lss (hF.ev rfl) (hF.ev rfl)) ?_; clear hF a; intro a hF
  refine wl_nil (hK4 _ _ ?_)
  refine wp_seq_k fun K5 hK5 => ?_
  first | refine wc_dec (hF.ev rfl) (fun c9 => ?_) (fun c9 => ?_) | refine wc_ndec (hF.ev rfl) (fun c9 => ?_) (fun c9 => ?_) | refine wc_b (hF.ev rfl) (fun c9 => ?_) (fun c9 => ?_)
  ·
    have hlt : k < xs.length := by omega
    obtain ⟨x, hx⟩ : ∃ x, xs[k]? = some x := ⟨_, List.getElem?_eq_getElem hlt⟩
    refine wp_skip ?_
    refine hK5 _ _ ?_
    refine wp_seq_k fun K6 hK6 => ?_
    refine wp_block ?_
    refine ws fun K7 hK7 => ?_
    refine wl_mvs (A := [_, _]) hF rfl ?_; clear hF a; intro a hF
    refine wl_nil (hK7 _ _ ?_)
    refine ws fun K8 hK8 => ?_
    refine wl_mvs (A := [_, _, _]) hF rfl ?_; clear hF a; intro a hF
    obtain ⟨g14, o14, m14, q14, cs14, hv14, hm14, hl14, hk14, hz14, hc14⟩ := Rd.idx (ha) hx
    refine wl hF rfl rfl rfl (r_index sl32 ((hF.ev rfl).trans hv14) (hF.ev rfl) (by omega) (by omega)) ?_; clear hF a; intro a hF
    refine wl hF rfl rfl rfl (r_loadn ag55 (hF.ev rfl) (fun j_ u_ hu_ => cellB hS.old (hc14 j_ u_ hu_)) (sz55.trans (congrArg some hz14.symm))) ?_; clear hF a; intro a hF
    refine wl_call hF rfl rfl rfl (r_callv1 hen (hF.ev rfl) (hF.ev rfl)) (hf _ cs14 x (List.mem_of_getElem? hx) hS.old (threadEK.ext hS.old hk14)) ?_; clear hF a; rintro v w1 a ⟨rfl, hB_⟩ hF; replace hS := hS.ext hB_; clear hB_
    refine wl_nil (hK8 _ _ ?_)
    first | refine wc_dec (hF.ev rfl) (fun c16 => ?_) (fun c16 => ?_) | refine wc_ndec (hF.ev rfl) (fun c16 => ?_) (fun c16 => ?_) | refine wc_b (hF.ev rfl) (fun c16 => ?_) (fun c16 => ?_)
    ·
      refine ws fun K9 hK9 => ?_
      refine wl_mvs (A := [_, _]) hF rfl ?_; clear hF a; intro a hF
      refine wl_nil (hK9 _ _ ?_)
      refine wp_ret ?_
      try simp only [Exit.then, Exit.inBlock, ↓reduceIte]
      first | exact ret1 rfl hF rfl ⟨⟨_, rfl, ⟨fun _ => any_at hx c16, fun _ => by omega⟩⟩, hS.old⟩ | exact ret1 rfl hF rfl ⟨⟨_, rfl, ⟨fun h => absurd h (by omega), fun h => absurd h (by rw [any_all hn hk (by assumption)]; decide)⟩⟩, hS.old⟩
    refine wp_skip ?_
    simp only [Exit.then, Exit.inBlock, ↓reduceIte]
    refine hK6 _ _ ?_
    refine wp_region_lit ?_
    refine wl hF rfl rfl rfl (r_add (hF.ev rfl) ec) ?_; clear hF a; intro a hF
    refine wl_mvs (A := [_]) hF rfl ?_; clear hF a; intro a hF
    refine wl_nil ?_
    try simp only [Exit.then, Exit.inBlock, ↓reduceIte]
    exact ⟨k + 1, ⟨by omega, any_next hn hx c16, hS, ((((hF.nil.keep hF (t := 0) rfl).keep hF (t := 1) rfl).keep hF (t := 7) rfl).keepE hF (t := 8) rfl (wk (by omega)))⟩, by omega⟩
  refine wp_exit ?_
  simp only [Exit.then, Exit.inBlock, ↓reduceIte]
  refine hK2 _ _ ?_
  refine ws fun K10 hK10 => ?_
  refine wl_mvs (A := [_]) hF rfl ?_; clear hF a; intro a hF
  refine wl_nil (hK10 _ _ ?_)
  refine wp_ret ?_
  try simp only [Exit.then, Exit.inBlock, ↓reduceIte]
  first | exact ret1 rfl hF rfl ⟨⟨_, rfl, ⟨fun _ => any_at hx c16, fun _ => by omega⟩⟩, hS.old⟩ | exact ret1 rfl hF rfl ⟨⟨_, rfl, ⟨fun h => absurd h (by omega), fun h => absurd h (by rw [any_all hn hk (by assumption)]; decide)⟩⟩, hS.old⟩
set_option maxHeartbeats 4000000 in
set_option maxRecDepth 20000 in
theorem containsFuncT_c {W : World} {va : Value} {xs : List Sl.Thread} {f : FuncId} {cap : Array Value} {p : Sl.Thread → Bool} (ha : threadEK.Rd W va xs) (hen : enterB Try.prog f = true) (hf : ∀ (w : World) (cs : List Value) (x : Sl.Thread), x ∈ xs → Below W.heap.size W w → threadEK.K w x cs → Calls Try.prog f (#[.agg cs.toArray] ++ cap) w (Ret fun v w' => v = .bool (p x) ∧ Below w.heap.size w w')) : Calls Try.prog 74 #[va, .func (.func f) #[] cap] W (Ret fun v w' => v = .bool (xs.any p) ∧ Below W.heap.size W w') := by
  refine calls_fr Try.func74 rfl Try.ntmps74 rfl ?_
  intro a hF
  have hS := Sep.refl W
  refine ws fun K1 hK1 => ?_
  refine wl_mvs (A := [_]) hF rfl ?_; clear hF a; intro a hF
  refine wl_nil (hK1 _ _ ?_)
  refine ws fun K2 hK2 => ?_
  refine wl_mvs (A := [_, _]) hF rfl ?_; clear hF a; intro a hF
  refine wl_call hF rfl rfl rfl (r_call2 en84 (hF.ev rfl) (hF.ev rfl)) (indexFuncT_c (hS.rd ha) hen hf) ?_; clear hF a; rintro v w1 a ⟨⟨j, rfl, hj⟩, hB_⟩ hF; replace hS := hS.ext hB_; clear hB_
  refine wl hF rfl rfl rfl (r_geq (hF.ev rfl) ec) ?_; clear hF a; intro a hF
  refine wl_mvs (A := [_]) hF rfl ?_; clear hF a; intro a hF
  refine wl_nil (hK2 _ _ ?_)
  refine wp_ret ?_
  try simp only [Exit.then, Exit.inBlock, ↓reduceIte]
  refine ret1 rfl hF rfl ⟨congrArg Value.bool ?_, hS.old⟩
  cases hb : xs.any p with
  | true => exact decide_eq_true (hj.2 hb)
  | false => exact decide_eq_false (fun h => by rw [hj.1 h] at hb; cases hb)
set_option maxHeartbeats 4000000 in
set_option maxRecDepth 20000 in
theorem isState1_c {W : World} {c : Config} {g : Nat} {t : Sl.Thread} {cs : List Value} (hm : threadEK.K W t cs) (hw : t.wf) (hok : c.ok) (hc : ∀ j u, c.enc[j]? = some u → W.cell? ⟨g, 0 + j, none⟩ = some u) : Calls Try.prog 75 #[.agg cs.toArray, .pointer (some ⟨g, 0, none⟩)] W (Ret fun v w' => v = .bool (!threadOk c t) ∧ Below W.heap.size W w') := by
  refine calls_fr Try.func75 rfl Try.ntmps75 rfl ?_
  intro a hF
  have hS := Sep.refl W
  obtain ⟨v0, v1, v2, v3, v4, rfl, r0, r1, r2, r3, r4⟩ := hm
  have hm : threadEK.K W t (t.encv v0 v1 v2 v3 v4) := ⟨_, _, _, _, _, rfl, r0, r1, r2, r3, r4⟩
  refine ws fun K1 hK1 => ?_
  refine wl_box (cs := [_, _, _, _, _, _, _, _, _, _, _, _, _, _, _, _, _, _, _]) hF hS rfl (hF.ev rfl) rfl ?_; clear hF a; intro g1 w1 a hS_ hB_ hF; replace hS := hS_; clear hS_ hB_
  refine wl_mvs (A := [_]) hF rfl ?_; clear hF a; intro a hF
  refine wl_nil (hK1 _ _ ?_)
  refine ws fun K2 hK2 => ?_
  refine wl hF rfl rfl rfl (r_loadn ag31 (hF.ev rfl) (fun j_ u_ hu_ => cellB hS.old (hc j_ u_ hu_)) sz31) ?_; clear hF a; intro a hF
  refine wl hF rfl rfl rfl (r_loadn ag55 (hF.ev rfl) (hS.box_rd (i := 0) rfl) sz55) ?_; clear hF a; intro a hF
  refine wl_call hF rfl rfl rfl (r_call2 en76 (hF.ev rfl) (hF.ev rfl)) (isThread_c (hS.k hm) hw hok) ?_; clear hF a; rintro v w2 a ⟨rfl, hB_⟩ hF; replace hS := hS.ext hB_; clear hB_
  refine wl hF rfl rfl rfl (r_not (hF.ev rfl)) ?_; clear hF a; intro a hF
  refine wl_mvs (A := [_]) hF rfl ?_; clear hF a; intro a hF
  refine wl_nil (hK2 _ _ ?_)
  refine wp_ret ?_
  try simp only [Exit.then, Exit.inBlock, ↓reduceIte]
  exact ret1 rfl hF rfl ⟨rfl, hS.old⟩
set_option maxHeartbeats 4000000 in
set_option maxRecDepth 20000 in
theorem implIsState_c {W : World} {s : Sl.State} {cs : List Value} (hm : stateEK.K W s cs) (hw : s.wf) (hz : (s.size : Int) ≤ 1048576) : Calls Try.prog 51 #[.agg cs.toArray] W (Ret fun v w' => v = .bool (stateOk s) ∧ Below W.heap.size W w') := by
  refine calls_fr Try.func51 rfl Try.ntmps51 rfl ?_
  intro a hF
  have hS := Sep.refl W
  obtain ⟨v0, v1, v2, rfl, r0, r1, r2⟩ := hm
  obtain ⟨A_a, q_a, rfl, hq_a, hn_a⟩ := r0.sl; unfold maxLen at hn_a
  obtain ⟨A_b, q_b, rfl, hq_b, hn_b⟩ := r1.sl; unfold maxLen at hn_b
  obtain ⟨A_c, q_c, rfl, hq_c, hn_c⟩ := r2.sl; unfold maxLen at hn_c
  obtain ⟨wcfg, wcells, wgens, wthr, wsteps, wchanges, wretries, wfaults⟩ := hw
  have hz1 := hz; unfold Sl.State.size at hz1
  refine ws fun K1 hK1 => ?_
  refine wl_box (cs := [_, _, _, _, _, _, _, _, _, _, _, _, _]) hF hS rfl (hF.ev rfl) rfl ?_; clear hF a; intro g1 w1 a hS_ hB_ hF; replace hS := hS_; clear hS_ hB_
  refine wl_mvs (A := [_]) hF rfl ?_; clear hF a; intro a hF
  refine wl_nil (hK1 _ _ ?_)
  refine ws fun K2 hK2 => ?_
  refine wl hF rfl rfl rfl (r_field fo34_0 (hF.ev rfl)) ?_; clear hF a; intro a hF
  refine wl hF rfl rfl rfl (r_loadn ag31 (hF.ev rfl) (hS.boxn (vs := [_, _, _, _, _, _]) (i := 0) (m := 6) rfl rfl) sz31) ?_; clear hF a; intro a hF
  refine wl_alloc hF hS rfl zr31 ?_; clear hF a; intro g2 w2 a hS_ hB_ hF; replace hS := hS_; clear hS_ hB_
  refine wl_storen (cs' := [_, _, _, _, _, _]) hF hS (i := 0) rfl (hF.ev rfl) (hF.ev rfl) sz31 ⟨rfl, rfl⟩ rfl rfl ?_; intro w3 hS_; replace hS := hS_; clear hS_; dsimp only [List.set] at hS
  refine wl_nil (hK2 _ _ ?_)
  refine wp_seq_k fun K3 hK3 => ?_
  refine wp_seq_k fun K4 hK4 => ?_
  refine wp_region_calm (by kernel_rfl) (by kernel_rfl) ?_
  refine wq hF rfl rfl rfl (fun w_ hB_ => r_loadn ag31 (hF.ev rfl) ((hS.ext hB_).box_rd (i := 0) rfl) sz31) ?_; clear hF a; intro a hF
  refine wq_call hF rfl rfl rfl (fun w_ hB_ => r_call1 en66 (hF.ev rfl)) (fun w_ hB_ => implIsConfig_c _) ?_; clear hF a; intro a hF
  refine wq hF rfl rfl rfl (fun w_ hB_ => r_not (hF.ev rfl)) ?_; clear hF a; intro a hF
  refine wq_mvs (A := [_]) hF rfl ?_; clear hF a; intro a hF
  apply wq_or (A := [_, _, _, _, _, _, _]) (pk := 18) hF (tc := 11) rfl
  ·
    intro hg11 a hF; try simp only [zb1, zb2, zb3, zb4, zb5, zb6, zb7, zb8] at hg11
    refine wq_take hF rfl rfl rfl rfl ?_
    refine wq hF rfl rfl rfl (fun w_ hB_ => r_field fo34_1 (hF.ev rfl)) ?_; clear hF a; intro a hF
    refine wq_take hF rfl rfl rfl rfl ?_
    refine wq hF rfl rfl rfl (fun w_ hB_ => r_load1 sc24 (hF.ev rfl) ((hS.ext hB_).box (i := 1) rfl rfl)) ?_; clear hF a; intro a hF
    refine wq_take hF rfl rfl rfl rfl ?_
    refine wq hF rfl rfl rfl (fun w_ hB_ => r_len ul24 (hF.ev rfl)) ?_; clear hF a; intro a hF
    refine wq_take hF rfl rfl rfl rfl ?_
    refine wq hF rfl rfl rfl (fun w_ hB_ => r_loadn ag31 (hF.ev rfl) ((hS.ext hB_).box_rd (i := 0) rfl) sz31) ?_; clear hF a; intro a hF
    refine wq_take hF rfl rfl rfl rfl ?_
    refine wq_call hF rfl rfl rfl (fun w_ hB_ => r_call1 en67 (hF.ev rfl)) (fun w_ hB_ => implCellCount_c _) ?_; clear hF a; intro a hF
    refine wq_take hF rfl rfl rfl rfl ?_
    refine wq hF rfl rfl rfl (fun w_ hB_ => r_neq (hF.ev rfl) (hF.ev rfl)) ?_; clear hF a; intro a hF
    refine wq hF rfl rfl rfl (fun w_ hB_ => r_pick_f (hF.ev rfl) (hF.ev rfl)) ?_; clear hF a; intro a hF
    exact wpQuiet_nil ((Fr.pre (A := [_, _, _, _, _, _, _]) hF rfl).keep hF (t := 18) rfl)
  ·
    intro hg11 a hF; try simp only [zb1, zb2, zb3, zb4, zb5, zb6, zb7, zb8] at hg11
    refine wq_mvs (A := [_, _, _, _, _, _]) hF rfl ?_; clear hF a; intro a hF
    refine wq hF rfl rfl rfl (fun w_ hB_ => r_pick_t (hF.ev rfl) ec) ?_; clear hF a; intro a hF
    exact wpQuiet_nil ((Fr.pre (A := [_, _, _, _, _, _, _]) hF rfl).keep hF (t := 18) rfl)
  clear hF a; intro a hF
  refine wq_mvs (A := [_]) hF rfl ?_; clear hF a; intro a hF
  apply wq_or (A := [_, _, _, _, _, _, _]) (pk := 26) hF (tc := 19) rfl
  ·
    intro hg19 a hF; try simp only [zb1, zb2, zb3, zb4, zb5, zb6, zb7, zb8] at hg19
    refine wq_take hF rfl rfl rfl rfl ?_
    refine wq hF rfl rfl rfl (fun w_ hB_ => r_field fo34_2 (hF.ev rfl)) ?_; clear hF a; intro a hF
    refine wq_take hF rfl rfl rfl rfl ?_
    refine wq hF rfl rfl rfl (fun w_ hB_ => r_load1 sc24 (hF.ev rfl) ((hS.ext hB_).box (i := 1) rfl rfl)) ?_; clear hF a; intro a hF
    refine wq_take hF rfl rfl rfl rfl ?_
    refine wq hF rfl rfl rfl (fun w_ hB_ => r_len ul24 (hF.ev rfl)) ?_; clear hF a; intro a hF
    refine wq_take hF rfl rfl rfl rfl ?_
    refine wq hF rfl rfl rfl (fun w_ hB_ => r_field fo31_2 (hF.ev rfl)) ?_; clear hF a; intro a hF
    refine wq_take hF rfl rfl rfl rfl ?_
    refine wq hF rfl rfl rfl (fun w_ hB_ => r_load1 sc3 (hF.ev rfl) ((hS.ext hB_).box (i := 0) rfl rfl)) ?_; clear hF a; intro a hF
    refine wq_take hF rfl rfl rfl rfl ?_
    refine wq hF rfl rfl rfl (fun w_ hB_ => r_neq (hF.ev rfl) (hF.ev rfl)) ?_; clear hF a; intro a hF
    refine wq hF rfl rfl rfl (fun w_ hB_ => r_pick_f (hF.ev rfl) (hF.ev rfl)) ?_; clear hF a; intro a hF
    exact wpQuiet_nil ((Fr.pre (A := [_, _, _, _, _, _, _]) hF rfl).keep hF (t := 26) rfl)
  ·
    intro hg19 a hF; try simp only [zb1, zb2, zb3, zb4, zb5, zb6, zb7, zb8] at hg19
    refine wq_mvs (A := [_, _, _, _, _, _]) hF rfl ?_; clear hF a; intro a hF
    refine wq hF rfl rfl rfl (fun w_ hB_ => r_pick_t (hF.ev rfl) ec) ?_; clear hF a; intro a hF
    exact wpQuiet_nil ((Fr.pre (A := [_, _, _, _, _, _, _]) hF rfl).keep hF (t := 26) rfl)
  clear hF a; intro a hF
  refine wq_mvs (A := [_]) hF rfl ?_; clear hF a; intro a hF
  apply wq_or (A := [_, _, _, _, _, _, _]) (pk := 34) hF (tc := 27) rfl
  ·
    intro hg27 a hF; try simp only [zb1, zb2, zb3, zb4, zb5, zb6, zb7, zb8] at hg27
    refine wq_take hF rfl rfl rfl rfl ?_
    refine wq hF rfl rfl rfl (fun w_ hB_ => r_field fo34_3 (hF.ev rfl)) ?_; clear hF a; intro a hF
    refine wq_take hF rfl rfl rfl rfl ?_
    refine wq hF rfl rfl rfl (fun w_ hB_ => r_load1 sc32 (hF.ev rfl) ((hS.ext hB_).box (i := 1) rfl rfl)) ?_; clear hF a; intro a hF
    refine wq_take hF rfl rfl rfl rfl ?_
    refine wq hF rfl rfl rfl (fun w_ hB_ => r_len ul32 (hF.ev rfl)) ?_; clear hF a; intro a hF
    refine wq_take hF rfl rfl rfl rfl ?_
    refine wq hF rfl rfl rfl (fun w_ hB_ => r_field fo31_0 (hF.ev rfl)) ?_; clear hF a; intro a hF
    refine wq_take hF rfl rfl rfl rfl ?_
    refine wq hF rfl rfl rfl (fun w_ hB_ => r_load1 sc3 (hF.ev rfl) ((hS.ext hB_).box (i := 0) rfl rfl)) ?_; clear hF a; intro a hF
    refine wq_take hF rfl rfl rfl rfl ?_
    refine wq hF rfl rfl rfl (fun w_ hB_ => r_neq (hF.ev rfl) (hF.ev rfl)) ?_; clear hF a; intro a hF
    refine wq hF rfl rfl rfl (fun w_ hB_ => r_pick_f (hF.ev rfl) (hF.ev rfl)) ?_; clear hF a; intro a hF
    exact wpQuiet_nil ((Fr.pre (A := [_, _, _, _, _, _, _]) hF rfl).keep hF (t := 34) rfl)
  ·
    intro hg27 a hF; try simp only [zb1, zb2, zb3, zb4, zb5, zb6, zb7, zb8] at hg27
    refine wq_mvs (A := [_, _, _, _, _, _]) hF rfl ?_; clear hF a; intro a hF
    refine wq hF rfl rfl rfl (fun w_ hB_ => r_pick_t (hF.ev rfl) ec) ?_; clear hF a; intro a hF
    exact wpQuiet_nil ((Fr.pre (A := [_, _, _, _, _, _, _]) hF rfl).keep hF (t := 34) rfl)
  clear hF a; intro a hF
  refine wpQuiet_nil ?_; intro w7 hB_; replace hS := hS.ext hB_; clear hB_
  refine hK4 _ _ ?_
  refine wc_fx (t := 34) hF rfl ?_ ?_ <;> clear hF <;> intro c34 hF <;> try simp only [zb1, zb2, zb3, zb4, zb5, zb6, zb7, zb8] at c34
  ·
    refine ws fun K5 hK5 => ?_
    refine wl_mvs (A := [_]) hF rfl ?_; clear hF a; intro a hF
    refine wl_nil (hK5 _ _ ?_)
    refine wp_ret ?_
    try simp only [Exit.then, Exit.inBlock, ↓reduceIte]
    refine ret1 rfl hF rfl ⟨congrArg Value.bool (Eq.symm ?_), hS.old⟩
    first
      | exact st_heads (range_no (by omega) c93)
      | exact st_shape fun h => by
          unfold shapeOk at h
          rcases c34 with ((c | c) | c) | c
          · exact c h.1
          · exact c h.2.1
          · exact c h.2.2.1
          · exact c h.2.2.2
      | (rcases c130 with (c | c) | c
         · exact st_gens (range_no (by omega) (decide_eq_false c))
         · exact st_nodes (range_no (k := k) (by omega) (Bool.and_eq_false_iff.2 (.inr (decide_eq_false c))))
         · exact st_nodes (range_no (k := k) (by omega) (Bool.and_eq_false_iff.2 (.inl (isLink_unmarked ▸ c)))))
      | (rw [st_yes ⟨hok, hl1, hl2, hl3⟩ (all_done hg (by rw [List.length_range]; omega)) (all_done hn (by rw [List.length_range]; omega)) (all_done hv (by rw [List.length_range]; omega)), any_not, Bool.not_not, decide_eq_true (show countsOk s from by unfold countsOk; omega), Bool.and_true])
      | exact st_counts fun h => by unfold countsOk at h; omega
  obtain ⟨⟨⟨hok, hl1⟩, hl2⟩, hl3⟩ := c34
  have hb := hok; unfold Config.ok at hb
  have hcc := cellCount_eq hok
  refine wp_skip ?_
  refine hK3 _ _ ?_
  refine wp_seq_k fun K6 hK6 => ?_
  refine wp_seq_k fun K7 hK7 => ?_
  refine wp_region_calm (by kernel_rfl) (by kernel_rfl) ?_
  refine wq hF rfl rfl rfl (fun w_ hB_ => r_field fo34_1 (hF.ev rfl)) ?_; clear hF a; intro a hF
  refine wq hF rfl rfl rfl (fun w_ hB_ => r_load1 sc24 (hF.ev rfl) ((hS.ext hB_).box (i := 1) rfl rfl)) ?_; clear hF a; intro a hF
  refine wq_call hF rfl rfl rfl (fun w_ hB_ => r_call0 en68 ) (fun w_ hB_ => implClockCell_c) ?_; clear hF a; intro a hF
  obtain ⟨g38, o38, m38, q38, hv38, hm38, hl38, hc38⟩ := Rd.atF (r0) (a := a) (X := .tmp 37) (hF.ev rfl) (by omega) (by omega)
  refine wq hF rfl rfl rfl (fun w_ hB_ => r_index sl24 ((hF.ev rfl).trans hv38) (hF.ev rfl) (by omega) (by first | omega | (simp at hm38; omega))) ?_; clear hF a; intro a hF
  refine wq hF rfl rfl rfl (fun w_ hB_ => r_load1 sc3 (hF.ev rfl) (cellB (hS.ext hB_).old (hc38 0 _ rfl))) ?_; clear hF a; intro a hF
  refine wq hF rfl rfl rfl (fun w_ hB_ => r_field fo31_5 (hF.ev rfl)) ?_; clear hF a; intro a hF
  refine wq hF rfl rfl rfl (fun w_ hB_ => r_load1 sc3 (hF.ev rfl) ((hS.ext hB_).box (i := 0) rfl rfl)) ?_; clear hF a; intro a hF
  refine wq_call hF rfl rfl rfl (fun w_ hB_ => r_call3 en52 (hF.ev rfl) ec (hF.ev rfl)) (fun w_ hB_ => in_c _ _ _) ?_; clear hF a; intro a hF
  refine wq hF rfl rfl rfl (fun w_ hB_ => r_not (hF.ev rfl)) ?_; clear hF a; intro a hF
  refine wq_mvs (A := [_]) hF rfl ?_; clear hF a; intro a hF
  apply wq_or (A := [_, _, _, _, _, _, _, _, _, _]) (pk := 54) hF (tc := 44) rfl
  ·
    intro hg44 a hF; try simp only [zb1, zb2, zb3, zb4, zb5, zb6, zb7, zb8] at hg44
    refine wq_take hF rfl rfl rfl rfl ?_
    refine wq hF rfl rfl rfl (fun w_ hB_ => r_field fo34_1 (hF.ev rfl)) ?_; clear hF a; intro a hF
    refine wq_take hF rfl rfl rfl rfl ?_
    refine wq hF rfl rfl rfl (fun w_ hB_ => r_load1 sc24 (hF.ev rfl) ((hS.ext hB_).box (i := 1) rfl rfl)) ?_; clear hF a; intro a hF
    refine wq_take hF rfl rfl rfl rfl ?_
    refine wq_call hF rfl rfl rfl (fun w_ hB_ => r_call0 en69 ) (fun w_ hB_ => implArenaCell_c) ?_; clear hF a; intro a hF
    refine wq_take hF rfl rfl rfl rfl ?_
    obtain ⟨g48, o48, m48, q48, hv48, hm48, hl48, hc48⟩ := Rd.atF (r0) (a := a) (X := .tmp 47) (hF.ev rfl) (by omega) (by omega)
    refine wq hF rfl rfl rfl (fun w_ hB_ => r_index sl24 ((hF.ev rfl).trans hv48) (hF.ev rfl) (by omega) (by first | omega | (simp at hm48; omega))) ?_; clear hF a; intro a hF
    refine wq_take hF rfl rfl rfl rfl ?_
    refine wq hF rfl rfl rfl (fun w_ hB_ => r_load1 sc3 (hF.ev rfl) (cellB (hS.ext hB_).old (hc48 0 _ rfl))) ?_; clear hF a; intro a hF
    refine wq_take hF rfl rfl rfl rfl ?_
    refine wq hF rfl rfl rfl (fun w_ hB_ => r_field fo31_2 (hF.ev rfl)) ?_; clear hF a; intro a hF
    refine wq_take hF rfl rfl rfl rfl ?_
    refine wq hF rfl rfl rfl (fun w_ hB_ => r_load1 sc3 (hF.ev rfl) ((hS.ext hB_).box (i := 0) rfl rfl)) ?_; clear hF a; intro a hF
    refine wq_take hF rfl rfl rfl rfl ?_
    refine wq_call hF rfl rfl rfl (fun w_ hB_ => r_call3 en52 (hF.ev rfl) ec (hF.ev rfl)) (fun w_ hB_ => in_c _ _ _) ?_; clear hF a; intro a hF
    refine wq_take hF rfl rfl rfl rfl ?_
    refine wq hF rfl rfl rfl (fun w_ hB_ => r_not (hF.ev rfl)) ?_; clear hF a; intro a hF
    refine wq hF rfl rfl rfl (fun w_ hB_ => r_pick_f (hF.ev rfl) (hF.ev rfl)) ?_; clear hF a; intro a hF
    exact wpQuiet_nil ((Fr.pre (A := [_, _, _, _, _, _, _, _, _, _]) hF rfl).keep hF (t := 54) rfl)
  ·
    intro hg44 a hF; try simp only [zb1, zb2, zb3, zb4, zb5, zb6, zb7, zb8] at hg44
    refine wq_mvs (A := [_, _, _, _, _, _, _, _, _]) hF rfl ?_; clear hF a; intro a hF
    refine wq hF rfl rfl rfl (fun w_ hB_ => r_pick_t (hF.ev rfl) ec) ?_; clear hF a; intro a hF
    exact wpQuiet_nil ((Fr.pre (A := [_, _, _, _, _, _, _, _, _, _]) hF rfl).keep hF (t := 54) rfl)
  clear hF a; intro a hF
  refine wq_mvs (A := [_]) hF rfl ?_; clear hF a; intro a hF
  apply wq_or (A := [_, _, _, _, _]) (pk := 60) hF (tc := 55) rfl
  ·
    intro hg55 a hF; try simp only [zb1, zb2, zb3, zb4, zb5, zb6, zb7, zb8] at hg55
    refine wq_take hF rfl rfl rfl rfl ?_
    refine wq hF rfl rfl rfl (fun w_ hB_ => r_field fo34_4 (hF.ev rfl)) ?_; clear hF a; intro a hF
    refine wq_take hF rfl rfl rfl rfl ?_
    refine wq hF rfl rfl rfl (fun w_ hB_ => r_load1 sc3 (hF.ev rfl) ((hS.ext hB_).box (i := 1) rfl rfl)) ?_; clear hF a; intro a hF
    refine wq_take hF rfl rfl rfl rfl ?_
    refine wq_call hF rfl rfl rfl (fun w_ hB_ => r_call3 en52 (hF.ev rfl) ec ec) (fun w_ hB_ => in_c _ _ _) ?_; clear hF a; intro a hF
    refine wq_take hF rfl rfl rfl rfl ?_
    refine wq hF rfl rfl rfl (fun w_ hB_ => r_not (hF.ev rfl)) ?_; clear hF a; intro a hF
    refine wq hF rfl rfl rfl (fun w_ hB_ => r_pick_f (hF.ev rfl) (hF.ev rfl)) ?_; clear hF a; intro a hF
    exact wpQuiet_nil ((Fr.pre (A := [_, _, _, _, _]) hF rfl).keep hF (t := 60) rfl)
  ·
    intro hg55 a hF; try simp only [zb1, zb2, zb3, zb4, zb5, zb6, zb7, zb8] at hg55
    refine wq_mvs (A := [_, _, _, _]) hF rfl ?_; clear hF a; intro a hF
    refine wq hF rfl rfl rfl (fun w_ hB_ => r_pick_t (hF.ev rfl) ec) ?_; clear hF a; intro a hF
    exact wpQuiet_nil ((Fr.pre (A := [_, _, _, _, _]) hF rfl).keep hF (t := 60) rfl)
  clear hF a; intro a hF
  refine wq_mvs (A := [_]) hF rfl ?_; clear hF a; intro a hF
  apply wq_or (A := [_, _, _, _, _]) (pk := 66) hF (tc := 61) rfl
  ·
    intro hg61 a hF; try simp only [zb1, zb2, zb3, zb4, zb5, zb6, zb7, zb8] at hg61
    refine wq_take hF rfl rfl rfl rfl ?_
    refine wq hF rfl rfl rfl (fun w_ hB_ => r_field fo34_5 (hF.ev rfl)) ?_; clear hF a; intro a hF
    refine wq_take hF rfl rfl rfl rfl ?_
    refine wq hF rfl rfl rfl (fun w_ hB_ => r_load1 sc3 (hF.ev rfl) ((hS.ext hB_).box (i := 1) rfl rfl)) ?_; clear hF a; intro a hF
    refine wq_take hF rfl rfl rfl rfl ?_
    refine wq_call hF rfl rfl rfl (fun w_ hB_ => r_call3 en52 (hF.ev rfl) ec ec) (fun w_ hB_ => in_c _ _ _) ?_; clear hF a; intro a hF
    refine wq_take hF rfl rfl rfl rfl ?_
    refine wq hF rfl rfl rfl (fun w_ hB_ => r_not (hF.ev rfl)) ?_; clear hF a; intro a hF
    refine wq hF rfl rfl rfl (fun w_ hB_ => r_pick_f (hF.ev rfl) (hF.ev rfl)) ?_; clear hF a; intro a hF
    exact wpQuiet_nil ((Fr.pre (A := [_, _, _, _, _]) hF rfl).keep hF (t := 66) rfl)
  ·
    intro hg61 a hF; try simp only [zb1, zb2, zb3, zb4, zb5, zb6, zb7, zb8] at hg61
    refine wq_mvs (A := [_, _, _, _]) hF rfl ?_; clear hF a; intro a hF
    refine wq hF rfl rfl rfl (fun w_ hB_ => r_pick_t (hF.ev rfl) ec) ?_; clear hF a; intro a hF
    exact wpQuiet_nil ((Fr.pre (A := [_, _, _, _, _]) hF rfl).keep hF (t := 66) rfl)
  clear hF a; intro a hF
  refine wq_mvs (A := [_]) hF rfl ?_; clear hF a; intro a hF
  apply wq_or (A := [_, _, _, _, _]) (pk := 72) hF (tc := 67) rfl
  ·
    intro hg67 a hF; try simp only [zb1, zb2, zb3, zb4, zb5, zb6, zb7, zb8] at hg67
    refine wq_take hF rfl rfl rfl rfl ?_
    refine wq hF rfl rfl rfl (fun w_ hB_ => r_field fo34_6 (hF.ev rfl)) ?_; clear hF a; intro a hF
    refine wq_take hF rfl rfl rfl rfl ?_
    refine wq hF rfl rfl rfl (fun w_ hB_ => r_load1 sc3 (hF.ev rfl) ((hS.ext hB_).box (i := 1) rfl rfl)) ?_; clear hF a; intro a hF
    refine wq_take hF rfl rfl rfl rfl ?_
    refine wq_call hF rfl rfl rfl (fun w_ hB_ => r_call3 en52 (hF.ev rfl) ec ec) (fun w_ hB_ => in_c _ _ _) ?_; clear hF a; intro a hF
    refine wq_take hF rfl rfl rfl rfl ?_
    refine wq hF rfl rfl rfl (fun w_ hB_ => r_not (hF.ev rfl)) ?_; clear hF a; intro a hF
    refine wq hF rfl rfl rfl (fun w_ hB_ => r_pick_f (hF.ev rfl) (hF.ev rfl)) ?_; clear hF a; intro a hF
    exact wpQuiet_nil ((Fr.pre (A := [_, _, _, _, _]) hF rfl).keep hF (t := 72) rfl)
  ·
    intro hg67 a hF; try simp only [zb1, zb2, zb3, zb4, zb5, zb6, zb7, zb8] at hg67
    refine wq_mvs (A := [_, _, _, _]) hF rfl ?_; clear hF a; intro a hF
    refine wq hF rfl rfl rfl (fun w_ hB_ => r_pick_t (hF.ev rfl) ec) ?_; clear hF a; intro a hF
    exact wpQuiet_nil ((Fr.pre (A := [_, _, _, _, _]) hF rfl).keep hF (t := 72) rfl)
  clear hF a; intro a hF
  refine wq_mvs (A := [_]) hF rfl ?_; clear hF a; intro a hF
  apply wq_or (A := [_, _, _, _, _]) (pk := 78) hF (tc := 73) rfl
  ·
    intro hg73 a hF; try simp only [zb1, zb2, zb3, zb4, zb5, zb6, zb7, zb8] at hg73
    refine wq_take hF rfl rfl rfl rfl ?_
    refine wq hF rfl rfl rfl (fun w_ hB_ => r_field fo34_7 (hF.ev rfl)) ?_; clear hF a; intro a hF
    refine wq_take hF rfl rfl rfl rfl ?_
    refine wq hF rfl rfl rfl (fun w_ hB_ => r_load1 sc3 (hF.ev rfl) ((hS.ext hB_).box (i := 1) rfl rfl)) ?_; clear hF a; intro a hF
    refine wq_take hF rfl rfl rfl rfl ?_
    refine wq_call hF rfl rfl rfl (fun w_ hB_ => r_call3 en52 (hF.ev rfl) ec ec) (fun w_ hB_ => in_c _ _ _) ?_; clear hF a; intro a hF
    refine wq_take hF rfl rfl rfl rfl ?_
    refine wq hF rfl rfl rfl (fun w_ hB_ => r_not (hF.ev rfl)) ?_; clear hF a; intro a hF
    refine wq hF rfl rfl rfl (fun w_ hB_ => r_pick_f (hF.ev rfl) (hF.ev rfl)) ?_; clear hF a; intro a hF
    exact wpQuiet_nil ((Fr.pre (A := [_, _, _, _, _]) hF rfl).keep hF (t := 78) rfl)
  ·
    intro hg73 a hF; try simp only [zb1, zb2, zb3, zb4, zb5, zb6, zb7, zb8] at hg73
    refine wq_mvs (A := [_, _, _, _]) hF rfl ?_; clear hF a; intro a hF
    refine wq hF rfl rfl rfl (fun w_ hB_ => r_pick_t (hF.ev rfl) ec) ?_; clear hF a; intro a hF
    exact wpQuiet_nil ((Fr.pre (A := [_, _, _, _, _]) hF rfl).keep hF (t := 78) rfl)
  clear hF a; intro a hF
  refine wpQuiet_nil ?_; intro w13 hB_; replace hS := hS.ext hB_; clear hB_
  refine hK7 _ _ ?_
  refine wc_fx (t := 78) hF rfl ?_ ?_ <;> clear hF <;> intro c78 hF <;> try simp only [zb1, zb2, zb3, zb4, zb5, zb6, zb7, zb8] at c78
  ·
    refine ws fun K8 hK8 => ?_
    refine wl_mvs (A := [_]) hF rfl ?_; clear hF a; intro a hF
    refine wl_nil (hK8 _ _ ?_)
    refine wp_ret ?_
    try simp only [Exit.then, Exit.inBlock, ↓reduceIte]
    refine ret1 rfl hF rfl ⟨congrArg Value.bool (Eq.symm ?_), hS.old⟩
    first
      | exact st_heads (range_no (by omega) c93)
      | exact st_shape fun h => by
          unfold shapeOk at h
          rcases c34 with ((c | c) | c) | c
          · exact c h.1
          · exact c h.2.1
          · exact c h.2.2.1
          · exact c h.2.2.2
      | (rcases c130 with (c | c) | c
         · exact st_gens (range_no (by omega) (decide_eq_false c))
         · exact st_nodes (range_no (k := k) (by omega) (Bool.and_eq_false_iff.2 (.inr (decide_eq_false c))))
         · exact st_nodes (range_no (k := k) (by omega) (Bool.and_eq_false_iff.2 (.inl (isLink_unmarked ▸ c)))))
      | (rw [st_yes ⟨hok, hl1, hl2, hl3⟩ (all_done hg (by rw [List.length_range]; omega)) (all_done hn (by rw [List.length_range]; omega)) (all_done hv (by rw [List.length_range]; omega)), any_not, Bool.not_not, decide_eq_true (show countsOk s from by unfold countsOk; omega), Bool.and_true])
      | exact st_counts fun h => by unfold countsOk at h; omega
  refine wp_skip ?_
  refine hK6 _ _ ?_
  refine wp_seq_k fun K9 hK9 => ?_
  refine ws fun K10 hK10 => ?_
  refine wl hF rfl rfl rfl (r_field fo31_1 (hF.ev rfl)) ?_; clear hF a; intro a hF
  refine wl hF rfl rfl rfl (r_load1 sc3 (hF.ev rfl) (hS.box (i := 0) rfl rfl)) ?_; clear hF a; intro a hF
  refine wl_mvs (A := [_]) hF rfl ?_; clear hF a; intro a hF
  refine wl_nil (hK10 _ _ ?_)
  refine wp_block ?_
  have hL_ := ((((hF.nil.keep hF (t := 80) rfl).keep hF (t := 3) rfl).keep hF (t := 2) rfl).keep hF (t := 1) rfl)
  refine wp_loop_r (σ := Nat) (fun k L_ => (81, vi k) :: L_) (fun k => (k ≤ s.config.keys.toNat) ∧ (((List.range s.config.keys.toNat).take k).all (fun k => isLink s.config (at0 s.cells (headCell s.config (k : Int)))) = true)) (fun k => s.config.keys.toNat - k) 0 hS (hL_.keepE hF (t := 81) rfl rfl) ?_ ?_
  · exact ⟨Nat.zero_le _, rfl⟩
  clear hF hS hL_ a
  rintro k a w14 ⟨hk, hn⟩ hS hF; try dsimp only at hF; try dsimp only at hS
  refine ws fun K11 hK11 => ?_
  refine wl hF rfl rfl rfl (r_lss (hF.ev rfl) (hF.ev rfl)) ?_; clear hF a; intro a hF
  refine wl_nil (hK11 _ _ ?_)
  refine wp_seq_k fun K12 hK12 => ?_
  refine wc_fx (t := 82) hF rfl ?_ ?_ <;> clear hF <;> intro c82 hF <;> try simp only [zb1, zb2, zb3, zb4, zb5, zb6, zb7, zb8] at c82
  ·
    have hd := headCell_eq hok (k := (k : Int)) (by omega) (by omega)
    have h1 : int64 (at0 s.cells (headCell s.config (k : Int))) := wcells _ (at0_mem (by omega) (by omega))
    refine wp_skip ?_
    refine hK12 _ _ ?_
    refine wp_seq_k fun K13 hK13 => ?_
    refine wp_block ?_
    refine ws fun K14 hK14 => ?_
    refine wl_mvs (A := [_, _]) hF rfl ?_; clear hF a; intro a hF
    refine wl_nil (hK14 _ _ ?_)
    refine wp_seq_k fun K15 hK15 => ?_
    refine wp_region_calm (by kernel_rfl) (by kernel_rfl) ?_
    refine wq hF rfl rfl rfl (fun w_ hB_ => r_loadn ag31 (hF.ev rfl) ((hS.ext hB_).box_rd (i := 0) rfl) sz31) ?_; clear hF a; intro a hF
    refine wq hF rfl rfl rfl (fun w_ hB_ => r_field fo34_1 (hF.ev rfl)) ?_; clear hF a; intro a hF
    refine wq hF rfl rfl rfl (fun w_ hB_ => r_load1 sc24 (hF.ev rfl) ((hS.ext hB_).box (i := 1) rfl rfl)) ?_; clear hF a; intro a hF
    refine wq hF rfl rfl rfl (fun w_ hB_ => r_loadn ag31 (hF.ev rfl) ((hS.ext hB_).box_rd (i := 0) rfl) sz31) ?_; clear hF a; intro a hF
    refine wq_mvs (A := [_]) hF rfl ?_; clear hF a; intro a hF
    refine wq_call hF rfl rfl rfl (fun w_ hB_ => r_call2 en71 (hF.ev rfl) (hF.ev rfl)) (fun w_ hB_ => implHeadCell_c _ _) ?_; clear hF a; intro a hF
    obtain ⟨g90, o90, m90, q90, hv90, hm90, hl90, hc90⟩ := Rd.atF (r0) (a := a) (X := .tmp 89) (hF.ev rfl) (by omega) (by omega)
    refine wq hF rfl rfl rfl (fun w_ hB_ => r_index sl24 ((hF.ev rfl).trans hv90) (hF.ev rfl) (by omega) (by first | omega | (simp at hm90; omega))) ?_; clear hF a; intro a hF
    refine wq hF rfl rfl rfl (fun w_ hB_ => r_load1 sc3 (hF.ev rfl) (cellB (hS.ext hB_).old (hc90 0 _ rfl))) ?_; clear hF a; intro a hF
    refine wq_call hF rfl rfl rfl (fun w_ hB_ => r_call2 en70 (hF.ev rfl) (hF.ev rfl)) (fun w_ hB_ => isLink_c h1) ?_; clear hF a; intro a hF
    refine wq hF rfl rfl rfl (fun w_ hB_ => r_not (hF.ev rfl)) ?_; clear hF a; intro a hF
    refine wpQuiet_nil ?_; intro w15 hB_; replace hS := hS.ext hB_; clear hB_
    refine hK15 _ _ ?_
    refine wc_fx (t := 93) hF rfl ?_ ?_ <;> clear hF <;> intro c93 hF <;> try simp only [zb1, zb2, zb3, zb4, zb5, zb6, zb7, zb8] at c93
    ·
      refine ws fun K16 hK16 => ?_
      refine wl_mvs (A := [_]) hF rfl ?_; clear hF a; intro a hF
      refine wl_nil (hK16 _ _ ?_)
      refine wp_ret ?_
      try simp only [Exit.then, Exit.inBlock, ↓reduceIte]
      refine ret1 rfl hF rfl ⟨congrArg Value.bool (Eq.symm ?_), hS.old⟩
      first
        | exact st_heads (range_no (by omega) c93)
        | exact st_shape fun h => by
            unfold shapeOk at h
            rcases c34 with ((c | c) | c) | c
            · exact c h.1
            · exact c h.2.1
            · exact c h.2.2.1
            · exact c h.2.2.2
        | (rcases c130 with (c | c) | c
           · exact st_gens (range_no (by omega) (decide_eq_false c))
           · exact st_nodes (range_no (k := k) (by omega) (Bool.and_eq_false_iff.2 (.inr (decide_eq_false c))))
           · exact st_nodes (range_no (k := k) (by omega) (Bool.and_eq_false_iff.2 (.inl (isLink_unmarked ▸ c)))))
        | (rw [st_yes ⟨hok, hl1, hl2, hl3⟩ (all_done hg (by rw [List.length_range]; omega)) (all_done hn (by rw [List.length_range]; omega)) (all_done hv (by rw [List.length_range]; omega)), any_not, Bool.not_not, decide_eq_true (show countsOk s from by unfold countsOk; omega), Bool.and_true])
        | exact st_counts fun h => by unfold countsOk at h; omega
    refine wp_skip ?_
    simp only [Exit.then, Exit.inBlock, ↓reduceIte]
    refine hK13 _ _ ?_
    refine wp_region_lit ?_
    refine wl hF rfl rfl rfl (r_add (hF.ev rfl) ec) ?_; clear hF a; intro a hF
    refine wl_mvs (A := [_]) hF rfl ?_; clear hF a; intro a hF
    refine wl_nil ?_
    try simp only [Exit.then, Exit.inBlock, ↓reduceIte]
    refine ⟨k + 1, ⟨by omega, all_nxt hn (range_at (by omega)) c93⟩, hS, (((((hF.nil.keep hF (t := 80) rfl).keep hF (t := 3) rfl).keep hF (t := 2) rfl).keep hF (t := 1) rfl).keepE hF (t := 81) rfl (wk (by omega))), by omega⟩
  refine wp_exit ?_
  simp only [Exit.then, Exit.inBlock, ↓reduceIte]
  refine hK9 _ _ ?_
  refine wp_seq_k fun K17 hK17 => ?_
  refine ws fun K18 hK18 => ?_
  refine wl hF rfl rfl rfl (r_field fo31_2 (hF.ev rfl)) ?_; clear hF a; intro a hF
  refine wl hF rfl rfl rfl (r_load1 sc3 (hF.ev rfl) (hS.box (i := 0) rfl rfl)) ?_; clear hF a; intro a hF
  refine wl_mvs (A := [_]) hF rfl ?_; clear hF a; intro a hF
  refine wl_nil (hK18 _ _ ?_)
  refine wp_block ?_
  have hL_ := ((((hF.nil.keep hF (t := 96) rfl).keep hF (t := 3) rfl).keep hF (t := 2) rfl).keep hF (t := 1) rfl)
  refine wp_loop_r (σ := Nat) (fun k L_ => (97, vi k) :: L_) (fun k => (k ≤ s.config.capacity.toNat) ∧ (((List.range s.config.capacity.toNat).take k).all (fun k => decide (0 ≤ at0 s.generations (k : Int) ∧ at0 s.generations (k : Int) ≤ 9998)) = true) ∧ (((List.range s.config.capacity.toNat).take k).all (fun k => zeroOk s.config (at0 s.cells (nodeCell s.config (k : Int) 2)) && decide (0 ≤ at0 s.cells (nodeCell s.config (k : Int) 0) ∧ at0 s.cells (nodeCell s.config (k : Int) 0) ≤ 99)) = true)) (fun k => s.config.capacity.toNat - k) 0 hS (hL_.keepE hF (t := 97) rfl rfl) ?_ ?_
  · exact ⟨Nat.zero_le _, rfl, rfl⟩
  clear hF hS hL_ a
  rintro k a w16 ⟨hk, hg, hv⟩ hS hF; try dsimp only at hF; try dsimp only at hS
  refine ws fun K19 hK19 => ?_
  refine wl hF rfl rfl rfl (r_lss (hF.ev rfl) (hF.ev rfl)) ?_; clear hF a; intro a hF
  refine wl_nil (hK19 _ _ ?_)
  refine wp_seq_k fun K20 hK20 => ?_
  refine wc_fx (t := 98) hF rfl ?_ ?_ <;> clear hF <;> intro c98 hF <;> try simp only [zb1, zb2, zb3, zb4, zb5, zb6, zb7, zb8] at c98
  ·
    have hn0 := nodeCell_eq hok (i := (k : Int)) (f := 0) (by omega) (by omega) (by omega) (by omega)
    have hn2 := nodeCell_eq hok (i := (k : Int)) (f := 2) (by omega) (by omega) (by omega) (by omega)
    have h1 : int64 (at0 s.cells (nodeCell s.config (k : Int) 2)) := wcells _ (at0_mem (by omega) (by omega))
    refine wp_skip ?_
    refine hK20 _ _ ?_
    refine wp_seq_k fun K21 hK21 => ?_
    refine wp_block ?_
    refine ws fun K22 hK22 => ?_
    refine wl_mvs (A := [_, _]) hF rfl ?_; clear hF a; intro a hF
    refine wl_nil (hK22 _ _ ?_)
    refine wp_seq_k fun K23 hK23 => ?_
    refine wp_region_calm (by kernel_rfl) (by kernel_rfl) ?_
    refine wq hF rfl rfl rfl (fun w_ hB_ => r_field fo34_2 (hF.ev rfl)) ?_; clear hF a; intro a hF
    refine wq hF rfl rfl rfl (fun w_ hB_ => r_load1 sc24 (hF.ev rfl) ((hS.ext hB_).box (i := 1) rfl rfl)) ?_; clear hF a; intro a hF
    refine wq_mvs (A := [_]) hF rfl ?_; clear hF a; intro a hF
    obtain ⟨g103, o103, m103, q103, hv103, hm103, hl103, hc103⟩ := Rd.atF (r1) (a := a) (X := .tmp 102) (hF.ev rfl) (by omega) (by omega)
    refine wq hF rfl rfl rfl (fun w_ hB_ => r_index sl24 ((hF.ev rfl).trans hv103) (hF.ev rfl) (by omega) (by first | omega | (simp at hm103; omega))) ?_; clear hF a; intro a hF
    refine wq hF rfl rfl rfl (fun w_ hB_ => r_load1 sc3 (hF.ev rfl) (cellB (hS.ext hB_).old (hc103 0 _ rfl))) ?_; clear hF a; intro a hF
    refine wq_call hF rfl rfl rfl (fun w_ hB_ => r_call3 en52 (hF.ev rfl) ec ec) (fun w_ hB_ => in_c _ _ _) ?_; clear hF a; intro a hF
    refine wq hF rfl rfl rfl (fun w_ hB_ => r_not (hF.ev rfl)) ?_; clear hF a; intro a hF
    refine wq_mvs (A := [_]) hF rfl ?_; clear hF a; intro a hF
    apply wq_or (A := [_, _, _, _, _, _, _, _, _, _]) (pk := 117) hF (tc := 107) rfl
    ·
      intro hg107 a hF; try simp only [zb1, zb2, zb3, zb4, zb5, zb6, zb7, zb8] at hg107
      refine wq_take hF rfl rfl rfl rfl ?_
      refine wq hF rfl rfl rfl (fun w_ hB_ => r_field fo34_1 (hF.ev rfl)) ?_; clear hF a; intro a hF
      refine wq_take hF rfl rfl rfl rfl ?_
      refine wq hF rfl rfl rfl (fun w_ hB_ => r_load1 sc24 (hF.ev rfl) ((hS.ext hB_).box (i := 1) rfl rfl)) ?_; clear hF a; intro a hF
      refine wq_take hF rfl rfl rfl rfl ?_
      refine wq hF rfl rfl rfl (fun w_ hB_ => r_loadn ag31 (hF.ev rfl) ((hS.ext hB_).box_rd (i := 0) rfl) sz31) ?_; clear hF a; intro a hF
      refine wq_mvs (A := [_]) hF rfl ?_; clear hF a; intro a hF
      refine wq_take hF rfl rfl rfl rfl ?_
      refine wq_call hF rfl rfl rfl (fun w_ hB_ => r_call3 en72 (hF.ev rfl) (hF.ev rfl) ec) (fun w_ hB_ => implNodeCell_c _ _ _) ?_; clear hF a; intro a hF
      refine wq_take hF rfl rfl rfl rfl ?_
      obtain ⟨g113, o113, m113, q113, hv113, hm113, hl113, hc113⟩ := Rd.atF (r0) (a := a) (X := .tmp 112) (hF.ev rfl) (by omega) (by omega)
      refine wq hF rfl rfl rfl (fun w_ hB_ => r_index sl24 ((hF.ev rfl).trans hv113) (hF.ev rfl) (by omega) (by first | omega | (simp at hm113; omega))) ?_; clear hF a; intro a hF
      refine wq_take hF rfl rfl rfl rfl ?_
      refine wq hF rfl rfl rfl (fun w_ hB_ => r_load1 sc3 (hF.ev rfl) (cellB (hS.ext hB_).old (hc113 0 _ rfl))) ?_; clear hF a; intro a hF
      refine wq_take hF rfl rfl rfl rfl ?_
      refine wq_call hF rfl rfl rfl (fun w_ hB_ => r_call3 en52 (hF.ev rfl) ec ec) (fun w_ hB_ => in_c _ _ _) ?_; clear hF a; intro a hF
      refine wq_take hF rfl rfl rfl rfl ?_
      refine wq hF rfl rfl rfl (fun w_ hB_ => r_not (hF.ev rfl)) ?_; clear hF a; intro a hF
      refine wq hF rfl rfl rfl (fun w_ hB_ => r_pick_f (hF.ev rfl) (hF.ev rfl)) ?_; clear hF a; intro a hF
      exact wpQuiet_nil ((Fr.pre (A := [_, _, _, _, _, _, _, _, _, _]) hF rfl).keep hF (t := 117) rfl)
    ·
      intro hg107 a hF; try simp only [zb1, zb2, zb3, zb4, zb5, zb6, zb7, zb8] at hg107
      refine wq_mvs (A := [_, _, _, _, _, _, _, _, _]) hF rfl ?_; clear hF a; intro a hF
      refine wq hF rfl rfl rfl (fun w_ hB_ => r_pick_t (hF.ev rfl) ec) ?_; clear hF a; intro a hF
      exact wpQuiet_nil ((Fr.pre (A := [_, _, _, _, _, _, _, _, _, _]) hF rfl).keep hF (t := 117) rfl)
    clear hF a; intro a hF
    refine wq_mvs (A := [_]) hF rfl ?_; clear hF a; intro a hF
    apply wq_or (A := [_, _, _, _, _, _, _, _, _, _, _, _]) (pk := 130) hF (tc := 118) rfl
    ·
      intro hg118 a hF; try simp only [zb1, zb2, zb3, zb4, zb5, zb6, zb7, zb8] at hg118
      refine wq_take hF rfl rfl rfl rfl ?_
      refine wq hF rfl rfl rfl (fun w_ hB_ => r_loadn ag31 (hF.ev rfl) ((hS.ext hB_).box_rd (i := 0) rfl) sz31) ?_; clear hF a; intro a hF
      refine wq_take hF rfl rfl rfl rfl ?_
      refine wq hF rfl rfl rfl (fun w_ hB_ => r_field fo34_1 (hF.ev rfl)) ?_; clear hF a; intro a hF
      refine wq_take hF rfl rfl rfl rfl ?_
      refine wq hF rfl rfl rfl (fun w_ hB_ => r_load1 sc24 (hF.ev rfl) ((hS.ext hB_).box (i := 1) rfl rfl)) ?_; clear hF a; intro a hF
      refine wq_take hF rfl rfl rfl rfl ?_
      refine wq hF rfl rfl rfl (fun w_ hB_ => r_loadn ag31 (hF.ev rfl) ((hS.ext hB_).box_rd (i := 0) rfl) sz31) ?_; clear hF a; intro a hF
      refine wq_mvs (A := [_]) hF rfl ?_; clear hF a; intro a hF
      refine wq_take hF rfl rfl rfl rfl ?_
      refine wq_call hF rfl rfl rfl (fun w_ hB_ => r_call3 en72 (hF.ev rfl) (hF.ev rfl) ec) (fun w_ hB_ => implNodeCell_c _ _ _) ?_; clear hF a; intro a hF
      refine wq_take hF rfl rfl rfl rfl ?_
      obtain ⟨g125, o125, m125, q125, hv125, hm125, hl125, hc125⟩ := Rd.atF (r0) (a := a) (X := .tmp 124) (hF.ev rfl) (by omega) (by omega)
      refine wq hF rfl rfl rfl (fun w_ hB_ => r_index sl24 ((hF.ev rfl).trans hv125) (hF.ev rfl) (by omega) (by first | omega | (simp at hm125; omega))) ?_; clear hF a; intro a hF
      refine wq_take hF rfl rfl rfl rfl ?_
      refine wq hF rfl rfl rfl (fun w_ hB_ => r_load1 sc3 (hF.ev rfl) (cellB (hS.ext hB_).old (hc125 0 _ rfl))) ?_; clear hF a; intro a hF
      refine wq_take hF rfl rfl rfl rfl ?_
      refine wq_call hF rfl rfl rfl (fun w_ hB_ => r_call1 en73 (hF.ev rfl)) (fun w_ hB_ => implUnmarked_c h1) ?_; clear hF a; intro a hF
      refine wq_take hF rfl rfl rfl rfl ?_
      refine wq_call hF rfl rfl rfl (fun w_ hB_ => r_call2 en70 (hF.ev rfl) (hF.ev rfl)) (fun w_ hB_ => isLink_c (int64_unmarked h1)) ?_; clear hF a; intro a hF
      refine wq_take hF rfl rfl rfl rfl ?_
      refine wq hF rfl rfl rfl (fun w_ hB_ => r_not (hF.ev rfl)) ?_; clear hF a; intro a hF
      refine wq hF rfl rfl rfl (fun w_ hB_ => r_pick_f (hF.ev rfl) (hF.ev rfl)) ?_; clear hF a; intro a hF
      exact wpQuiet_nil ((Fr.pre (A := [_, _, _, _, _, _, _, _, _, _, _, _]) hF rfl).keep hF (t := 130) rfl)
    ·
      intro hg118 a hF; try simp only [zb1, zb2, zb3, zb4, zb5, zb6, zb7, zb8] at hg118
      refine wq_mvs (A := [_, _, _, _, _, _, _, _, _, _, _]) hF rfl ?_; clear hF a; intro a hF
      refine wq hF rfl rfl rfl (fun w_ hB_ => r_pick_t (hF.ev rfl) ec) ?_; clear hF a; intro a hF
      exact wpQuiet_nil ((Fr.pre (A := [_, _, _, _, _, _, _, _, _, _, _, _]) hF rfl).keep hF (t := 130) rfl)
    clear hF a; intro a hF
    refine wpQuiet_nil ?_; intro w19 hB_; replace hS := hS.ext hB_; clear hB_
    refine hK23 _ _ ?_
    refine wc_fx (t := 130) hF rfl ?_ ?_ <;> clear hF <;> intro c130 hF <;> try simp only [zb1, zb2, zb3, zb4, zb5, zb6, zb7, zb8] at c130
    ·
      refine ws fun K24 hK24 => ?_
      refine wl_mvs (A := [_]) hF rfl ?_; clear hF a; intro a hF
      refine wl_nil (hK24 _ _ ?_)
      refine wp_ret ?_
      try simp only [Exit.then, Exit.inBlock, ↓reduceIte]
      refine ret1 rfl hF rfl ⟨congrArg Value.bool (Eq.symm ?_), hS.old⟩
      first
        | exact st_heads (range_no (by omega) c93)
        | exact st_shape fun h => by
            unfold shapeOk at h
            rcases c34 with ((c | c) | c) | c
            · exact c h.1
            · exact c h.2.1
            · exact c h.2.2.1
            · exact c h.2.2.2
        | (rcases c130 with (c | c) | c
           · exact st_gens (range_no (by omega) (decide_eq_false c))
           · exact st_nodes (range_no (k := k) (by omega) (Bool.and_eq_false_iff.2 (.inr (decide_eq_false c))))
           · exact st_nodes (range_no (k := k) (by omega) (Bool.and_eq_false_iff.2 (.inl (isLink_unmarked ▸ c)))))
        | (rw [st_yes ⟨hok, hl1, hl2, hl3⟩ (all_done hg (by rw [List.length_range]; omega)) (all_done hn (by rw [List.length_range]; omega)) (all_done hv (by rw [List.length_range]; omega)), any_not, Bool.not_not, decide_eq_true (show countsOk s from by unfold countsOk; omega), Bool.and_true])
        | exact st_counts fun h => by unfold countsOk at h; omega
    refine wp_skip ?_
    simp only [Exit.then, Exit.inBlock, ↓reduceIte]
    refine hK21 _ _ ?_
    refine wp_region_lit ?_
    refine wl hF rfl rfl rfl (r_add (hF.ev rfl) ec) ?_; clear hF a; intro a hF
    refine wl_mvs (A := [_]) hF rfl ?_; clear hF a; intro a hF
    refine wl_nil ?_
    try simp only [Exit.then, Exit.inBlock, ↓reduceIte]
    refine ⟨k + 1, ⟨by omega, all_nxt hg (range_at (by omega)) (decide_eq_true c130.1.1), all_nxt hv (range_at (by omega)) (by rw [← isLink_unmarked, c130.2, decide_eq_true c130.1.2]; rfl)⟩, hS, (((((hF.nil.keep hF (t := 96) rfl).keep hF (t := 3) rfl).keep hF (t := 2) rfl).keep hF (t := 1) rfl).keepE hF (t := 97) rfl (wk (by omega))), by omega⟩
  refine wp_exit ?_
  simp only [Exit.then, Exit.inBlock, ↓reduceIte]
  refine hK17 _ _ ?_
  refine ws fun K25 hK25 => ?_
  refine wl hF rfl rfl rfl (r_field fo34_3 (hF.ev rfl)) ?_; clear hF a; intro a hF
  refine wl hF rfl rfl rfl (r_load1 sc32 (hF.ev rfl) (hS.box (i := 1) rfl rfl)) ?_; clear hF a; intro a hF
  refine wl hF rfl rfl rfl (r_makeFunc (by simp only [List.map_toArray, List.map_cons, List.map_nil]; rw [hF.ev rfl])) ?_; clear hF a; intro a hF
  refine wl_call hF rfl rfl rfl (r_call2 en74 (hF.ev rfl) (hF.ev rfl)) (containsFuncT_c (p := fun t => !threadOk s.config t) (cap := #[.pointer (some ⟨g2, 0, none⟩)]) (hS.rd r2) (by kernel_rfl) (fun w_ cs x hx hB hk => by rw [app_1]; exact isState1_c hk (wthr x hx) hok (fun j u hu => cellB hB (hS.box_rd (i := 0) rfl j u hu)))) ?_; clear hF a; rintro v w20 a ⟨rfl, hB_⟩ hF; replace hS := hS.ext hB_; clear hB_
  refine wl hF rfl rfl rfl (r_not (hF.ev rfl)) ?_; clear hF a; intro a hF
  refine wl_mvs (A := [_]) hF rfl ?_; clear hF a; intro a hF
  refine wl_nil (hK25 _ _ ?_)
  refine wp_ret ?_
  try simp only [Exit.then, Exit.inBlock, ↓reduceIte]
  refine ret1 rfl hF rfl ⟨congrArg Value.bool (Eq.symm ?_), hS.old⟩
  first
    | exact st_heads (range_no (by omega) c93)
    | exact st_shape fun h => by
        unfold shapeOk at h
        rcases c34 with ((c | c) | c) | c
        · exact c h.1
        · exact c h.2.1
        · exact c h.2.2.1
        · exact c h.2.2.2
    | (rcases c130 with (c | c) | c
       · exact st_gens (range_no (by omega) (decide_eq_false c))
       · exact st_nodes (range_no (k := k) (by omega) (Bool.and_eq_false_iff.2 (.inr (decide_eq_false c))))
       · exact st_nodes (range_no (k := k) (by omega) (Bool.and_eq_false_iff.2 (.inl (isLink_unmarked ▸ c)))))
    | (rw [st_yes ⟨hok, hl1, hl2, hl3⟩ (all_done hg (by rw [List.length_range]; omega)) (all_done hn (by rw [List.length_range]; omega)) (all_done hv (by rw [List.length_range]; omega)), any_not, Bool.not_not, decide_eq_true (show countsOk s from by unfold countsOk; omega), Bool.and_true])
    | exact st_counts fun h => by unfold countsOk at h; omega
end Go.Proofs.Ytifhfodphoeeoaa.Wk
namespace Go.Proofs.Ytifhfodphoeeoaa.Wk
open Go Go.RowKit Sl
set_option linter.unusedVariables false
set_option linter.unusedSimpArgs false
set_option maxRecDepth 20000
set_option maxHeartbeats 4000000 in
set_option maxRecDepth 20000 in
theorem specIsState_c {W : World} {s : Sl.State} {cs : List Value} (hm : stateEK.K W s cs) (hw : s.wf) (hz : (s.size : Int) ≤ 1048576) : Calls Try.prog 15 #[.agg cs.toArray] W (Ret fun v w' => v = .bool (stateOk s) ∧ Below W.heap.size W w') := by
  refine calls_fr Try.func15 rfl Try.ntmps15 rfl ?_
  intro a hF
  have hS := Sep.refl W
  obtain ⟨v0, v1, v2, rfl, r0, r1, r2⟩ := hm
  obtain ⟨A_a, q_a, rfl, hq_a, hn_a⟩ := r0.sl; unfold maxLen at hn_a
  obtain ⟨A_b, q_b, rfl, hq_b, hn_b⟩ := r1.sl; unfold maxLen at hn_b
  obtain ⟨A_c, q_c, rfl, hq_c, hn_c⟩ := r2.sl; unfold maxLen at hn_c
  obtain ⟨wcfg, wcells, wgens, wthr, wsteps, wchanges, wretries, wfaults⟩ := hw
  have hz1 := hz; unfold Sl.State.size at hz1
  refine ws fun K1 hK1 => ?_
  refine wl_box (cs := [_, _, _, _, _, _, _, _, _, _, _, _, _]) hF hS rfl (hF.ev rfl) rfl ?_; clear hF a; intro g1 w1 a hS_ hB_ hF; replace hS := hS_; clear hS_ hB_
  refine wl_mvs (A := [_]) hF rfl ?_; clear hF a; intro a hF
  refine wl_nil (hK1 _ _ ?_)
  refine wp_seq_k fun K2 hK2 => ?_
  refine wp_seq_k fun K3 hK3 => ?_
  refine wp_region_calm (by kernel_rfl) (by kernel_rfl) ?_
  refine wq hF rfl rfl rfl (fun w_ hB_ => r_field fo34_0 (hF.ev rfl)) ?_; clear hF a; intro a hF
  refine wq hF rfl rfl rfl (fun w_ hB_ => r_loadn ag31 (hF.ev rfl) ((hS.ext hB_).boxn (vs := [_, _, _, _, _, _]) (i := 0) (m := 6) rfl rfl) sz31) ?_; clear hF a; intro a hF
  refine wq_call hF rfl rfl rfl (fun w_ hB_ => r_call1 en40 (hF.ev rfl)) (fun w_ hB_ => specIsConfig_c _) ?_; clear hF a; intro a hF
  refine wq hF rfl rfl rfl (fun w_ hB_ => r_not (hF.ev rfl)) ?_; clear hF a; intro a hF
  refine wq_mvs (A := [_]) hF rfl ?_; clear hF a; intro a hF
  apply wq_or (A := [_, _, _, _, _, _, _, _]) (pk := 20) hF (tc := 12) rfl
  ·
    intro hg12 a hF; try simp only [zb1, zb2, zb3, zb4, zb5, zb6, zb7, zb8] at hg12
    refine wq_take hF rfl rfl rfl rfl ?_
    refine wq hF rfl rfl rfl (fun w_ hB_ => r_field fo34_1 (hF.ev rfl)) ?_; clear hF a; intro a hF
    refine wq_take hF rfl rfl rfl rfl ?_
    refine wq hF rfl rfl rfl (fun w_ hB_ => r_load1 sc24 (hF.ev rfl) ((hS.ext hB_).box (i := 0) rfl rfl)) ?_; clear hF a; intro a hF
    refine wq_take hF rfl rfl rfl rfl ?_
    refine wq hF rfl rfl rfl (fun w_ hB_ => r_len ul24 (hF.ev rfl)) ?_; clear hF a; intro a hF
    refine wq_take hF rfl rfl rfl rfl ?_
    refine wq hF rfl rfl rfl (fun w_ hB_ => r_field fo34_0 (hF.ev rfl)) ?_; clear hF a; intro a hF
    refine wq_take hF rfl rfl rfl rfl ?_
    refine wq hF rfl rfl rfl (fun w_ hB_ => r_loadn ag31 (hF.ev rfl) ((hS.ext hB_).boxn (vs := [_, _, _, _, _, _]) (i := 0) (m := 6) rfl rfl) sz31) ?_; clear hF a; intro a hF
    refine wq_take hF rfl rfl rfl rfl ?_
    refine wq_call hF rfl rfl rfl (fun w_ hB_ => r_call1 en41 (hF.ev rfl)) (fun w_ hB_ => specCellCount_c _) ?_; clear hF a; intro a hF
    refine wq_take hF rfl rfl rfl rfl ?_
    refine wq hF rfl rfl rfl (fun w_ hB_ => r_neq (hF.ev rfl) (hF.ev rfl)) ?_; clear hF a; intro a hF
    refine wq hF rfl rfl rfl (fun w_ hB_ => r_pick_f (hF.ev rfl) (hF.ev rfl)) ?_; clear hF a; intro a hF
    exact wpQuiet_nil ((Fr.pre (A := [_, _, _, _, _, _, _, _]) hF rfl).keep hF (t := 20) rfl)
  ·
    intro hg12 a hF; try simp only [zb1, zb2, zb3, zb4, zb5, zb6, zb7, zb8] at hg12
    refine wq_mvs (A := [_, _, _, _, _, _, _]) hF rfl ?_; clear hF a; intro a hF
    refine wq hF rfl rfl rfl (fun w_ hB_ => r_pick_t (hF.ev rfl) ec) ?_; clear hF a; intro a hF
    exact wpQuiet_nil ((Fr.pre (A := [_, _, _, _, _, _, _, _]) hF rfl).keep hF (t := 20) rfl)
  clear hF a; intro a hF
  refine wq_mvs (A := [_]) hF rfl ?_; clear hF a; intro a hF
  apply wq_or (A := [_, _, _, _, _, _, _, _]) (pk := 29) hF (tc := 21) rfl
  ·
    intro hg21 a hF; try simp only [zb1, zb2, zb3, zb4, zb5, zb6, zb7, zb8] at hg21
    refine wq_take hF rfl rfl rfl rfl ?_
    refine wq hF rfl rfl rfl (fun w_ hB_ => r_field fo34_2 (hF.ev rfl)) ?_; clear hF a; intro a hF
    refine wq_take hF rfl rfl rfl rfl ?_
    refine wq hF rfl rfl rfl (fun w_ hB_ => r_load1 sc24 (hF.ev rfl) ((hS.ext hB_).box (i := 0) rfl rfl)) ?_; clear hF a; intro a hF
    refine wq_take hF rfl rfl rfl rfl ?_
    refine wq hF rfl rfl rfl (fun w_ hB_ => r_len ul24 (hF.ev rfl)) ?_; clear hF a; intro a hF
    refine wq_take hF rfl rfl rfl rfl ?_
    refine wq hF rfl rfl rfl (fun w_ hB_ => r_field fo34_0 (hF.ev rfl)) ?_; clear hF a; intro a hF
    refine wq_take hF rfl rfl rfl rfl ?_
    refine wq hF rfl rfl rfl (fun w_ hB_ => r_field fo31_2 (hF.ev rfl)) ?_; clear hF a; intro a hF
    refine wq_take hF rfl rfl rfl rfl ?_
    refine wq hF rfl rfl rfl (fun w_ hB_ => r_load1 sc3 (hF.ev rfl) ((hS.ext hB_).box (i := 0) rfl rfl)) ?_; clear hF a; intro a hF
    refine wq_take hF rfl rfl rfl rfl ?_
    refine wq hF rfl rfl rfl (fun w_ hB_ => r_neq (hF.ev rfl) (hF.ev rfl)) ?_; clear hF a; intro a hF
    refine wq hF rfl rfl rfl (fun w_ hB_ => r_pick_f (hF.ev rfl) (hF.ev rfl)) ?_; clear hF a; intro a hF
    exact wpQuiet_nil ((Fr.pre (A := [_, _, _, _, _, _, _, _]) hF rfl).keep hF (t := 29) rfl)
  ·
    intro hg21 a hF; try simp only [zb1, zb2, zb3, zb4, zb5, zb6, zb7, zb8] at hg21
    refine wq_mvs (A := [_, _, _, _, _, _, _]) hF rfl ?_; clear hF a; intro a hF
    refine wq hF rfl rfl rfl (fun w_ hB_ => r_pick_t (hF.ev rfl) ec) ?_; clear hF a; intro a hF
    exact wpQuiet_nil ((Fr.pre (A := [_, _, _, _, _, _, _, _]) hF rfl).keep hF (t := 29) rfl)
  clear hF a; intro a hF
  refine wq_mvs (A := [_]) hF rfl ?_; clear hF a; intro a hF
  apply wq_or (A := [_, _, _, _, _, _, _, _]) (pk := 38) hF (tc := 30) rfl
  ·
    intro hg30 a hF; try simp only [zb1, zb2, zb3, zb4, zb5, zb6, zb7, zb8] at hg30
    refine wq_take hF rfl rfl rfl rfl ?_
    refine wq hF rfl rfl rfl (fun w_ hB_ => r_field fo34_3 (hF.ev rfl)) ?_; clear hF a; intro a hF
    refine wq_take hF rfl rfl rfl rfl ?_
    refine wq hF rfl rfl rfl (fun w_ hB_ => r_load1 sc32 (hF.ev rfl) ((hS.ext hB_).box (i := 0) rfl rfl)) ?_; clear hF a; intro a hF
    refine wq_take hF rfl rfl rfl rfl ?_
    refine wq hF rfl rfl rfl (fun w_ hB_ => r_len ul32 (hF.ev rfl)) ?_; clear hF a; intro a hF
    refine wq_take hF rfl rfl rfl rfl ?_
    refine wq hF rfl rfl rfl (fun w_ hB_ => r_field fo34_0 (hF.ev rfl)) ?_; clear hF a; intro a hF
    refine wq_take hF rfl rfl rfl rfl ?_
    refine wq hF rfl rfl rfl (fun w_ hB_ => r_field fo31_0 (hF.ev rfl)) ?_; clear hF a; intro a hF
    refine wq_take hF rfl rfl rfl rfl ?_
    refine wq hF rfl rfl rfl (fun w_ hB_ => r_load1 sc3 (hF.ev rfl) ((hS.ext hB_).box (i := 0) rfl rfl)) ?_; clear hF a; intro a hF
    refine wq_take hF rfl rfl rfl rfl ?_
    refine wq hF rfl rfl rfl (fun w_ hB_ => r_neq (hF.ev rfl) (hF.ev rfl)) ?_; clear hF a; intro a hF
    refine wq hF rfl rfl rfl (fun w_ hB_ => r_pick_f (hF.ev rfl) (hF.ev rfl)) ?_; clear hF a; intro a hF
    exact wpQuiet_nil ((Fr.pre (A := [_, _, _, _, _, _, _, _]) hF rfl).keep hF (t := 38) rfl)
  ·
    intro hg30 a hF; try simp only [zb1, zb2, zb3, zb4, zb5, zb6, zb7, zb8] at hg30
    refine wq_mvs (A := [_, _, _, _, _, _, _]) hF rfl ?_; clear hF a; intro a hF
    refine wq hF rfl rfl rfl (fun w_ hB_ => r_pick_t (hF.ev rfl) ec) ?_; clear hF a; intro a hF
    exact wpQuiet_nil ((Fr.pre (A := [_, _, _, _, _, _, _, _]) hF rfl).keep hF (t := 38) rfl)
  clear hF a; intro a hF
  refine wpQuiet_nil ?_; intro w5 hB_; replace hS := hS.ext hB_; clear hB_
  refine hK3 _ _ ?_
  refine wc_fx (t := 38) hF rfl ?_ ?_ <;> clear hF <;> intro c38 hF <;> try simp only [zb1, zb2, zb3, zb4, zb5, zb6, zb7, zb8] at c38
  ·
    refine ws fun K4 hK4 => ?_
    refine wl_mvs (A := [_]) hF rfl ?_; clear hF a; intro a hF
    refine wl_nil (hK4 _ _ ?_)
    refine wp_ret ?_
    try simp only [Exit.then, Exit.inBlock, ↓reduceIte]
    refine ret1 rfl hF rfl ⟨congrArg Value.bool (Eq.symm ?_), hS.old⟩
    first
      | exact st_gens (range_no (by omega) (decide_eq_false c52))
      | exact st_threads (all_no hx c68)
      | exact st_heads (range_no (k := k) (by omega) (isLink_zero.trans (Bool.and_eq_false_iff.2 (c92.imp_right (fun e => by rw [e]; rfl)))))
      | exact st_nodes (range_no (k := k) (by omega) (Bool.and_eq_false_iff.2 (c123.imp_right (fun e => decide_eq_false e))))
      | exact st_shape fun h => by
          unfold shapeOk at h
          rcases c38 with ((c | c) | c) | c
          · exact c h.1
          · exact c h.2.1
          · exact c h.2.2.1
          · exact c h.2.2.2
      | (rw [st_yes ⟨hok, hl1, hl2, hl3⟩ (all_done hg (by rw [List.length_range]; omega)) (all_done hn (by rw [List.length_range]; omega)) (all_done hv (by rw [List.length_range]; omega)), all_done ht (by omega), Bool.true_and, Bool.eq_iff_iff]
         simp only [Bool.and_eq_true, decide_eq_true_eq]
         unfold countsOk
         simp only [and_assoc])
  obtain ⟨⟨⟨hok, hl1⟩, hl2⟩, hl3⟩ := c38
  have hb := hok; unfold Config.ok at hb
  have hcc := cellCount_eq hok
  refine wp_skip ?_
  refine hK2 _ _ ?_
  refine wp_seq_k fun K5 hK5 => ?_
  refine ws fun K6 hK6 => ?_
  refine wl_mvs (A := [_]) hF rfl ?_; clear hF a; intro a hF
  refine wl_nil (hK6 _ _ ?_)
  refine wp_block ?_
  have hL_ := ((hF.nil.keep hF (t := 2) rfl).keep hF (t := 1) rfl)
  refine wp_loop_r (σ := Nat) (fun k L_ => (3, vi k) :: L_) (fun k => (k ≤ s.generations.length) ∧ (((List.range s.config.capacity.toNat).take k).all (fun k => decide (0 ≤ at0 s.generations (k : Int) ∧ at0 s.generations (k : Int) ≤ 9998)) = true)) (fun k => s.generations.length - k) 0 hS (hL_.keepE hF (t := 3) rfl rfl) ?_ ?_
  · exact ⟨Nat.zero_le _, rfl⟩
  clear hF hS hL_ a
  rintro k a w6 ⟨hk, hg⟩ hS hF; try dsimp only at hF; try dsimp only at hS
  refine wp_seq_k fun K7 hK7 => ?_
  refine ws fun K8 hK8 => ?_
  refine wl_mvs (A := [_]) hF rfl ?_; clear hF a; intro a hF
  refine wl hF rfl rfl rfl (r_field fo34_2 (hF.ev rfl)) ?_; clear hF a; intro a hF
  refine wl hF rfl rfl rfl (r_load1 sc24 (hF.ev rfl) (hS.box (i := 0) rfl rfl)) ?_; clear hF a; intro a hF
  refine wl hF rfl rfl rfl (r_len ul24 (hF.ev rfl)) ?_; clear hF a; intro a hF
  refine wl hF rfl rfl rfl (r_lss (hF.ev rfl) (hF.ev rfl)) ?_; clear hF a; intro a hF
  refine wl_nil (hK8 _ _ ?_)
  refine wc_fx (t := 43) hF rfl ?_ ?_ <;> clear hF <;> intro c43 hF <;> try simp only [zb1, zb2, zb3, zb4, zb5, zb6, zb7, zb8] at c43
  ·
    refine wp_skip ?_
    refine hK7 _ _ ?_
    refine wp_seq_k fun K9 hK9 => ?_
    refine wp_block ?_
    refine ws fun K10 hK10 => ?_
    refine wl hF rfl rfl rfl (r_field fo34_2 (hF.ev rfl)) ?_; clear hF a; intro a hF
    refine wl hF rfl rfl rfl (r_load1 sc24 (hF.ev rfl) (hS.box (i := 0) rfl rfl)) ?_; clear hF a; intro a hF
    refine wl_mvs (A := [_]) hF rfl ?_; clear hF a; intro a hF
    obtain ⟨g49, o49, m49, q49, hv49, hm49, hl49, hc49⟩ := Rd.atF (r1) (a := a) (X := .tmp 48) (hF.ev rfl) (by omega) (by omega)
    refine wl hF rfl rfl rfl (r_index sl24 ((hF.ev rfl).trans hv49) (hF.ev rfl) (by omega) (by first | omega | (simp at hm49; omega))) ?_; clear hF a; intro a hF
    refine wl hF rfl rfl rfl (r_load1 sc3 (hF.ev rfl) (cellB hS.old (hc49 0 _ rfl))) ?_; clear hF a; intro a hF
    refine wl_call hF rfl rfl rfl (r_call3 en16 (hF.ev rfl) ec ec) (l1In_c _ _ _) ?_; clear hF a; rintro v w7 a ⟨rfl, hB_⟩ hF; replace hS := hS.ext hB_; clear hB_
    refine wl hF rfl rfl rfl (r_not (hF.ev rfl)) ?_; clear hF a; intro a hF
    refine wl_nil (hK10 _ _ ?_)
    refine wc_fx (t := 52) hF rfl ?_ ?_ <;> clear hF <;> intro c52 hF <;> try simp only [zb1, zb2, zb3, zb4, zb5, zb6, zb7, zb8] at c52
    ·
      refine ws fun K11 hK11 => ?_
      refine wl_mvs (A := [_]) hF rfl ?_; clear hF a; intro a hF
      refine wl_nil (hK11 _ _ ?_)
      refine wp_ret ?_
      try simp only [Exit.then, Exit.inBlock, ↓reduceIte]
      refine ret1 rfl hF rfl ⟨congrArg Value.bool (Eq.symm ?_), hS.old⟩
      first
        | exact st_gens (range_no (by omega) (decide_eq_false c52))
        | exact st_threads (all_no hx c68)
        | exact st_heads (range_no (k := k) (by omega) (isLink_zero.trans (Bool.and_eq_false_iff.2 (c92.imp_right (fun e => by rw [e]; rfl)))))
        | exact st_nodes (range_no (k := k) (by omega) (Bool.and_eq_false_iff.2 (c123.imp_right (fun e => decide_eq_false e))))
        | exact st_shape fun h => by
            unfold shapeOk at h
            rcases c38 with ((c | c) | c) | c
            · exact c h.1
            · exact c h.2.1
            · exact c h.2.2.1
            · exact c h.2.2.2
        | (rw [st_yes ⟨hok, hl1, hl2, hl3⟩ (all_done hg (by rw [List.length_range]; omega)) (all_done hn (by rw [List.length_range]; omega)) (all_done hv (by rw [List.length_range]; omega)), all_done ht (by omega), Bool.true_and, Bool.eq_iff_iff]
           simp only [Bool.and_eq_true, decide_eq_true_eq]
           unfold countsOk
           simp only [and_assoc])
    refine wp_skip ?_
    simp only [Exit.then, Exit.inBlock, ↓reduceIte]
    refine hK9 _ _ ?_
    refine wp_region_lit ?_
    refine wl_mvs (A := [_]) hF rfl ?_; clear hF a; intro a hF
    refine wl hF rfl rfl rfl (r_add (hF.ev rfl) ec) ?_; clear hF a; intro a hF
    refine wl_mvs (A := [_]) hF rfl ?_; clear hF a; intro a hF
    refine wl_nil ?_
    try simp only [Exit.then, Exit.inBlock, ↓reduceIte]
    refine ⟨k + 1, ⟨by omega, all_nxt hg (range_at (by omega)) (decide_eq_true c52)⟩, hS, (((hF.nil.keep hF (t := 2) rfl).keep hF (t := 1) rfl).keepE hF (t := 3) rfl (wk (by omega))), by omega⟩
  refine wp_exit ?_
  simp only [Exit.then, Exit.inBlock, ↓reduceIte]
  refine hK5 _ _ ?_
  refine wp_seq_k fun K12 hK12 => ?_
  refine ws fun K13 hK13 => ?_
  refine wl_mvs (A := [_]) hF rfl ?_; clear hF a; intro a hF
  refine wl_nil (hK13 _ _ ?_)
  refine wp_block ?_
  have hL_ := ((hF.nil.keep hF (t := 2) rfl).keep hF (t := 1) rfl)
  refine wp_loop_r (σ := Nat) (fun k L_ => (4, vi k) :: L_) (fun k => (k ≤ s.threads.length) ∧ ((s.threads.take k).all (threadOk s.config) = true)) (fun k => s.threads.length - k) 0 hS (hL_.keepE hF (t := 4) rfl rfl) ?_ ?_
  · exact ⟨Nat.zero_le _, rfl⟩
  clear hF hS hL_ a
  rintro k a w8 ⟨hk, ht⟩ hS hF; try dsimp only at hF; try dsimp only at hS
  refine wp_seq_k fun K14 hK14 => ?_
  refine ws fun K15 hK15 => ?_
  refine wl_mvs (A := [_]) hF rfl ?_; clear hF a; intro a hF
  refine wl hF rfl rfl rfl (r_field fo34_3 (hF.ev rfl)) ?_; clear hF a; intro a hF
  refine wl hF rfl rfl rfl (r_load1 sc32 (hF.ev rfl) (hS.box (i := 0) rfl rfl)) ?_; clear hF a; intro a hF
  refine wl hF rfl rfl rfl (r_len ul32 (hF.ev rfl)) ?_; clear hF a; intro a hF
  refine wl hF rfl rfl rfl (r_lss (hF.ev rfl) (hF.ev rfl)) ?_; clear hF a; intro a hF
  refine wl_nil (hK15 _ _ ?_)
  refine wc_fx (t := 57) hF rfl ?_ ?_ <;> clear hF <;> intro c57 hF <;> try simp only [zb1, zb2, zb3, zb4, zb5, zb6, zb7, zb8] at c57
  ·
    have hlt : k < s.threads.length := by omega
    have hx := at0_nat hlt
    have hc1 := crow_le1 (c := Sl.Thread.size) hx
    refine wp_skip ?_
    refine hK14 _ _ ?_
    refine wp_seq_k fun K16 hK16 => ?_
    refine wp_block ?_
    refine wp_seq_k fun K17 hK17 => ?_
    refine wp_region_calm (by kernel_rfl) (by kernel_rfl) ?_
    refine wq hF rfl rfl rfl (fun w_ hB_ => r_field fo34_0 (hF.ev rfl)) ?_; clear hF a; intro a hF
    refine wq hF rfl rfl rfl (fun w_ hB_ => r_loadn ag31 (hF.ev rfl) ((hS.ext hB_).boxn (vs := [_, _, _, _, _, _]) (i := 0) (m := 6) rfl rfl) sz31) ?_; clear hF a; intro a hF
    refine wq hF rfl rfl rfl (fun w_ hB_ => r_field fo34_3 (hF.ev rfl)) ?_; clear hF a; intro a hF
    refine wq hF rfl rfl rfl (fun w_ hB_ => r_load1 sc32 (hF.ev rfl) ((hS.ext hB_).box (i := 0) rfl rfl)) ?_; clear hF a; intro a hF
    refine wq_mvs (A := [_]) hF rfl ?_; clear hF a; intro a hF
    obtain ⟨g65, o65, m65, q65, cs65, hv65, hm65, hl65, hk65, hz65, hc65⟩ := Rd.at (r2) (a := a) (X := .tmp 64) (hF.ev rfl) (by omega) (by omega)
    have hkk65 := hk65; obtain ⟨v65_0, v65_1, v65_2, v65_3, v65_4, rfl, r65_0, r65_1, r65_2, r65_3, r65_4⟩ := hk65
    refine wq hF rfl rfl rfl (fun w_ hB_ => r_index sl32 ((hF.ev rfl).trans hv65) (hF.ev rfl) (by omega) (by first | omega | (simp at hm65; omega))) ?_; clear hF a; intro a hF
    refine wq hF rfl rfl rfl (fun w_ hB_ => r_loadn ag55 (hF.ev rfl) (fun j_ u_ hu_ => cellB (hS.ext hB_).old (hc65 j_ u_ hu_)) sz55) ?_; clear hF a; intro a hF
    refine wq_call hF rfl rfl rfl (fun w_ hB_ => r_call2 en42 (hF.ev rfl) (hF.ev rfl)) (fun w_ hB_ => l8Thread_c ((hS.ext hB_).k hkk65) (wthr _ (at0_mem (by omega) (by omega))) hok (by omega)) ?_; clear hF a; intro a hF
    refine wq hF rfl rfl rfl (fun w_ hB_ => r_not (hF.ev rfl)) ?_; clear hF a; intro a hF
    refine wpQuiet_nil ?_; intro w9 hB_; replace hS := hS.ext hB_; clear hB_
    refine hK17 _ _ ?_
    refine wc_fx (t := 68) hF rfl ?_ ?_ <;> clear hF <;> intro c68 hF <;> try simp only [zb1, zb2, zb3, zb4, zb5, zb6, zb7, zb8] at c68
    ·
      refine ws fun K18 hK18 => ?_
      refine wl_mvs (A := [_]) hF rfl ?_; clear hF a; intro a hF
      refine wl_nil (hK18 _ _ ?_)
      refine wp_ret ?_
      try simp only [Exit.then, Exit.inBlock, ↓reduceIte]
      refine ret1 rfl hF rfl ⟨congrArg Value.bool (Eq.symm ?_), hS.old⟩
      first
        | exact st_gens (range_no (by omega) (decide_eq_false c52))
        | exact st_threads (all_no hx c68)
        | exact st_heads (range_no (k := k) (by omega) (isLink_zero.trans (Bool.and_eq_false_iff.2 (c92.imp_right (fun e => by rw [e]; rfl)))))
        | exact st_nodes (range_no (k := k) (by omega) (Bool.and_eq_false_iff.2 (c123.imp_right (fun e => decide_eq_false e))))
        | exact st_shape fun h => by
            unfold shapeOk at h
            rcases c38 with ((c | c) | c) | c
            · exact c h.1
            · exact c h.2.1
            · exact c h.2.2.1
            · exact c h.2.2.2
        | (rw [st_yes ⟨hok, hl1, hl2, hl3⟩ (all_done hg (by rw [List.length_range]; omega)) (all_done hn (by rw [List.length_range]; omega)) (all_done hv (by rw [List.length_range]; omega)), all_done ht (by omega), Bool.true_and, Bool.eq_iff_iff]
           simp only [Bool.and_eq_true, decide_eq_true_eq]
           unfold countsOk
           simp only [and_assoc])
    refine wp_skip ?_
    simp only [Exit.then, Exit.inBlock, ↓reduceIte]
    refine hK16 _ _ ?_
    refine wp_region_lit ?_
    refine wl_mvs (A := [_]) hF rfl ?_; clear hF a; intro a hF
    refine wl hF rfl rfl rfl (r_add (hF.ev rfl) ec) ?_; clear hF a; intro a hF
    refine wl_mvs (A := [_]) hF rfl ?_; clear hF a; intro a hF
    refine wl_nil ?_
    try simp only [Exit.then, Exit.inBlock, ↓reduceIte]
    refine ⟨k + 1, ⟨by omega, all_nxt ht hx c68⟩, hS, (((hF.nil.keep hF (t := 2) rfl).keep hF (t := 1) rfl).keepE hF (t := 4) rfl (wk (by omega))), by omega⟩
  refine wp_exit ?_
  simp only [Exit.then, Exit.inBlock, ↓reduceIte]
  refine hK12 _ _ ?_
  refine wp_seq_k fun K19 hK19 => ?_
  refine ws fun K20 hK20 => ?_
  refine wl_mvs (A := [_]) hF rfl ?_; clear hF a; intro a hF
  refine wl_nil (hK20 _ _ ?_)
  refine wp_block ?_
  have hL_ := ((hF.nil.keep hF (t := 2) rfl).keep hF (t := 1) rfl)
  refine wp_loop_r (σ := Nat) (fun k L_ => (5, vi k) :: L_) (fun k => (k ≤ s.config.keys.toNat) ∧ (((List.range s.config.keys.toNat).take k).all (fun k => isLink s.config (at0 s.cells (headCell s.config (k : Int)))) = true)) (fun k => s.config.keys.toNat - k) 0 hS (hL_.keepE hF (t := 5) rfl rfl) ?_ ?_
  · exact ⟨Nat.zero_le _, rfl⟩
  clear hF hS hL_ a
  rintro k a w10 ⟨hk, hn⟩ hS hF; try dsimp only at hF; try dsimp only at hS
  refine wp_seq_k fun K21 hK21 => ?_
  refine ws fun K22 hK22 => ?_
  refine wl_mvs (A := [_]) hF rfl ?_; clear hF a; intro a hF
  refine wl hF rfl rfl rfl (r_field fo34_0 (hF.ev rfl)) ?_; clear hF a; intro a hF
  refine wl hF rfl rfl rfl (r_field fo31_1 (hF.ev rfl)) ?_; clear hF a; intro a hF
  refine wl hF rfl rfl rfl (r_load1 sc3 (hF.ev rfl) (hS.box (i := 0) rfl rfl)) ?_; clear hF a; intro a hF
  refine wl hF rfl rfl rfl (r_lss (hF.ev rfl) (hF.ev rfl)) ?_; clear hF a; intro a hF
  refine wl_nil (hK22 _ _ ?_)
  refine wc_fx (t := 73) hF rfl ?_ ?_ <;> clear hF <;> intro c73 hF <;> try simp only [zb1, zb2, zb3, zb4, zb5, zb6, zb7, zb8] at c73
  ·
    have hd := headCell_eq hok (k := (k : Int)) (by omega) (by omega)
    have h1 : int64 (at0 s.cells (headCell s.config (k : Int))) := wcells _ (at0_mem (by omega) (by omega))
    refine wp_skip ?_
    refine hK21 _ _ ?_
    refine wp_seq_k fun K23 hK23 => ?_
    refine wp_block ?_
    refine wp_seq_k fun K24 hK24 => ?_
    refine wp_region_calm (by kernel_rfl) (by kernel_rfl) ?_
    refine wq hF rfl rfl rfl (fun w_ hB_ => r_field fo34_1 (hF.ev rfl)) ?_; clear hF a; intro a hF
    refine wq hF rfl rfl rfl (fun w_ hB_ => r_load1 sc24 (hF.ev rfl) ((hS.ext hB_).box (i := 0) rfl rfl)) ?_; clear hF a; intro a hF
    refine wq hF rfl rfl rfl (fun w_ hB_ => r_field fo34_0 (hF.ev rfl)) ?_; clear hF a; intro a hF
    refine wq hF rfl rfl rfl (fun w_ hB_ => r_loadn ag31 (hF.ev rfl) ((hS.ext hB_).boxn (vs := [_, _, _, _, _, _]) (i := 0) (m := 6) rfl rfl) sz31) ?_; clear hF a; intro a hF
    refine wq_mvs (A := [_]) hF rfl ?_; clear hF a; intro a hF
    refine wq_call hF rfl rfl rfl (fun w_ hB_ => r_call2 en43 (hF.ev rfl) (hF.ev rfl)) (fun w_ hB_ => specHeadCell_c _ _) ?_; clear hF a; intro a hF
    obtain ⟨g82, o82, m82, q82, hv82, hm82, hl82, hc82⟩ := Rd.atF (r0) (a := a) (X := .tmp 81) (hF.ev rfl) (by omega) (by omega)
    refine wq hF rfl rfl rfl (fun w_ hB_ => r_index sl24 ((hF.ev rfl).trans hv82) (hF.ev rfl) (by omega) (by first | omega | (simp at hm82; omega))) ?_; clear hF a; intro a hF
    refine wq hF rfl rfl rfl (fun w_ hB_ => r_load1 sc3 (hF.ev rfl) (cellB (hS.ext hB_).old (hc82 0 _ rfl))) ?_; clear hF a; intro a hF
    refine wq_mvs (A := [_]) hF rfl ?_; clear hF a; intro a hF
    refine wpQuiet_nil ?_; intro w11 hB_; replace hS := hS.ext hB_; clear hB_
    refine hK24 _ _ ?_
    refine ws fun K25 hK25 => ?_
    refine wl hF rfl rfl rfl (r_field fo34_0 (hF.ev rfl)) ?_; clear hF a; intro a hF
    refine wl hF rfl rfl rfl (r_loadn ag31 (hF.ev rfl) (hS.boxn (vs := [_, _, _, _, _, _]) (i := 0) (m := 6) rfl rfl) sz31) ?_; clear hF a; intro a hF
    refine wl_mvs (A := [_]) hF rfl ?_; clear hF a; intro a hF
    refine wl_call hF rfl rfl rfl (r_call2 en44 (hF.ev rfl) (hF.ev rfl)) (l8Zero_c h1) ?_; clear hF a; rintro v w12 a ⟨rfl, hB_⟩ hF; replace hS := hS.ext hB_; clear hB_
    refine wl hF rfl rfl rfl (r_not (hF.ev rfl)) ?_; clear hF a; intro a hF
    refine wl_mvs (A := [_]) hF rfl ?_; clear hF a; intro a hF
    apply wl_or (A := [_, _, _]) (pk := 92) hF hS (tc := 89) rfl
    ·
      intro hg89 a hF; try simp only [zb1, zb2, zb3, zb4, zb5, zb6, zb7, zb8] at hg89
      refine wl_mvs (A := [_]) hF rfl ?_; clear hF a; intro a hF
      refine wl_take hF rfl rfl rfl rfl ?_
      refine wl_call hF rfl rfl rfl (r_call1 en45 (hF.ev rfl)) (specIsMarked_c h1) ?_; clear hF a; rintro v w13 a ⟨rfl, hB_⟩ hF; replace hS := hS.ext hB_; clear hB_
      refine wl hF rfl rfl rfl (r_pick_f (hF.ev rfl) (hF.ev rfl)) ?_; clear hF a; intro a hF
      exact wl_nil ⟨rfl, (Fr.pre (A := [_, _, _]) hF rfl).keep hF (t := 92) rfl, hS⟩
    ·
      intro hg89 a hF; try simp only [zb1, zb2, zb3, zb4, zb5, zb6, zb7, zb8] at hg89
      refine wl_mvs (A := [_, _]) hF rfl ?_; clear hF a; intro a hF
      refine wl hF rfl rfl rfl (r_pick_t (hF.ev rfl) ec) ?_; clear hF a; intro a hF
      exact wl_nil ⟨rfl, (Fr.pre (A := [_, _, _]) hF rfl).keep hF (t := 92) rfl, hS⟩
    clear hF a hS; intro a w14 hF hS
    refine wl_nil (hK25 _ _ ?_)
    refine wc_fx (t := 92) hF rfl ?_ ?_ <;> clear hF <;> intro c92 hF <;> try simp only [zb1, zb2, zb3, zb4, zb5, zb6, zb7, zb8] at c92
    ·
      refine ws fun K26 hK26 => ?_
      refine wl_mvs (A := [_]) hF rfl ?_; clear hF a; intro a hF
      refine wl_nil (hK26 _ _ ?_)
      refine wp_ret ?_
      try simp only [Exit.then, Exit.inBlock, ↓reduceIte]
      refine ret1 rfl hF rfl ⟨congrArg Value.bool (Eq.symm ?_), hS.old⟩
      first
        | exact st_gens (range_no (by omega) (decide_eq_false c52))
        | exact st_threads (all_no hx c68)
        | exact st_heads (range_no (k := k) (by omega) (isLink_zero.trans (Bool.and_eq_false_iff.2 (c92.imp_right (fun e => by rw [e]; rfl)))))
        | exact st_nodes (range_no (k := k) (by omega) (Bool.and_eq_false_iff.2 (c123.imp_right (fun e => decide_eq_false e))))
        | exact st_shape fun h => by
            unfold shapeOk at h
            rcases c38 with ((c | c) | c) | c
            · exact c h.1
            · exact c h.2.1
            · exact c h.2.2.1
            · exact c h.2.2.2
        | (rw [st_yes ⟨hok, hl1, hl2, hl3⟩ (all_done hg (by rw [List.length_range]; omega)) (all_done hn (by rw [List.length_range]; omega)) (all_done hv (by rw [List.length_range]; omega)), all_done ht (by omega), Bool.true_and, Bool.eq_iff_iff]
           simp only [Bool.and_eq_true, decide_eq_true_eq]
           unfold countsOk
           simp only [and_assoc])
    refine wp_skip ?_
    simp only [Exit.then, Exit.inBlock, ↓reduceIte]
    refine hK23 _ _ ?_
    refine wp_region_lit ?_
    refine wl_mvs (A := [_]) hF rfl ?_; clear hF a; intro a hF
    refine wl hF rfl rfl rfl (r_add (hF.ev rfl) ec) ?_; clear hF a; intro a hF
    refine wl_mvs (A := [_]) hF rfl ?_; clear hF a; intro a hF
    refine wl_nil ?_
    try simp only [Exit.then, Exit.inBlock, ↓reduceIte]
    refine ⟨k + 1, ⟨by omega, all_nxt hn (range_at (by omega)) (by rw [isLink_zero, c92.1, c92.2]; rfl)⟩, hS, (((hF.nil.keep hF (t := 2) rfl).keep hF (t := 1) rfl).keepE hF (t := 5) rfl (wk (by omega))), by omega⟩
  refine wp_exit ?_
  simp only [Exit.then, Exit.inBlock, ↓reduceIte]
  refine hK19 _ _ ?_
  refine wp_seq_k fun K27 hK27 => ?_
  refine ws fun K28 hK28 => ?_
  refine wl_mvs (A := [_]) hF rfl ?_; clear hF a; intro a hF
  refine wl_nil (hK28 _ _ ?_)
  refine wp_block ?_
  have hL_ := ((hF.nil.keep hF (t := 2) rfl).keep hF (t := 1) rfl)
  refine wp_loop_r (σ := Nat) (fun k L_ => (7, vi k) :: L_) (fun k => (k ≤ s.config.capacity.toNat) ∧ (((List.range s.config.capacity.toNat).take k).all (fun k => zeroOk s.config (at0 s.cells (nodeCell s.config (k : Int) 2)) && decide (0 ≤ at0 s.cells (nodeCell s.config (k : Int) 0) ∧ at0 s.cells (nodeCell s.config (k : Int) 0) ≤ 99)) = true)) (fun k => s.config.capacity.toNat - k) 0 hS (hL_.keepE hF (t := 7) rfl rfl) ?_ ?_
  · exact ⟨Nat.zero_le _, rfl⟩
  clear hF hS hL_ a
  rintro k a w15 ⟨hk, hv⟩ hS hF; try dsimp only at hF; try dsimp only at hS
  refine wp_seq_k fun K29 hK29 => ?_
  refine ws fun K30 hK30 => ?_
  refine wl_mvs (A := [_]) hF rfl ?_; clear hF a; intro a hF
  refine wl hF rfl rfl rfl (r_field fo34_0 (hF.ev rfl)) ?_; clear hF a; intro a hF
  refine wl hF rfl rfl rfl (r_field fo31_2 (hF.ev rfl)) ?_; clear hF a; intro a hF
  refine wl hF rfl rfl rfl (r_load1 sc3 (hF.ev rfl) (hS.box (i := 0) rfl rfl)) ?_; clear hF a; intro a hF
  refine wl hF rfl rfl rfl (r_lss (hF.ev rfl) (hF.ev rfl)) ?_; clear hF a; intro a hF
  refine wl_nil (hK30 _ _ ?_)
  refine wc_fx (t := 97) hF rfl ?_ ?_ <;> clear hF <;> intro c97 hF <;> try simp only [zb1, zb2, zb3, zb4, zb5, zb6, zb7, zb8] at c97
  ·
    have hn0 := nodeCell_eq hok (i := (k : Int)) (f := 0) (by omega) (by omega) (by omega) (by omega)
    have hn2 := nodeCell_eq hok (i := (k : Int)) (f := 2) (by omega) (by omega) (by omega) (by omega)
    have h1 : int64 (at0 s.cells (nodeCell s.config (k : Int) 2)) := wcells _ (at0_mem (by omega) (by omega))
    refine wp_skip ?_
    refine hK29 _ _ ?_
    refine wp_seq_k fun K31 hK31 => ?_
    refine wp_block ?_
    refine wp_seq_k fun K32 hK32 => ?_
    refine wp_region_calm (by kernel_rfl) (by kernel_rfl) ?_
    refine wq hF rfl rfl rfl (fun w_ hB_ => r_field fo34_0 (hF.ev rfl)) ?_; clear hF a; intro a hF
    refine wq hF rfl rfl rfl (fun w_ hB_ => r_loadn ag31 (hF.ev rfl) ((hS.ext hB_).boxn (vs := [_, _, _, _, _, _]) (i := 0) (m := 6) rfl rfl) sz31) ?_; clear hF a; intro a hF
    refine wq hF rfl rfl rfl (fun w_ hB_ => r_field fo34_1 (hF.ev rfl)) ?_; clear hF a; intro a hF
    refine wq hF rfl rfl rfl (fun w_ hB_ => r_load1 sc24 (hF.ev rfl) ((hS.ext hB_).box (i := 0) rfl rfl)) ?_; clear hF a; intro a hF
    refine wq hF rfl rfl rfl (fun w_ hB_ => r_field fo34_0 (hF.ev rfl)) ?_; clear hF a; intro a hF
    refine wq hF rfl rfl rfl (fun w_ hB_ => r_loadn ag31 (hF.ev rfl) ((hS.ext hB_).boxn (vs := [_, _, _, _, _, _]) (i := 0) (m := 6) rfl rfl) sz31) ?_; clear hF a; intro a hF
    refine wq_mvs (A := [_]) hF rfl ?_; clear hF a; intro a hF
    refine wq_call hF rfl rfl rfl (fun w_ hB_ => r_call3 en46 (hF.ev rfl) (hF.ev rfl) ec) (fun w_ hB_ => specNodeCell_c _ _ _) ?_; clear hF a; intro a hF
    obtain ⟨g108, o108, m108, q108, hv108, hm108, hl108, hc108⟩ := Rd.atF (r0) (a := a) (X := .tmp 107) (hF.ev rfl) (by omega) (by omega)
    refine wq hF rfl rfl rfl (fun w_ hB_ => r_index sl24 ((hF.ev rfl).trans hv108) (hF.ev rfl) (by omega) (by first | omega | (simp at hm108; omega))) ?_; clear hF a; intro a hF
    refine wq hF rfl rfl rfl (fun w_ hB_ => r_load1 sc3 (hF.ev rfl) (cellB (hS.ext hB_).old (hc108 0 _ rfl))) ?_; clear hF a; intro a hF
    refine wq_call hF rfl rfl rfl (fun w_ hB_ => r_call2 en44 (hF.ev rfl) (hF.ev rfl)) (fun w_ hB_ => l8Zero_c h1) ?_; clear hF a; intro a hF
    refine wq hF rfl rfl rfl (fun w_ hB_ => r_not (hF.ev rfl)) ?_; clear hF a; intro a hF
    refine wq_mvs (A := [_]) hF rfl ?_; clear hF a; intro a hF
    apply wq_or (A := [_, _, _, _, _, _, _, _, _, _, _]) (pk := 123) hF (tc := 112) rfl
    ·
      intro hg112 a hF; try simp only [zb1, zb2, zb3, zb4, zb5, zb6, zb7, zb8] at hg112
      refine wq_take hF rfl rfl rfl rfl ?_
      refine wq hF rfl rfl rfl (fun w_ hB_ => r_field fo34_1 (hF.ev rfl)) ?_; clear hF a; intro a hF
      refine wq_take hF rfl rfl rfl rfl ?_
      refine wq hF rfl rfl rfl (fun w_ hB_ => r_load1 sc24 (hF.ev rfl) ((hS.ext hB_).box (i := 0) rfl rfl)) ?_; clear hF a; intro a hF
      refine wq_take hF rfl rfl rfl rfl ?_
      refine wq hF rfl rfl rfl (fun w_ hB_ => r_field fo34_0 (hF.ev rfl)) ?_; clear hF a; intro a hF
      refine wq_take hF rfl rfl rfl rfl ?_
      refine wq hF rfl rfl rfl (fun w_ hB_ => r_loadn ag31 (hF.ev rfl) ((hS.ext hB_).boxn (vs := [_, _, _, _, _, _]) (i := 0) (m := 6) rfl rfl) sz31) ?_; clear hF a; intro a hF
      refine wq_mvs (A := [_]) hF rfl ?_; clear hF a; intro a hF
      refine wq_take hF rfl rfl rfl rfl ?_
      refine wq_call hF rfl rfl rfl (fun w_ hB_ => r_call3 en46 (hF.ev rfl) (hF.ev rfl) ec) (fun w_ hB_ => specNodeCell_c _ _ _) ?_; clear hF a; intro a hF
      refine wq_take hF rfl rfl rfl rfl ?_
      obtain ⟨g119, o119, m119, q119, hv119, hm119, hl119, hc119⟩ := Rd.atF (r0) (a := a) (X := .tmp 118) (hF.ev rfl) (by omega) (by omega)
      refine wq hF rfl rfl rfl (fun w_ hB_ => r_index sl24 ((hF.ev rfl).trans hv119) (hF.ev rfl) (by omega) (by first | omega | (simp at hm119; omega))) ?_; clear hF a; intro a hF
      refine wq_take hF rfl rfl rfl rfl ?_
      refine wq hF rfl rfl rfl (fun w_ hB_ => r_load1 sc3 (hF.ev rfl) (cellB (hS.ext hB_).old (hc119 0 _ rfl))) ?_; clear hF a; intro a hF
      refine wq_take hF rfl rfl rfl rfl ?_
      refine wq_call hF rfl rfl rfl (fun w_ hB_ => r_call3 en16 (hF.ev rfl) ec ec) (fun w_ hB_ => l1In_c _ _ _) ?_; clear hF a; intro a hF
      refine wq_take hF rfl rfl rfl rfl ?_
      refine wq hF rfl rfl rfl (fun w_ hB_ => r_not (hF.ev rfl)) ?_; clear hF a; intro a hF
      refine wq hF rfl rfl rfl (fun w_ hB_ => r_pick_f (hF.ev rfl) (hF.ev rfl)) ?_; clear hF a; intro a hF
      exact wpQuiet_nil ((Fr.pre (A := [_, _, _, _, _, _, _, _, _, _, _]) hF rfl).keep hF (t := 123) rfl)
    ·
      intro hg112 a hF; try simp only [zb1, zb2, zb3, zb4, zb5, zb6, zb7, zb8] at hg112
      refine wq_mvs (A := [_, _, _, _, _, _, _, _, _, _]) hF rfl ?_; clear hF a; intro a hF
      refine wq hF rfl rfl rfl (fun w_ hB_ => r_pick_t (hF.ev rfl) ec) ?_; clear hF a; intro a hF
      exact wpQuiet_nil ((Fr.pre (A := [_, _, _, _, _, _, _, _, _, _, _]) hF rfl).keep hF (t := 123) rfl)
    clear hF a; intro a hF
    refine wpQuiet_nil ?_; intro w17 hB_; replace hS := hS.ext hB_; clear hB_
    refine hK32 _ _ ?_
    refine wc_fx (t := 123) hF rfl ?_ ?_ <;> clear hF <;> intro c123 hF <;> try simp only [zb1, zb2, zb3, zb4, zb5, zb6, zb7, zb8] at c123
    ·
      refine ws fun K33 hK33 => ?_
      refine wl_mvs (A := [_]) hF rfl ?_; clear hF a; intro a hF
      refine wl_nil (hK33 _ _ ?_)
      refine wp_ret ?_
      try simp only [Exit.then, Exit.inBlock, ↓reduceIte]
      refine ret1 rfl hF rfl ⟨congrArg Value.bool (Eq.symm ?_), hS.old⟩
      first
        | exact st_gens (range_no (by omega) (decide_eq_false c52))
        | exact st_threads (all_no hx c68)
        | exact st_heads (range_no (k := k) (by omega) (isLink_zero.trans (Bool.and_eq_false_iff.2 (c92.imp_right (fun e => by rw [e]; rfl)))))
        | exact st_nodes (range_no (k := k) (by omega) (Bool.and_eq_false_iff.2 (c123.imp_right (fun e => decide_eq_false e))))
        | exact st_shape fun h => by
            unfold shapeOk at h
            rcases c38 with ((c | c) | c) | c
            · exact c h.1
            · exact c h.2.1
            · exact c h.2.2.1
            · exact c h.2.2.2
        | (rw [st_yes ⟨hok, hl1, hl2, hl3⟩ (all_done hg (by rw [List.length_range]; omega)) (all_done hn (by rw [List.length_range]; omega)) (all_done hv (by rw [List.length_range]; omega)), all_done ht (by omega), Bool.true_and, Bool.eq_iff_iff]
           simp only [Bool.and_eq_true, decide_eq_true_eq]
           unfold countsOk
           simp only [and_assoc])
    refine wp_skip ?_
    simp only [Exit.then, Exit.inBlock, ↓reduceIte]
    refine hK31 _ _ ?_
    refine wp_region_lit ?_
    refine wl_mvs (A := [_]) hF rfl ?_; clear hF a; intro a hF
    refine wl hF rfl rfl rfl (r_add (hF.ev rfl) ec) ?_; clear hF a; intro a hF
    refine wl_mvs (A := [_]) hF rfl ?_; clear hF a; intro a hF
    refine wl_nil ?_
    try simp only [Exit.then, Exit.inBlock, ↓reduceIte]
    refine ⟨k + 1, ⟨by omega, all_nxt hv (range_at (by omega)) (by rw [c123.1, decide_eq_true c123.2]; rfl)⟩, hS, (((hF.nil.keep hF (t := 2) rfl).keep hF (t := 1) rfl).keepE hF (t := 7) rfl (wk (by omega))), by omega⟩
  refine wp_exit ?_
  simp only [Exit.then, Exit.inBlock, ↓reduceIte]
  refine hK27 _ _ ?_
  refine wp_seq_k fun K34 hK34 => ?_
  refine wp_region_calm (by kernel_rfl) (by kernel_rfl) ?_
  refine wq hF rfl rfl rfl (fun w_ hB_ => r_field fo34_1 (hF.ev rfl)) ?_; clear hF a; intro a hF
  refine wq hF rfl rfl rfl (fun w_ hB_ => r_load1 sc24 (hF.ev rfl) ((hS.ext hB_).box (i := 0) rfl rfl)) ?_; clear hF a; intro a hF
  obtain ⟨g126, o126, m126, q126, hv126, hm126, hl126, hc126⟩ := Rd.atF (r0) (a := a) (X := .const (.int .i64 0)) ec (by omega) (by omega)
  refine wq hF rfl rfl rfl (fun w_ hB_ => r_index sl24 ((hF.ev rfl).trans hv126) ec (by omega) (by first | omega | (simp at hm126; omega))) ?_; clear hF a; intro a hF
  refine wq hF rfl rfl rfl (fun w_ hB_ => r_load1 sc3 (hF.ev rfl) (cellB (hS.ext hB_).old (hc126 0 _ rfl))) ?_; clear hF a; intro a hF
  refine wq hF rfl rfl rfl (fun w_ hB_ => r_field fo34_0 (hF.ev rfl)) ?_; clear hF a; intro a hF
  refine wq hF rfl rfl rfl (fun w_ hB_ => r_field fo31_5 (hF.ev rfl)) ?_; clear hF a; intro a hF
  refine wq hF rfl rfl rfl (fun w_ hB_ => r_load1 sc3 (hF.ev rfl) ((hS.ext hB_).box (i := 0) rfl rfl)) ?_; clear hF a; intro a hF
  refine wq_call hF rfl rfl rfl (fun w_ hB_ => r_call3 en16 (hF.ev rfl) ec (hF.ev rfl)) (fun w_ hB_ => l1In_c _ _ _) ?_; clear hF a; intro a hF
  refine wq_mvs (A := [_]) hF rfl ?_; clear hF a; intro a hF
  apply wq_and (A := [_, _, _, _, _, _, _, _, _]) (pk := 141) hF (tc := 132) rfl
  ·
    intro hg132 a hF; try simp only [zb1, zb2, zb3, zb4, zb5, zb6, zb7, zb8] at hg132
    refine wq_take hF rfl rfl rfl rfl ?_
    refine wq hF rfl rfl rfl (fun w_ hB_ => r_field fo34_1 (hF.ev rfl)) ?_; clear hF a; intro a hF
    refine wq_take hF rfl rfl rfl rfl ?_
    refine wq hF rfl rfl rfl (fun w_ hB_ => r_load1 sc24 (hF.ev rfl) ((hS.ext hB_).box (i := 0) rfl rfl)) ?_; clear hF a; intro a hF
    refine wq_take hF rfl rfl rfl rfl ?_
    obtain ⟨g135, o135, m135, q135, hv135, hm135, hl135, hc135⟩ := Rd.atF (r0) (a := a) (X := .const (.int .i64 1)) ec (by omega) (by omega)
    refine wq hF rfl rfl rfl (fun w_ hB_ => r_index sl24 ((hF.ev rfl).trans hv135) ec (by omega) (by first | omega | (simp at hm135; omega))) ?_; clear hF a; intro a hF
    refine wq_take hF rfl rfl rfl rfl ?_
    refine wq hF rfl rfl rfl (fun w_ hB_ => r_load1 sc3 (hF.ev rfl) (cellB (hS.ext hB_).old (hc135 0 _ rfl))) ?_; clear hF a; intro a hF
    refine wq_take hF rfl rfl rfl rfl ?_
    refine wq hF rfl rfl rfl (fun w_ hB_ => r_field fo34_0 (hF.ev rfl)) ?_; clear hF a; intro a hF
    refine wq_take hF rfl rfl rfl rfl ?_
    refine wq hF rfl rfl rfl (fun w_ hB_ => r_field fo31_2 (hF.ev rfl)) ?_; clear hF a; intro a hF
    refine wq_take hF rfl rfl rfl rfl ?_
    refine wq hF rfl rfl rfl (fun w_ hB_ => r_load1 sc3 (hF.ev rfl) ((hS.ext hB_).box (i := 0) rfl rfl)) ?_; clear hF a; intro a hF
    refine wq_take hF rfl rfl rfl rfl ?_
    refine wq_call hF rfl rfl rfl (fun w_ hB_ => r_call3 en16 (hF.ev rfl) ec (hF.ev rfl)) (fun w_ hB_ => l1In_c _ _ _) ?_; clear hF a; intro a hF
    refine wq hF rfl rfl rfl (fun w_ hB_ => r_pick_t (hF.ev rfl) (hF.ev rfl)) ?_; clear hF a; intro a hF
    exact wpQuiet_nil ((Fr.pre (A := [_, _, _, _, _, _, _, _, _]) hF rfl).keep hF (t := 141) rfl)
  ·
    intro hg132 a hF; try simp only [zb1, zb2, zb3, zb4, zb5, zb6, zb7, zb8] at hg132
    refine wq_mvs (A := [_, _, _, _, _, _, _, _]) hF rfl ?_; clear hF a; intro a hF
    refine wq hF rfl rfl rfl (fun w_ hB_ => r_pick_f (hF.ev rfl) ec) ?_; clear hF a; intro a hF
    exact wpQuiet_nil ((Fr.pre (A := [_, _, _, _, _, _, _, _, _]) hF rfl).keep hF (t := 141) rfl)
  clear hF a; intro a hF
  refine wq_mvs (A := [_]) hF rfl ?_; clear hF a; intro a hF
  apply wq_and (A := [_, _, _, _]) (pk := 146) hF (tc := 142) rfl
  ·
    intro hg142 a hF; try simp only [zb1, zb2, zb3, zb4, zb5, zb6, zb7, zb8] at hg142
    refine wq_take hF rfl rfl rfl rfl ?_
    refine wq hF rfl rfl rfl (fun w_ hB_ => r_field fo34_4 (hF.ev rfl)) ?_; clear hF a; intro a hF
    refine wq_take hF rfl rfl rfl rfl ?_
    refine wq hF rfl rfl rfl (fun w_ hB_ => r_load1 sc3 (hF.ev rfl) ((hS.ext hB_).box (i := 0) rfl rfl)) ?_; clear hF a; intro a hF
    refine wq_take hF rfl rfl rfl rfl ?_
    refine wq_call hF rfl rfl rfl (fun w_ hB_ => r_call3 en16 (hF.ev rfl) ec ec) (fun w_ hB_ => l1In_c _ _ _) ?_; clear hF a; intro a hF
    refine wq hF rfl rfl rfl (fun w_ hB_ => r_pick_t (hF.ev rfl) (hF.ev rfl)) ?_; clear hF a; intro a hF
    exact wpQuiet_nil ((Fr.pre (A := [_, _, _, _]) hF rfl).keep hF (t := 146) rfl)
  ·
    intro hg142 a hF; try simp only [zb1, zb2, zb3, zb4, zb5, zb6, zb7, zb8] at hg142
    refine wq_mvs (A := [_, _, _]) hF rfl ?_; clear hF a; intro a hF
    refine wq hF rfl rfl rfl (fun w_ hB_ => r_pick_f (hF.ev rfl) ec) ?_; clear hF a; intro a hF
    exact wpQuiet_nil ((Fr.pre (A := [_, _, _, _]) hF rfl).keep hF (t := 146) rfl)
  clear hF a; intro a hF
  refine wq_mvs (A := [_]) hF rfl ?_; clear hF a; intro a hF
  apply wq_and (A := [_, _, _, _]) (pk := 151) hF (tc := 147) rfl
  ·
    intro hg147 a hF; try simp only [zb1, zb2, zb3, zb4, zb5, zb6, zb7, zb8] at hg147
    refine wq_take hF rfl rfl rfl rfl ?_
    refine wq hF rfl rfl rfl (fun w_ hB_ => r_field fo34_5 (hF.ev rfl)) ?_; clear hF a; intro a hF
    refine wq_take hF rfl rfl rfl rfl ?_
    refine wq hF rfl rfl rfl (fun w_ hB_ => r_load1 sc3 (hF.ev rfl) ((hS.ext hB_).box (i := 0) rfl rfl)) ?_; clear hF a; intro a hF
    refine wq_take hF rfl rfl rfl rfl ?_
    refine wq_call hF rfl rfl rfl (fun w_ hB_ => r_call3 en16 (hF.ev rfl) ec ec) (fun w_ hB_ => l1In_c _ _ _) ?_; clear hF a; intro a hF
    refine wq hF rfl rfl rfl (fun w_ hB_ => r_pick_t (hF.ev rfl) (hF.ev rfl)) ?_; clear hF a; intro a hF
    exact wpQuiet_nil ((Fr.pre (A := [_, _, _, _]) hF rfl).keep hF (t := 151) rfl)
  ·
    intro hg147 a hF; try simp only [zb1, zb2, zb3, zb4, zb5, zb6, zb7, zb8] at hg147
    refine wq_mvs (A := [_, _, _]) hF rfl ?_; clear hF a; intro a hF
    refine wq hF rfl rfl rfl (fun w_ hB_ => r_pick_f (hF.ev rfl) ec) ?_; clear hF a; intro a hF
    exact wpQuiet_nil ((Fr.pre (A := [_, _, _, _]) hF rfl).keep hF (t := 151) rfl)
  clear hF a; intro a hF
  refine wq_mvs (A := [_]) hF rfl ?_; clear hF a; intro a hF
  apply wq_and (A := [_, _, _, _]) (pk := 156) hF (tc := 152) rfl
  ·
    intro hg152 a hF; try simp only [zb1, zb2, zb3, zb4, zb5, zb6, zb7, zb8] at hg152
    refine wq_take hF rfl rfl rfl rfl ?_
    refine wq hF rfl rfl rfl (fun w_ hB_ => r_field fo34_6 (hF.ev rfl)) ?_; clear hF a; intro a hF
    refine wq_take hF rfl rfl rfl rfl ?_
    refine wq hF rfl rfl rfl (fun w_ hB_ => r_load1 sc3 (hF.ev rfl) ((hS.ext hB_).box (i := 0) rfl rfl)) ?_; clear hF a; intro a hF
    refine wq_take hF rfl rfl rfl rfl ?_
    refine wq_call hF rfl rfl rfl (fun w_ hB_ => r_call3 en16 (hF.ev rfl) ec ec) (fun w_ hB_ => l1In_c _ _ _) ?_; clear hF a; intro a hF
    refine wq hF rfl rfl rfl (fun w_ hB_ => r_pick_t (hF.ev rfl) (hF.ev rfl)) ?_; clear hF a; intro a hF
    exact wpQuiet_nil ((Fr.pre (A := [_, _, _, _]) hF rfl).keep hF (t := 156) rfl)
  ·
    intro hg152 a hF; try simp only [zb1, zb2, zb3, zb4, zb5, zb6, zb7, zb8] at hg152
    refine wq_mvs (A := [_, _, _]) hF rfl ?_; clear hF a; intro a hF
    refine wq hF rfl rfl rfl (fun w_ hB_ => r_pick_f (hF.ev rfl) ec) ?_; clear hF a; intro a hF
    exact wpQuiet_nil ((Fr.pre (A := [_, _, _, _]) hF rfl).keep hF (t := 156) rfl)
  clear hF a; intro a hF
  refine wq_mvs (A := [_]) hF rfl ?_; clear hF a; intro a hF
  apply wq_and (A := [_, _, _, _]) (pk := 161) hF (tc := 157) rfl
  ·
    intro hg157 a hF; try simp only [zb1, zb2, zb3, zb4, zb5, zb6, zb7, zb8] at hg157
    refine wq_take hF rfl rfl rfl rfl ?_
    refine wq hF rfl rfl rfl (fun w_ hB_ => r_field fo34_7 (hF.ev rfl)) ?_; clear hF a; intro a hF
    refine wq_take hF rfl rfl rfl rfl ?_
    refine wq hF rfl rfl rfl (fun w_ hB_ => r_load1 sc3 (hF.ev rfl) ((hS.ext hB_).box (i := 0) rfl rfl)) ?_; clear hF a; intro a hF
    refine wq_take hF rfl rfl rfl rfl ?_
    refine wq_call hF rfl rfl rfl (fun w_ hB_ => r_call3 en16 (hF.ev rfl) ec ec) (fun w_ hB_ => l1In_c _ _ _) ?_; clear hF a; intro a hF
    refine wq hF rfl rfl rfl (fun w_ hB_ => r_pick_t (hF.ev rfl) (hF.ev rfl)) ?_; clear hF a; intro a hF
    exact wpQuiet_nil ((Fr.pre (A := [_, _, _, _]) hF rfl).keep hF (t := 161) rfl)
  ·
    intro hg157 a hF; try simp only [zb1, zb2, zb3, zb4, zb5, zb6, zb7, zb8] at hg157
    refine wq_mvs (A := [_, _, _]) hF rfl ?_; clear hF a; intro a hF
    refine wq hF rfl rfl rfl (fun w_ hB_ => r_pick_f (hF.ev rfl) ec) ?_; clear hF a; intro a hF
    exact wpQuiet_nil ((Fr.pre (A := [_, _, _, _]) hF rfl).keep hF (t := 161) rfl)
  clear hF a; intro a hF
  refine wq_mvs (A := [_]) hF rfl ?_; clear hF a; intro a hF
  refine wpQuiet_nil ?_; intro w23 hB_; replace hS := hS.ext hB_; clear hB_
  refine hK34 _ _ ?_
  refine wp_ret ?_
  try simp only [Exit.then, Exit.inBlock, ↓reduceIte]
  refine ret1 rfl hF rfl ⟨congrArg Value.bool (Eq.symm ?_), hS.old⟩
  first
    | exact st_gens (range_no (by omega) (decide_eq_false c52))
    | exact st_threads (all_no hx c68)
    | exact st_heads (range_no (k := k) (by omega) (isLink_zero.trans (Bool.and_eq_false_iff.2 (c92.imp_right (fun e => by rw [e]; rfl)))))
    | exact st_nodes (range_no (k := k) (by omega) (Bool.and_eq_false_iff.2 (c123.imp_right (fun e => decide_eq_false e))))
    | exact st_shape fun h => by
        unfold shapeOk at h
        rcases c38 with ((c | c) | c) | c
        · exact c h.1
        · exact c h.2.1
        · exact c h.2.2.1
        · exact c h.2.2.2
    | (rw [st_yes ⟨hok, hl1, hl2, hl3⟩ (all_done hg (by rw [List.length_range]; omega)) (all_done hn (by rw [List.length_range]; omega)) (all_done hv (by rw [List.length_range]; omega)), all_done ht (by omega), Bool.true_and, Bool.eq_iff_iff]
       simp only [Bool.and_eq_true, decide_eq_true_eq]
       unfold countsOk
       simp only [and_assoc])
end Go.Proofs.Ytifhfodphoeeoaa.Wk
namespace Go.Proofs.Ytifhfodphoeeoaa.Wk
open Go Go.RowKit Sl
set_option linter.unusedVariables false
set_option linter.unusedSimpArgs false
set_option maxRecDepth 20000
section
variable {s : State} {k : Int}
theorem stateOk_shape (h : stateOk s = true) : shapeOk s := by
  unfold stateOk at h; simp only [Bool.and_eq_true, decide_eq_true_eq] at h; exact h.1.1.1.1.1
def quietB (s : State) : Bool := stateOk s && s.threads.all fun t => decide (t.pc = 0)
def isRunning (s : State) (p : Int) : Bool := stateOk s && decide (0 ≤ p ∧ p ≤ s.threads.length - 1) && !decide ((at0 s.threads p).pc = 0)
end
set_option maxHeartbeats 4000000 in
set_option maxRecDepth 20000 in
theorem specIsRunning_c {W : World} {s : Sl.State} {cs : List Value} (hm : stateEK.K W s cs) (hw : s.wf) (hz : (s.size : Int) ≤ 1048576) {p : Int} (hp : int64 p) : Calls Try.prog 18 #[.agg cs.toArray, vi p] W (Ret fun v w' => v = .bool (isRunning s p) ∧ Below W.heap.size W w') := by
  refine calls_fr Try.func18 rfl Try.ntmps18 rfl ?_
  intro a hF
  have hS := Sep.refl W
  obtain ⟨v0, v1, v2, rfl, r0, r1, r2⟩ := hm
  have hm : stateEK.K W s (s.encv v0 v1 v2) := ⟨_, _, _, rfl, r0, r1, r2⟩
  obtain ⟨A_a, q_a, rfl, hq_a, hn_a⟩ := r0.sl; unfold maxLen at hn_a
  obtain ⟨A_b, q_b, rfl, hq_b, hn_b⟩ := r1.sl; unfold maxLen at hn_b
  obtain ⟨A_c, q_c, rfl, hq_c, hn_c⟩ := r2.sl; unfold maxLen at hn_c
  have hwl : IntKind.i64.wrap ((s.threads.length : Int) - 1) = s.threads.length - 1 := w64_id (by omega) (by omega)
  refine ws fun K1 hK1 => ?_
  refine wl_box (cs := [_, _, _, _, _, _, _, _, _, _, _, _, _]) hF hS rfl (hF.ev rfl) rfl ?_; clear hF a; intro g1 w1 a hS_ hB_ hF; replace hS := hS_; clear hS_ hB_
  refine wl_mvs (A := [_]) hF rfl ?_; clear hF a; intro a hF
  refine wl_nil (hK1 _ _ ?_)
  refine ws fun K2 hK2 => ?_
  refine wl hF rfl rfl rfl (r_loadn ag34 (hF.ev rfl) (hS.box_rd (i := 0) rfl) sz34) ?_; clear hF a; intro a hF
  refine wl_call hF rfl rfl rfl (r_call1 en15 (hF.ev rfl)) (specIsState_c (hS.k hm) hw (by omega)) ?_; clear hF a; rintro v w2 a ⟨rfl, hB_⟩ hF; replace hS := hS.ext hB_; clear hB_
  refine wl_mvs (A := [_]) hF rfl ?_; clear hF a; intro a hF
  apply wl_and (A := [_, _, _, _, _, _, _]) (pk := 14) hF hS (tc := 7) rfl
  ·
    intro hg7 a hF; try simp only [zb1, zb2, zb3, zb4, zb5, zb6, zb7, zb8] at hg7
    refine wl_mvs (A := [_]) hF rfl ?_; clear hF a; intro a hF
    refine wl_take hF rfl rfl rfl rfl ?_
    refine wl hF rfl rfl rfl (r_field fo34_3 (hF.ev rfl)) ?_; clear hF a; intro a hF
    refine wl_take hF rfl rfl rfl rfl ?_
    refine wl hF rfl rfl rfl (r_load1 sc32 (hF.ev rfl) (hS.box (i := 0) rfl rfl)) ?_; clear hF a; intro a hF
    refine wl_take hF rfl rfl rfl rfl ?_
    refine wl hF rfl rfl rfl (r_len ul32 (hF.ev rfl)) ?_; clear hF a; intro a hF
    refine wl_take hF rfl rfl rfl rfl ?_
    refine wl hF rfl rfl rfl (r_sub (hF.ev rfl) ec) ?_; clear hF a; intro a hF
    refine wl_take hF rfl rfl rfl rfl ?_
    refine wl_call hF rfl rfl rfl (r_call3 en16 (hF.ev rfl) ec (hF.ev rfl)) (l1In_c _ _ _) ?_; clear hF a; rintro v w3 a ⟨rfl, hB_⟩ hF; replace hS := hS.ext hB_; clear hB_
    refine wl hF rfl rfl rfl (r_pick_t (hF.ev rfl) (hF.ev rfl)) ?_; clear hF a; intro a hF
    exact wl_nil ⟨rfl, (Fr.pre (A := [_, _, _, _, _, _, _]) hF rfl).keep hF (t := 14) rfl, hS⟩
  ·
    intro hg7 a hF; try simp only [zb1, zb2, zb3, zb4, zb5, zb6, zb7, zb8] at hg7
    refine wl_mvs (A := [_, _, _, _, _, _]) hF rfl ?_; clear hF a; intro a hF
    refine wl hF rfl rfl rfl (r_pick_f (hF.ev rfl) ec) ?_; clear hF a; intro a hF
    exact wl_nil ⟨rfl, (Fr.pre (A := [_, _, _, _, _, _, _]) hF rfl).keep hF (t := 14) rfl, hS⟩
  clear hF a hS; intro a w4 hF hS
  refine wl_mvs (A := [_]) hF rfl ?_; clear hF a; intro a hF
  apply wl_and (A := [_, _, _, _, _, _, _, _]) (pk := 23) hF hS (tc := 15) rfl
  ·
    intro hg15 a hF; try simp only [zb1, zb2, zb3, zb4, zb5, zb6, zb7, zb8] at hg15
    rw [hwl] at hg15
    refine wl_take hF rfl rfl rfl rfl ?_
    refine wl hF rfl rfl rfl (r_field fo34_3 (hF.ev rfl)) ?_; clear hF a; intro a hF
    refine wl_take hF rfl rfl rfl rfl ?_
    refine wl hF rfl rfl rfl (r_load1 sc32 (hF.ev rfl) (hS.box (i := 0) rfl rfl)) ?_; clear hF a; intro a hF
    refine wl_mvs (A := [_]) hF rfl ?_; clear hF a; intro a hF
    refine wl_take hF rfl rfl rfl rfl ?_
    obtain ⟨g19, o19, m19, q19, cs19, hv19, hm19, hl19, hk19, hz19, hc19⟩ := Rd.at (r2) (a := a) (X := .tmp 18) (hF.ev rfl) (by omega) (by omega)
    have hkk19 := hk19; obtain ⟨v19_0, v19_1, v19_2, v19_3, v19_4, rfl, r19_0, r19_1, r19_2, r19_3, r19_4⟩ := hk19
    refine wl hF rfl rfl rfl (r_index sl32 ((hF.ev rfl).trans hv19) (hF.ev rfl) (by omega) (by first | omega | (simp at hm19; omega))) ?_; clear hF a; intro a hF
    refine wl_take hF rfl rfl rfl rfl ?_
    refine wl hF rfl rfl rfl (r_field fo55_0 (hF.ev rfl)) ?_; clear hF a; intro a hF
    refine wl_take hF rfl rfl rfl rfl ?_
    refine wl hF rfl rfl rfl (r_load1 sc3 (hF.ev rfl) (cellB hS.old (hc19 0 _ rfl))) ?_; clear hF a; intro a hF
    refine wl_take hF rfl rfl rfl rfl ?_
    refine wl hF rfl rfl rfl (r_neq (hF.ev rfl) ec) ?_; clear hF a; intro a hF
    refine wl hF rfl rfl rfl (r_pick_t (hF.ev rfl) (hF.ev rfl)) ?_; clear hF a; intro a hF
    exact wl_nil ⟨rfl, (Fr.pre (A := [_, _, _, _, _, _, _, _]) hF rfl).keep hF (t := 23) rfl, hS⟩
  ·
    intro hg15 a hF; try simp only [zb1, zb2, zb3, zb4, zb5, zb6, zb7, zb8] at hg15
    refine wl_mvs (A := [_, _, _, _, _, _, _]) hF rfl ?_; clear hF a; intro a hF
    refine wl hF rfl rfl rfl (r_pick_f (hF.ev rfl) ec) ?_; clear hF a; intro a hF
    exact wl_nil ⟨rfl, (Fr.pre (A := [_, _, _, _, _, _, _, _]) hF rfl).keep hF (t := 23) rfl, hS⟩
  clear hF a hS; intro a w5 hF hS
  refine wl_mvs (A := [_]) hF rfl ?_; clear hF a; intro a hF
  refine wl_nil (hK2 _ _ ?_)
  refine wp_ret ?_
  try simp only [Exit.then, Exit.inBlock, ↓reduceIte]
  refine ret1 rfl hF rfl ⟨congrArg Value.bool ?_, hS.old⟩
  unfold isRunning; first | rfl | (rw [hwl])
set_option maxHeartbeats 4000000 in
set_option maxRecDepth 20000 in
theorem hasThread_c {W : World} {s : Sl.State} {cs : List Value} (hm : stateEK.K W s cs) (hw : s.wf) (hz : (s.size : Int) ≤ 1048576) {p : Int} (hp : int64 p) : Calls Try.prog 26 #[.agg cs.toArray, vi p] W (Ret fun v w' => v = .bool (stateOk s && decide (0 ≤ p ∧ p ≤ s.threads.length - 1)) ∧ Below W.heap.size W w') := by
  refine calls_fr Try.func26 rfl Try.ntmps26 rfl ?_
  intro a hF
  have hS := Sep.refl W
  obtain ⟨v0, v1, v2, rfl, r0, r1, r2⟩ := hm
  have hm : stateEK.K W s (s.encv v0 v1 v2) := ⟨_, _, _, rfl, r0, r1, r2⟩
  obtain ⟨A_a, q_a, rfl, hq_a, hn_a⟩ := r0.sl; unfold maxLen at hn_a
  obtain ⟨A_b, q_b, rfl, hq_b, hn_b⟩ := r1.sl; unfold maxLen at hn_b
  obtain ⟨A_c, q_c, rfl, hq_c, hn_c⟩ := r2.sl; unfold maxLen at hn_c
  have hwl : IntKind.i64.wrap ((s.threads.length : Int) - 1) = s.threads.length - 1 := w64_id (by omega) (by omega)
  refine ws fun K1 hK1 => ?_
  refine wl_box (cs := [_, _, _, _, _, _, _, _, _, _, _, _, _]) hF hS rfl (hF.ev rfl) rfl ?_; clear hF a; intro g1 w1 a hS_ hB_ hF; replace hS := hS_; clear hS_ hB_
  refine wl_mvs (A := [_]) hF rfl ?_; clear hF a; intro a hF
  refine wl_nil (hK1 _ _ ?_)
  refine ws fun K2 hK2 => ?_
  refine wl hF rfl rfl rfl (r_loadn ag34 (hF.ev rfl) (hS.box_rd (i := 0) rfl) sz34) ?_; clear hF a; intro a hF
  refine wl_call hF rfl rfl rfl (r_call1 en51 (hF.ev rfl)) (implIsState_c (hS.k hm) hw (by omega)) ?_; clear hF a; rintro v w2 a ⟨rfl, hB_⟩ hF; replace hS := hS.ext hB_; clear hB_
  refine wl_mvs (A := [_]) hF rfl ?_; clear hF a; intro a hF
  apply wl_and (A := [_, _, _, _, _, _, _]) (pk := 14) hF hS (tc := 7) rfl
  ·
    intro hg7 a hF; try simp only [zb1, zb2, zb3, zb4, zb5, zb6, zb7, zb8] at hg7
    refine wl_mvs (A := [_]) hF rfl ?_; clear hF a; intro a hF
    refine wl_take hF rfl rfl rfl rfl ?_
    refine wl hF rfl rfl rfl (r_field fo34_3 (hF.ev rfl)) ?_; clear hF a; intro a hF
    refine wl_take hF rfl rfl rfl rfl ?_
    refine wl hF rfl rfl rfl (r_load1 sc32 (hF.ev rfl) (hS.box (i := 0) rfl rfl)) ?_; clear hF a; intro a hF
    refine wl_take hF rfl rfl rfl rfl ?_
    refine wl hF rfl rfl rfl (r_len ul32 (hF.ev rfl)) ?_; clear hF a; intro a hF
    refine wl_take hF rfl rfl rfl rfl ?_
    refine wl hF rfl rfl rfl (r_sub (hF.ev rfl) ec) ?_; clear hF a; intro a hF
    refine wl_take hF rfl rfl rfl rfl ?_
    refine wl_call hF rfl rfl rfl (r_call3 en52 (hF.ev rfl) ec (hF.ev rfl)) (in_c _ _ _) ?_; clear hF a; rintro v w3 a ⟨rfl, hB_⟩ hF; replace hS := hS.ext hB_; clear hB_
    refine wl hF rfl rfl rfl (r_pick_t (hF.ev rfl) (hF.ev rfl)) ?_; clear hF a; intro a hF
    exact wl_nil ⟨rfl, (Fr.pre (A := [_, _, _, _, _, _, _]) hF rfl).keep hF (t := 14) rfl, hS⟩
  ·
    intro hg7 a hF; try simp only [zb1, zb2, zb3, zb4, zb5, zb6, zb7, zb8] at hg7
    refine wl_mvs (A := [_, _, _, _, _, _]) hF rfl ?_; clear hF a; intro a hF
    refine wl hF rfl rfl rfl (r_pick_f (hF.ev rfl) ec) ?_; clear hF a; intro a hF
    exact wl_nil ⟨rfl, (Fr.pre (A := [_, _, _, _, _, _, _]) hF rfl).keep hF (t := 14) rfl, hS⟩
  clear hF a hS; intro a w4 hF hS
  refine wl_mvs (A := [_]) hF rfl ?_; clear hF a; intro a hF
  refine wl_nil (hK2 _ _ ?_)
  refine wp_ret ?_
  try simp only [Exit.then, Exit.inBlock, ↓reduceIte]
  refine ret1 rfl hF rfl ⟨congrArg Value.bool ?_, hS.old⟩
  rw [hwl]
end Go.Proofs.Ytifhfodphoeeoaa.Wk
namespace Go.Proofs.Ytifhfodphoeeoaa.Wk
open Go Go.RowKit Sl
set_option linter.unusedVariables false
set_option linter.unusedSimpArgs false
set_option maxRecDepth 20000
theorem r_nilCheck {P : Program} {ρ : Operand → Value} {w : World} {D : Option Tmp} {ty : TypeId} {ps : String} {af : Array Edge} {gd : Option (Nat × Bool)} {x : Operand} {g o : Nat} (hx : ρ x = .pointer (some ⟨g, o, none⟩)) :
    (execOp ρ ⟨D, .nilCheck x, ty, ps, af, gd⟩).run P w = .ok (.value (.pointer (some ⟨g, o, none⟩))) w := by simp [execOp, hx, go_sem]
section
variable {s : State} {h : Int}
theorem state_thread {p : Int} (hs : stateOk s = true) (h0 : 0 ≤ p) (h1 : p < s.threads.length) : threadOk s.config (at0 s.threads p) = true := by
  unfold stateOk at hs; simp only [Bool.and_eq_true] at hs
  exact List.all_eq_true.1 hs.1.1.1.2 _ (at0_mem h0 h1)
theorem thread_snap {c : Config} {t : Thread} (h : threadOk c t = true) : 0 ≤ t.snapshot := by
  unfold threadOk at h; simp only [Bool.and_eq_true, decide_eq_true_eq] at h
  have := h.2.1; omega
def refusalOf (s : State) (p : Int) (o : Sl.Op) : Int :=
  if stateOk s = true ∧ (0 ≤ p ∧ p ≤ s.threads.length - 1) ∧ o.ok then
    if s.config.keys ≤ o.key then 4 else if o.kind = 1 ∧ ¬ (at0 s.threads p).snapshot = 0 then 6
    else if (o.kind = 2 ∨ o.kind = 4) ∧ (at0 s.threads p).snapshot = 0 then 3 else 0
  else 0
end
end Go.Proofs.Ytifhfodphoeeoaa.Wk
namespace Go.Proofs.Ytifhfodphoeeoaa.Wk
open Go Go.RowKit Sl
theorem en34 : enterB Try.prog 34 = true := by kernel_rfl
theorem en35 : enterB Try.prog 35 = true := by kernel_rfl
theorem en36 : enterB Try.prog 36 = true := by kernel_rfl
theorem en37 : enterB Try.prog 37 = true := by kernel_rfl
theorem en54 : enterB Try.prog 54 = true := by kernel_rfl
theorem en55 : enterB Try.prog 55 = true := by kernel_rfl
end Go.Proofs.Ytifhfodphoeeoaa.Wk
namespace Go.Proofs.Ytifhfodphoeeoaa.Wk
open Go Go.RowKit Sl
theorem bd52_0_1 (x0) (x1) : Try.prog.built 52 [(0, .int .i64 x0), (1, .int .i64 x1)] = some [.int .i64 x0, .int .i64 x1].toArray := by kernel_rfl
theorem en39 : enterB Try.prog 39 = true := by kernel_rfl
theorem en47 : enterB Try.prog 47 = true := by kernel_rfl
theorem en49 : enterB Try.prog 49 = true := by kernel_rfl
theorem en50 : enterB Try.prog 50 = true := by kernel_rfl
theorem en65 : enterB Try.prog 65 = true := by kernel_rfl
end Go.Proofs.Ytifhfodphoeeoaa.Wk
namespace Go.Proofs.Ytifhfodphoeeoaa.Wk
open Go Go.RowKit Sl
set_option linter.unusedVariables false
set_option linter.unusedSimpArgs false
set_option maxRecDepth 20000
def clearT (t : Sl.Thread) : Sl.Thread := { t with node := 0, prev := 0, curr := 0, next := 0, seen := 0, stamp := 0, at_ := 0, found := [] }
def endT (t : Sl.Thread) (code value : Int) : Sl.Thread := { clearT t with pc := 0, result := ⟨code, value⟩ }
set_option maxHeartbeats 4000000 in
set_option maxRecDepth 20000 in
theorem l10Clear_c {W w : World} {l : List Res} {gt ot mt ct p : Nat} {ts : List Sl.Thread} {t : Sl.Thread} (hp : p < ts.length) (hS : Sep W (Own threadEK (.slice (some ⟨gt, ot, none⟩) mt ct) (ts.set p (t)) :: l) w) : Calls Try.prog 47 #[.pointer (some ⟨gt, ot + p * 19, none⟩)] w (Ret fun u w' => u = .tuple #[] ∧ Sep W (Own threadEK (.slice (some ⟨gt, ot, none⟩) mt ct) (ts.set p (clearT t)) :: l) w') := by
  refine calls_fr Try.func47 rfl Try.ntmps47 rfl ?_
  intro a hF
  refine ws fun K1 hK1 => ?_
  refine wl_mvs (A := [_]) hF rfl ?_; clear hF a; intro a hF
  refine wl hF rfl rfl rfl (r_nilCheck (hF.ev rfl)) ?_; clear hF a; intro a hF
  refine wl hF rfl rfl rfl (r_field fo55_4 (hF.ev rfl)) ?_; clear hF a; intro a hF
  refine wl_estore (q := 0) (j := 7) (⟨_, ⟨_, _, _⟩, ⟨_, _⟩, _, _, _, _, _, _, _, _, _, _, _, _, _⟩ : Sl.Thread) hF hS hp rfl sz3 (hF.ev rfl) rfl ec rfl (fun _ => rfl) (fun _ => by dsimp only [threadEK, Thread.encv, List.set] <;> rfl) (by intro _; rfl) ?_; intro w1 hS_; replace hS := hS_; clear hS_; dsimp only [List.set] at hS
  refine wl_nil (hK1 _ _ ?_)
  refine ws fun K2 hK2 => ?_
  refine wl_mvs (A := [_]) hF rfl ?_; clear hF a; intro a hF
  refine wl hF rfl rfl rfl (r_nilCheck (hF.ev rfl)) ?_; clear hF a; intro a hF
  refine wl hF rfl rfl rfl (r_field fo55_5 (hF.ev rfl)) ?_; clear hF a; intro a hF
  refine wl_estore (q := 0) (j := 8) (⟨_, ⟨_, _, _⟩, ⟨_, _⟩, _, _, _, _, _, _, _, _, _, _, _, _, _⟩ : Sl.Thread) hF hS hp rfl sz3 (hF.ev rfl) rfl ec rfl (fun _ => rfl) (fun _ => by dsimp only [threadEK, Thread.encv, List.set] <;> rfl) (by intro _; rfl) ?_; intro w2 hS_; replace hS := hS_; clear hS_; dsimp only [List.set] at hS
  refine wl_nil (hK2 _ _ ?_)
  refine ws fun K3 hK3 => ?_
  refine wl_mvs (A := [_]) hF rfl ?_; clear hF a; intro a hF
  refine wl hF rfl rfl rfl (r_nilCheck (hF.ev rfl)) ?_; clear hF a; intro a hF
  refine wl hF rfl rfl rfl (r_field fo55_6 (hF.ev rfl)) ?_; clear hF a; intro a hF
  refine wl_estore (q := 0) (j := 9) (⟨_, ⟨_, _, _⟩, ⟨_, _⟩, _, _, _, _, _, _, _, _, _, _, _, _, _⟩ : Sl.Thread) hF hS hp rfl sz3 (hF.ev rfl) rfl ec rfl (fun _ => rfl) (fun _ => by dsimp only [threadEK, Thread.encv, List.set] <;> rfl) (by intro _; rfl) ?_; intro w3 hS_; replace hS := hS_; clear hS_; dsimp only [List.set] at hS
  refine wl_nil (hK3 _ _ ?_)
  refine ws fun K4 hK4 => ?_
  refine wl_mvs (A := [_]) hF rfl ?_; clear hF a; intro a hF
  refine wl hF rfl rfl rfl (r_nilCheck (hF.ev rfl)) ?_; clear hF a; intro a hF
  refine wl hF rfl rfl rfl (r_field fo55_7 (hF.ev rfl)) ?_; clear hF a; intro a hF
  refine wl_estore (q := 0) (j := 10) (⟨_, ⟨_, _, _⟩, ⟨_, _⟩, _, _, _, _, _, _, _, _, _, _, _, _, _⟩ : Sl.Thread) hF hS hp rfl sz3 (hF.ev rfl) rfl ec rfl (fun _ => rfl) (fun _ => by dsimp only [threadEK, Thread.encv, List.set] <;> rfl) (by intro _; rfl) ?_; intro w4 hS_; replace hS := hS_; clear hS_; dsimp only [List.set] at hS
  refine wl_nil (hK4 _ _ ?_)
  refine ws fun K5 hK5 => ?_
  refine wl_mvs (A := [_]) hF rfl ?_; clear hF a; intro a hF
  refine wl hF rfl rfl rfl (r_nilCheck (hF.ev rfl)) ?_; clear hF a; intro a hF
  refine wl hF rfl rfl rfl (r_field fo55_8 (hF.ev rfl)) ?_; clear hF a; intro a hF
  refine wl_estore (q := 0) (j := 11) (⟨_, ⟨_, _, _⟩, ⟨_, _⟩, _, _, _, _, _, _, _, _, _, _, _, _, _⟩ : Sl.Thread) hF hS hp rfl sz3 (hF.ev rfl) rfl ec rfl (fun _ => rfl) (fun _ => by dsimp only [threadEK, Thread.encv, List.set] <;> rfl) (by intro _; rfl) ?_; intro w5 hS_; replace hS := hS_; clear hS_; dsimp only [List.set] at hS
  refine wl_nil (hK5 _ _ ?_)
  refine ws fun K6 hK6 => ?_
  refine wl_mvs (A := [_]) hF rfl ?_; clear hF a; intro a hF
  refine wl hF rfl rfl rfl (r_nilCheck (hF.ev rfl)) ?_; clear hF a; intro a hF
  refine wl hF rfl rfl rfl (r_field fo55_9 (hF.ev rfl)) ?_; clear hF a; intro a hF
  refine wl_estore (q := 0) (j := 12) (⟨_, ⟨_, _, _⟩, ⟨_, _⟩, _, _, _, _, _, _, _, _, _, _, _, _, _⟩ : Sl.Thread) hF hS hp rfl sz3 (hF.ev rfl) rfl ec rfl (fun _ => rfl) (fun _ => by dsimp only [threadEK, Thread.encv, List.set] <;> rfl) (by intro _; rfl) ?_; intro w6 hS_; replace hS := hS_; clear hS_; dsimp only [List.set] at hS
  refine wl_nil (hK6 _ _ ?_)
  refine ws fun K7 hK7 => ?_
  refine wl_mvs (A := [_]) hF rfl ?_; clear hF a; intro a hF
  refine wl hF rfl rfl rfl (r_nilCheck (hF.ev rfl)) ?_; clear hF a; intro a hF
  refine wl hF rfl rfl rfl (r_field fo55_10 (hF.ev rfl)) ?_; clear hF a; intro a hF
  refine wl_estore (q := 0) (j := 13) (⟨_, ⟨_, _, _⟩, ⟨_, _⟩, _, _, _, _, _, _, _, _, _, _, _, _, _⟩ : Sl.Thread) hF hS hp rfl sz3 (hF.ev rfl) rfl ec rfl (fun _ => rfl) (fun _ => by dsimp only [threadEK, Thread.encv, List.set] <;> rfl) (by intro _; rfl) ?_; intro w7 hS_; replace hS := hS_; clear hS_; dsimp only [List.set] at hS
  refine wl_nil (hK7 _ _ ?_)
  refine wp_region_lit ?_
  refine wl_mvs (A := [_]) hF rfl ?_; clear hF a; intro a hF
  refine wl_bslice intEK [] [] rfl hF hS rfl mk24 rfl trivial rfl rfl rfl rfl ?_; clear hF a; intro gl_24 w8 a hS_ hF; replace hS := hS_; clear hS_
  refine wl hF rfl rfl rfl (r_nilCheck (hF.ev rfl)) ?_; clear hF a; intro a hF
  refine wl hF rfl rfl rfl (r_field fo55_11 (hF.ev rfl)) ?_; clear hF a; intro a hF
  replace hS := hS.pull (p := 0) rfl; dsimp only [List.eraseIdx] at hS
  refine wl_eslice (s := (_, _, _)) (k' := 0) (q := 0) (j := 14) (⟨_, ⟨_, _, _⟩, ⟨_, _⟩, _, _, _, _, _, _, _, _, _, _, _, _, _⟩ : Sl.Thread) (fun vs => [(_, _, _), vs.getD 1 (none, 0, 0), vs.getD 2 (none, 0, 0), vs.getD 3 (none, 0, 0), vs.getD 4 (none, 0, 0)]) hF hS hp rfl sz24 (hF.ev rfl) rfl (hF.ev rfl) (fun _ => rfl) (fun _ => by dsimp only [threadEK, Thread.encv, List.set] <;> rfl) (by intro _; rfl) (by intro _; rfl) ?_; intro w9 hS_; replace hS := hS_; clear hS_; dsimp only [List.set] at hS
  refine wl_nil ?_
  try simp only [Exit.then, Exit.inBlock, ↓reduceIte]
  exact ret0n rfl hF ⟨rfl, hS⟩
set_option maxHeartbeats 4000000 in
set_option maxRecDepth 20000 in
theorem l10Finish_c {W w : World} {l : List Res} {g gt ot mt ct p : Nat} {v0 v1 : Value} {s : Sl.State} {ts : List Sl.Thread} {t : Sl.Thread} (hp : p < ts.length) {c x : Int} (hS : Sep W (Box g ((s).encv v0 v1 (.slice (some ⟨gt, ot, none⟩) mt ct)) :: Own threadEK (.slice (some ⟨gt, ot, none⟩) mt ct) (ts.set p (t)) :: l) w) : Calls Try.prog 20 #[.pointer (some ⟨g, 0, none⟩), vi (p : Int), vi c, vi x] w (Ret fun u w' => u = .tuple #[] ∧ Sep W (Box g ((s).encv v0 v1 (.slice (some ⟨gt, ot, none⟩) mt ct)) :: Own threadEK (.slice (some ⟨gt, ot, none⟩) mt ct) (ts.set p (endT t c x)) :: l) w') := by
  refine calls_fr Try.func20 rfl Try.ntmps20 rfl ?_
  intro a hF
  have hmt := hS.own_len (s := (some ⟨gt, ot, none⟩, mt, ct)) (q := 1) rfl
  simp only [List.length_set] at hmt
  refine ws fun K1 hK1 => ?_
  refine wl_mvs (A := [_]) hF rfl ?_; clear hF a; intro a hF
  refine wl hF rfl rfl rfl (r_nilCheck (hF.ev rfl)) ?_; clear hF a; intro a hF
  refine wl hF rfl rfl rfl (r_field fo34_3 (hF.ev rfl)) ?_; clear hF a; intro a hF
  refine wl hF rfl rfl rfl (r_load1 sc32 (hF.ev rfl) (hS.box (i := 0) rfl rfl)) ?_; clear hF a; intro a hF
  refine wl_mvs (A := [_]) hF rfl ?_; clear hF a; intro a hF
  refine wl hF rfl rfl rfl (r_index sl32 (hF.ev rfl) (hF.ev rfl) (by omega) (by first | omega | (dsimp only; omega))) ?_; clear hF a; intro a hF
  replace hS := Sep.headp (A := [_, _]) (B := [_, _]) hS [1, 0] (by decide) rfl rfl
  refine wl_call hF rfl rfl rfl (r_call1 en47 (hF.ev rfl)) (l10Clear_c hp hS) ?_; clear hF a; rintro v w1 a ⟨rfl, hS_⟩ hF; replace hS := hS_; clear hS_
  refine wl_nil (hK1 _ _ ?_)
  refine ws fun K2 hK2 => ?_
  refine wl_mvs (A := [_]) hF rfl ?_; clear hF a; intro a hF
  refine wl hF rfl rfl rfl (r_nilCheck (hF.ev rfl)) ?_; clear hF a; intro a hF
  refine wl hF rfl rfl rfl (r_field fo34_3 (hF.ev rfl)) ?_; clear hF a; intro a hF
  refine wl hF rfl rfl rfl (r_load1 sc32 (hF.ev rfl) (hS.box (i := 1) rfl rfl)) ?_; clear hF a; intro a hF
  refine wl_mvs (A := [_]) hF rfl ?_; clear hF a; intro a hF
  refine wl hF rfl rfl rfl (r_index sl32 (hF.ev rfl) (hF.ev rfl) (by omega) (by first | omega | (dsimp only; omega))) ?_; clear hF a; intro a hF
  refine wl hF rfl rfl rfl (r_field fo55_0 (hF.ev rfl)) ?_; clear hF a; intro a hF
  refine wl_estore (q := 0) (j := 0) (⟨_, ⟨_, _, _⟩, ⟨_, _⟩, _, _, _, _, _, _, _, _, _, _, _, _, _⟩ : Sl.Thread) hF hS hp rfl sz3 (hF.ev rfl) rfl ec rfl (fun _ => rfl) (fun _ => by dsimp only [threadEK, Thread.encv, List.set] <;> rfl) (by intro _; rfl) ?_; intro w2 hS_; replace hS := hS_; clear hS_; dsimp only [List.set] at hS
  refine wl_nil (hK2 _ _ ?_)
  refine wp_region_lit ?_
  refine wl_mvs (A := [_]) hF rfl ?_; clear hF a; intro a hF
  refine wl hF rfl rfl rfl (r_nilCheck (hF.ev rfl)) ?_; clear hF a; intro a hF
  refine wl hF rfl rfl rfl (r_field fo34_3 (hF.ev rfl)) ?_; clear hF a; intro a hF
  refine wl hF rfl rfl rfl (r_load1 sc32 (hF.ev rfl) (hS.box (i := 1) rfl rfl)) ?_; clear hF a; intro a hF
  refine wl_mvs (A := [_, _, _]) hF rfl ?_; clear hF a; intro a hF
  refine wl hF rfl rfl rfl (r_build (bd52_0_1 _ _) ⟨rfl, (hF.ev rfl), rfl, (hF.ev rfl), trivial⟩) ?_; clear hF a; intro a hF
  refine wl hF rfl rfl rfl (r_index sl32 (hF.ev rfl) (hF.ev rfl) (by omega) (by first | omega | (dsimp only; omega))) ?_; clear hF a; intro a hF
  refine wl hF rfl rfl rfl (r_field fo55_2 (hF.ev rfl)) ?_; clear hF a; intro a hF
  refine wl_estoren (us := [_, _]) (q := 0) (j := 4) (⟨_, ⟨_, _, _⟩, ⟨_, _⟩, _, _, _, _, _, _, _, _, _, _, _, _, _⟩ : Sl.Thread) hF hS hp rfl sz52 (hF.ev rfl) rfl ((hF.ev rfl).trans rfl) rfl (fun _ => ⟨rfl, rfl⟩) (fun _ => by dsimp only [threadEK, Thread.encv, List.take, List.drop, List.cons_append, List.nil_append, List.length_cons, List.length_nil, Nat.reduceAdd] <;> rfl) (by intro _; rfl) ?_; intro w3 hS_; replace hS := hS_; clear hS_; dsimp only [List.set] at hS
  refine wl_nil ?_
  try simp only [Exit.then, Exit.inBlock, ↓reduceIte]
  exact ret0n rfl hF ⟨rfl, (Sep.headp (A := [_, _]) (B := [_, _]) hS [1, 0] (by decide) rfl rfl)⟩
end Go.Proofs.Ytifhfodphoeeoaa.Wk
namespace Go.Proofs.Ytifhfodphoeeoaa.Wk
open Go Go.RowKit Sl
set_option linter.unusedVariables false
set_option linter.unusedSimpArgs false
set_option maxRecDepth 20000
set_option maxHeartbeats 4000000 in
set_option maxRecDepth 20000 in
theorem cloneI_c {W : World} {va : Value} {xs : List Int} (ha : intEK.Rd W va xs) (hz : xs.length ≤ 1099511627776) : Calls Try.prog 49 #[va] W (Ret (Mk W (fun s : Slv => sv s) (fun s => [Own intEK (sv s) xs]))) := by
  refine calls_fr Try.func49 rfl Try.ntmps49 rfl ?_
  intro a hF
  have hS := Sep.refl W
  obtain ⟨A_a, q_a, rfl, hq_a, hn_a⟩ := ha.sl; unfold maxLen at hn_a
  refine ws fun K1 hK1 => ?_
  refine wl_mvs (A := [_]) hF rfl ?_; clear hF a; intro a hF
  refine wl_nil (hK1 _ _ ?_)
  refine wp_seq_k fun K2 hK2 => ?_
  refine ws fun K3 hK3 => ?_
  refine wl_mvs (A := [_]) hF rfl ?_; clear hF a; intro a hF
  refine wl hF rfl rfl rfl (r_eqnil ul24 (hF.ev rfl) ec) ?_; clear hF a; intro a hF
  refine wl_nil (hK3 _ _ ?_)
  refine wc_fx (t := 4) hF rfl ?_ ?_ <;> clear hF <;> intro c4 hF <;> try simp only [zb1, zb2, zb3, zb4, zb5, zb6, zb7, zb8] at c4
  ·
    refine ws fun K4 hK4 => ?_
    refine wl_mvs (A := [_]) hF rfl ?_; clear hF a; intro a hF
    refine wl_nil (hK4 _ _ ?_)
    refine wp_ret ?_
    try simp only [Exit.then, Exit.inBlock, ↓reduceIte]
    first
      | (obtain rfl : xs = [] := Rd.none_nil ha c4; refine ret1 rfl hF rfl ?_; exact Sep.mkS ((Sep.refl W).ext hS.old |>.own_nil _) rfl)
      | (refine ret1 rfl hF rfl ?_; exact Sep.mkS (hS.pick [99] (by decide) rfl) rfl)
  refine wp_skip ?_
  refine hK2 _ _ ?_
  refine ws fun K5 hK5 => ?_
  refine wl_bslice intEK [] [] rfl hF hS rfl mk24 rfl trivial rfl rfl rfl rfl ?_; clear hF a; intro gl_5 w1 a hS_ hF; replace hS := hS_; clear hS_
  refine wl_mvs (A := [_]) hF rfl ?_; clear hF a; intro a hF
  refine wl_append0 hF hS rfl (hS.rd ha) mk24 rfl (by omega) (by unfold maxLen; omega) (hF.ev rfl) (hF.ev rfl) ?_; clear hF a; intro s7 w2 a hS_ hF; replace hS := hS_; clear hS_
  refine wl_mvs (A := [_]) hF rfl ?_; clear hF a; intro a hF
  refine wl_nil (hK5 _ _ ?_)
  refine wp_ret ?_
  try simp only [Exit.then, Exit.inBlock, ↓reduceIte]
  first
    | (obtain rfl : xs = [] := Rd.none_nil ha c4; refine ret1 rfl hF rfl ?_; exact Sep.mkS ((Sep.refl W).ext hS.old |>.own_nil _) rfl)
    | (refine ret1 rfl hF rfl ?_; exact Sep.mkS (hS.pick [0] (by decide) rfl) rfl)
set_option maxHeartbeats 4000000 in
set_option maxRecDepth 20000 in
theorem cloneE_c {W : World} {va : Value} {xs : List Entry} (ha : entryEK.Rd W va xs) (hz : xs.length ≤ 1099511627776) : Calls Try.prog 65 #[va] W (Ret (Mk W (fun s : Slv => sv s) (fun s => [Own entryEK (sv s) xs]))) := by
  refine calls_fr Try.func65 rfl Try.ntmps65 rfl ?_
  intro a hF
  have hS := Sep.refl W
  obtain ⟨A_a, q_a, rfl, hq_a, hn_a⟩ := ha.sl; unfold maxLen at hn_a
  refine ws fun K1 hK1 => ?_
  refine wl_mvs (A := [_]) hF rfl ?_; clear hF a; intro a hF
  refine wl_nil (hK1 _ _ ?_)
  refine wp_seq_k fun K2 hK2 => ?_
  refine ws fun K3 hK3 => ?_
  refine wl_mvs (A := [_]) hF rfl ?_; clear hF a; intro a hF
  refine wl hF rfl rfl rfl (r_eqnil ul53 (hF.ev rfl) ec) ?_; clear hF a; intro a hF
  refine wl_nil (hK3 _ _ ?_)
  refine wc_fx (t := 4) hF rfl ?_ ?_ <;> clear hF <;> intro c4 hF <;> try simp only [zb1, zb2, zb3, zb4, zb5, zb6, zb7, zb8] at c4
  ·
    refine ws fun K4 hK4 => ?_
    refine wl_mvs (A := [_]) hF rfl ?_; clear hF a; intro a hF
    refine wl_nil (hK4 _ _ ?_)
    refine wp_ret ?_
    try simp only [Exit.then, Exit.inBlock, ↓reduceIte]
    first
      | (obtain rfl : xs = [] := Rd.none_nil ha c4; refine ret1 rfl hF rfl ?_; exact Sep.mkS ((Sep.refl W).ext hS.old |>.own_nil _) rfl)
      | (refine ret1 rfl hF rfl ?_; exact Sep.mkS (hS.pick [99] (by decide) rfl) rfl)
  refine wp_skip ?_
  refine hK2 _ _ ?_
  refine ws fun K5 hK5 => ?_
  refine wl_bslice entryEK [] [] rfl hF hS rfl mk53 rfl trivial rfl rfl rfl rfl ?_; clear hF a; intro gl_5 w1 a hS_ hF; replace hS := hS_; clear hS_
  refine wl_mvs (A := [_]) hF rfl ?_; clear hF a; intro a hF
  refine wl_append0 hF hS rfl (hS.rd ha) mk53 rfl (by omega) (by unfold maxLen; omega) (hF.ev rfl) (hF.ev rfl) ?_; clear hF a; intro s7 w2 a hS_ hF; replace hS := hS_; clear hS_
  refine wl_mvs (A := [_]) hF rfl ?_; clear hF a; intro a hF
  refine wl_nil (hK5 _ _ ?_)
  refine wp_ret ?_
  try simp only [Exit.then, Exit.inBlock, ↓reduceIte]
  first
    | (obtain rfl : xs = [] := Rd.none_nil ha c4; refine ret1 rfl hF rfl ?_; exact Sep.mkS ((Sep.refl W).ext hS.old |>.own_nil _) rfl)
    | (refine ret1 rfl hF rfl ?_; exact Sep.mkS (hS.pick [0] (by decide) rfl) rfl)
set_option maxHeartbeats 4000000 in
set_option maxRecDepth 20000 in
theorem copyThread_c {W : World} {t : Sl.Thread} {cs : List Value} (hm : threadEK.K W t cs) (hz : t.size ≤ 1048576) : Calls Try.prog 50 #[.agg cs.toArray] W (Ret (Mk W (fun vs => .agg (threadEK.cells t vs).toArray) (fun vs => [Part threadEK t vs]))) := by
  refine calls_fr Try.func50 rfl Try.ntmps50 rfl ?_
  intro a hF
  have hS := Sep.refl W
  obtain ⟨v0, v1, v2, v3, v4, rfl, r0, r1, r2, r3, r4⟩ := hm
  obtain ⟨A_a, q_a, rfl, hq_a, hn_a⟩ := r0.sl; unfold maxLen at hn_a
  obtain ⟨A_b, q_b, rfl, hq_b, hn_b⟩ := r1.sl; unfold maxLen at hn_b
  obtain ⟨A_c, q_c, rfl, hq_c, hn_c⟩ := r2.sl; unfold maxLen at hn_c
  obtain ⟨A_d, q_d, rfl, hq_d, hn_d⟩ := r3.sl; unfold maxLen at hn_d
  obtain ⟨A_e, q_e, rfl, hq_e, hn_e⟩ := r4.sl; unfold maxLen at hn_e
  have hz1 := hz; unfold Sl.Thread.size at hz1
  refine ws fun K1 hK1 => ?_
  refine wl_box (cs := [_, _, _, _, _, _, _, _, _, _, _, _, _, _, _, _, _, _, _]) hF hS rfl (hF.ev rfl) rfl ?_; clear hF a; intro g1 w1 a hS_ hB_ hF; replace hS := hS_; clear hS_ hB_
  refine wl_alloc hF hS rfl zr55 ?_; clear hF a; intro g2 w2 a hS_ hB_ hF; replace hS := hS_; clear hS_ hB_
  refine wl_nil (hK1 _ _ ?_)
  refine wp_seq_k fun K2 hK2 => ?_
  refine wp_region_todo (is := [0, 1, 3, 4, 6, 7, 2, 9, 5, 8, 10, 11, 12, 13, 14]) [] [10, 11, 12, 13, 14] (by kernel_rfl) hF hS ⟨trivial, by decide, by decide, by decide⟩ (by kernel_rfl) ?_; clear hF; intro hl_ wd hSd
  refine todo_pure hl_ (by kernel_rfl) rfl (gw0 rfl) rfl rfl rfl (fun a w_ hF => r_field fo55_11 (hF.ev rfl)) ?_
  refine todo_load [2, 5, 8, 9, 10, 11, 12, 13, 14] hl_ (by kernel_rfl) rfl (gw0 rfl) rfl rfl rfl (fun a w_ hF hB_ => r_load1 sc24 (hF.ev rfl) ((hSd.ext hB_).box (i := 1) rfl rfl)) ?_
  refine todo_pure hl_ (by kernel_rfl) rfl (gw0 rfl) rfl rfl rfl (fun a w_ hF => r_field fo55_12 (hF.ev rfl)) ?_
  refine todo_load [5, 8, 9, 10, 11, 12, 13, 14] hl_ (by kernel_rfl) rfl (gw0 rfl) rfl rfl rfl (fun a w_ hF hB_ => r_load1 sc24 (hF.ev rfl) ((hSd.ext hB_).box (i := 1) rfl rfl)) ?_
  refine todo_pure hl_ (by kernel_rfl) rfl (gw0 rfl) rfl rfl rfl (fun a w_ hF => r_field fo55_15 (hF.ev rfl)) ?_
  refine todo_load [8, 9, 10, 11, 12, 13, 14] hl_ (by kernel_rfl) rfl (gw0 rfl) rfl rfl rfl (fun a w_ hF hB_ => r_load1 sc24 (hF.ev rfl) ((hSd.ext hB_).box (i := 1) rfl rfl)) ?_
  refine todo_mk hl_ rfl (by kernel_rfl) rfl rfl rfl rfl rfl (fun a w_ hF => r_call1 en49 (hF.ev rfl)) (fun w_ hS => cloneI_c (hS.rd r0) (by omega)) ?_; rintro s5
  refine todo_pure hl_ (by kernel_rfl) rfl (gw0 rfl) rfl rfl rfl (fun a w_ hF => r_field fo55_11 (hF.ev rfl)) ?_
  refine todo_mk hl_ rfl (by kernel_rfl) rfl rfl rfl rfl rfl (fun a w_ hF => r_call1 en49 (hF.ev rfl)) (fun w_ hS => cloneI_c (hS.rd r1) (by omega)) ?_; rintro s8
  refine todo_mk hl_ rfl (by kernel_rfl) rfl rfl rfl rfl rfl (fun a w_ hF => r_call1 en49 (hF.ev rfl)) (fun w_ hS => cloneI_c (hS.rd r4) (by omega)) ?_; rintro s11
  refine todo_fin hl_ rfl (by kernel_rfl) (tl := [_, _, _, _, _]) rfl ?_; clear hS a; intro a w3 hF hA_
  have hS := hA_.sep; clear hA_
  clear hl_; try clear hSd
  try dsimp only [List.cons_append, List.nil_append, List.set] at hS
  try clear wd
  refine wl_store hF hS (i := 4) rfl sz24 (hF.ev rfl) (hF.ev rfl) rfl rfl ?_; intro w4 hS_; replace hS := hS_; clear hS_; dsimp only [List.set, Nat.reduceAdd] at hS
  refine wl hF rfl rfl rfl (r_field fo55_12 (hF.ev rfl)) ?_; clear hF a; intro a hF
  refine wl_store hF hS (i := 4) rfl sz24 (hF.ev rfl) (hF.ev rfl) rfl rfl ?_; intro w5 hS_; replace hS := hS_; clear hS_; dsimp only [List.set, Nat.reduceAdd] at hS
  refine wl hF rfl rfl rfl (r_field fo55_15 (hF.ev rfl)) ?_; clear hF a; intro a hF
  refine wl_store hF hS (i := 4) rfl sz24 (hF.ev rfl) (hF.ev rfl) rfl rfl ?_; intro w6 hS_; replace hS := hS_; clear hS_; dsimp only [List.set, Nat.reduceAdd] at hS
  refine wl_nil ⟨rfl, ?_⟩
  refine hK2 _ _ ?_
  refine wp_seq_k fun K3 hK3 => ?_
  refine wp_region_todo (is := [0, 1, 3, 4, 2, 6, 5, 7, 8, 9]) [] [7, 8, 9] (by kernel_rfl) hF hS ⟨trivial, by decide, by decide, by decide⟩ (by kernel_rfl) ?_; clear hF; intro hl_ wd hSd
  refine todo_pure hl_ (by kernel_rfl) rfl (gw0 rfl) rfl rfl rfl (fun a w_ hF => r_field fo55_13 (hF.ev rfl)) ?_
  refine todo_load [2, 5, 6, 7, 8, 9] hl_ (by kernel_rfl) rfl (gw0 rfl) rfl rfl rfl (fun a w_ hF hB_ => r_load1 sc53 (hF.ev rfl) ((hSd.ext hB_).box (i := 4) rfl rfl)) ?_
  refine todo_pure hl_ (by kernel_rfl) rfl (gw0 rfl) rfl rfl rfl (fun a w_ hF => r_field fo55_14 (hF.ev rfl)) ?_
  refine todo_load [5, 6, 7, 8, 9] hl_ (by kernel_rfl) rfl (gw0 rfl) rfl rfl rfl (fun a w_ hF hB_ => r_load1 sc53 (hF.ev rfl) ((hSd.ext hB_).box (i := 4) rfl rfl)) ?_
  refine todo_mk hl_ rfl (by kernel_rfl) rfl rfl rfl rfl rfl (fun a w_ hF => r_call1 en65 (hF.ev rfl)) (fun w_ hS => cloneE_c (hS.rd r2) (by omega)) ?_; rintro s17
  refine todo_pure hl_ (by kernel_rfl) rfl (gw0 rfl) rfl rfl rfl (fun a w_ hF => r_field fo55_13 (hF.ev rfl)) ?_
  refine todo_mk hl_ rfl (by kernel_rfl) rfl rfl rfl rfl rfl (fun a w_ hF => r_call1 en65 (hF.ev rfl)) (fun w_ hS => cloneE_c (hS.rd r3) (by omega)) ?_; rintro s20
  refine todo_fin hl_ rfl (by kernel_rfl) (tl := [_, _, _]) rfl ?_; clear hS a; intro a w7 hF hA_
  have hS := hA_.sep; clear hA_
  clear hl_; try clear hSd
  try dsimp only [List.cons_append, List.nil_append, List.set] at hS
  try clear wd
  refine wl_store hF hS (i := 6) rfl sz53 (hF.ev rfl) (hF.ev rfl) rfl rfl ?_; intro w8 hS_; replace hS := hS_; clear hS_; dsimp only [List.set, Nat.reduceAdd] at hS
  refine wl hF rfl rfl rfl (r_field fo55_14 (hF.ev rfl)) ?_; clear hF a; intro a hF
  refine wl_store hF hS (i := 6) rfl sz53 (hF.ev rfl) (hF.ev rfl) rfl rfl ?_; intro w9 hS_; replace hS := hS_; clear hS_; dsimp only [List.set, Nat.reduceAdd] at hS
  refine wl_nil ⟨rfl, ?_⟩
  refine hK3 _ _ ?_
  refine ws fun K4 hK4 => ?_
  refine wl hF rfl rfl rfl (r_loadn ag55 (hF.ev rfl) (hS.box_rd (i := 6) rfl) sz55) ?_; clear hF a; intro a hF
  refine wl_storew hF hS (i := 5) rfl (hF.ev rfl) (hF.ev rfl) sz55 rfl rfl ?_; intro w10 hS_; replace hS := hS_; clear hS_; dsimp only [List.set, Nat.reduceAdd] at hS
  refine wl_nil (hK4 _ _ ?_)
  refine wp_ret ?_
  try simp only [Exit.then, Exit.inBlock, ↓reduceIte]
  exact ret1c rfl ag55 hF hS (i := 5) rfl sz55 rfl ⟨[s5, s8, s17, s20, s11], rfl, hS.part_of [4, 3, 1, 0, 2] (by decide) rfl⟩
set_option maxHeartbeats 4000000 in
set_option maxRecDepth 20000 in
theorem copyState_c {W : World} {s : Sl.State} {cs : List Value} (hm : stateEK.K W s cs) (hz : (s.size : Int) ≤ 1048576) : Calls Try.prog 25 #[.agg cs.toArray] W (Ret (Mk W (fun vs => .agg (stateEK.cells s vs).toArray) (fun vs => [Part stateEK s vs]))) := by
  refine calls_fr Try.func25 rfl Try.ntmps25 rfl ?_
  intro a hF
  have hS := Sep.refl W
  obtain ⟨v0, v1, v2, rfl, r0, r1, r2⟩ := hm
  obtain ⟨A_a, q_a, rfl, hq_a, hn_a⟩ := r0.sl; unfold maxLen at hn_a
  obtain ⟨A_b, q_b, rfl, hq_b, hn_b⟩ := r1.sl; unfold maxLen at hn_b
  obtain ⟨A_c, q_c, rfl, hq_c, hn_c⟩ := r2.sl; unfold maxLen at hn_c
  have hz1 := hz; unfold Sl.State.size at hz1
  refine ws fun K1 hK1 => ?_
  refine wl_box (cs := [_, _, _, _, _, _, _, _, _, _, _, _, _]) hF hS rfl (hF.ev rfl) rfl ?_; clear hF a; intro g1 w1 a hS_ hB_ hF; replace hS := hS_; clear hS_ hB_
  refine wl_alloc hF hS rfl zr34 ?_; clear hF a; intro g2 w2 a hS_ hB_ hF; replace hS := hS_; clear hS_ hB_
  refine wl_nil (hK1 _ _ ?_)
  refine ws fun K2 hK2 => ?_
  refine wl hF rfl rfl rfl (r_loadn ag34 (hF.ev rfl) (hS.box_rd (i := 1) rfl) sz34) ?_; clear hF a; intro a hF
  refine wl_alloc hF hS rfl zr34 ?_; clear hF a; intro g3 w3 a hS_ hB_ hF; replace hS := hS_; clear hS_ hB_
  refine wl_storew hF hS (i := 0) rfl (hF.ev rfl) (hF.ev rfl) sz34 rfl rfl ?_; intro w4 hS_; replace hS := hS_; clear hS_; dsimp only [List.set, Nat.reduceAdd] at hS
  refine wl_nil (hK2 _ _ ?_)
  refine wp_seq_k fun K3 hK3 => ?_
  refine wp_region_todo (is := [0, 1, 3, 4, 2, 6, 5, 7, 8, 9, 10, 11]) [] [7, 8, 9, 10, 11] (by kernel_rfl) hF hS ⟨trivial, by decide, by decide, by decide⟩ (by kernel_rfl) ?_; clear hF; intro hl_ wd hSd
  refine todo_pure hl_ (by kernel_rfl) rfl (gw0 rfl) rfl rfl rfl (fun a w_ hF => r_field fo34_1 (hF.ev rfl)) ?_
  refine todo_load [2, 5, 6, 7, 8, 9, 10, 11] hl_ (by kernel_rfl) rfl (gw0 rfl) rfl rfl rfl (fun a w_ hF hB_ => r_load1 sc24 (hF.ev rfl) ((hSd.ext hB_).box (i := 2) rfl rfl)) ?_
  refine todo_pure hl_ (by kernel_rfl) rfl (gw0 rfl) rfl rfl rfl (fun a w_ hF => r_field fo34_2 (hF.ev rfl)) ?_
  refine todo_load [5, 7, 8, 9, 10, 11] hl_ (by kernel_rfl) rfl (gw0 rfl) rfl rfl rfl (fun a w_ hF hB_ => r_load1 sc24 (hF.ev rfl) ((hSd.ext hB_).box (i := 2) rfl rfl)) ?_
  refine todo_mk hl_ rfl (by kernel_rfl) rfl rfl rfl rfl rfl (fun a w_ hF => r_call1 en49 (hF.ev rfl)) (fun w_ hS => cloneI_c (hS.rd r0) (by omega)) ?_; rintro s9
  refine todo_pure hl_ (by kernel_rfl) rfl (gw0 rfl) rfl rfl rfl (fun a w_ hF => r_field fo34_1 (hF.ev rfl)) ?_
  refine todo_mk hl_ rfl (by kernel_rfl) rfl rfl rfl rfl rfl (fun a w_ hF => r_call1 en49 (hF.ev rfl)) (fun w_ hS => cloneI_c (hS.rd r1) (by omega)) ?_; rintro s12
  refine todo_fin hl_ rfl (by kernel_rfl) (tl := [_, _, _, _, _]) rfl ?_; clear hS a; intro a w5 hF hA_
  have hS := hA_.sep; clear hA_
  clear hl_; try clear hSd
  try dsimp only [List.cons_append, List.nil_append, List.set] at hS
  try clear wd
  refine wl_store hF hS (i := 2) rfl sz24 (hF.ev rfl) (hF.ev rfl) rfl rfl ?_; intro w6 hS_; replace hS := hS_; clear hS_; dsimp only [List.set, Nat.reduceAdd] at hS
  refine wl hF rfl rfl rfl (r_field fo34_2 (hF.ev rfl)) ?_; clear hF a; intro a hF
  refine wl_store hF hS (i := 2) rfl sz24 (hF.ev rfl) (hF.ev rfl) rfl rfl ?_; intro w7 hS_; replace hS := hS_; clear hS_; dsimp only [List.set, Nat.reduceAdd] at hS
  refine wl hF rfl rfl rfl (r_field fo34_3 (hF.ev rfl)) ?_; clear hF a; intro a hF
  refine wl_store hF hS (i := 2) rfl sz32 (hF.ev rfl) ec rfl rfl ?_; intro w8 hS_; replace hS := hS_; clear hS_; dsimp only [List.set, Nat.reduceAdd] at hS
  refine wl_nil ⟨rfl, ?_⟩
  refine hK3 _ _ ?_
  refine wp_seq_k fun K4 hK4 => ?_
  refine ws fun K5 hK5 => ?_
  refine wl hF rfl rfl rfl (r_field fo34_3 (hF.ev rfl)) ?_; clear hF a; intro a hF
  refine wl hF rfl rfl rfl (r_load1 sc32 (hF.ev rfl) (hS.box (i := 4) rfl rfl)) ?_; clear hF a; intro a hF
  refine wl hF rfl rfl rfl (r_len ul32 (hF.ev rfl)) ?_; clear hF a; intro a hF
  refine wl_mvs (A := [_]) hF rfl ?_; clear hF a; intro a hF
  refine wl_nil (hK5 _ _ ?_)
  refine wp_block ?_
  replace hS := hS.own_nil threadEK
  replace hS := hS.pull (p := 3) rfl; dsimp only [List.eraseIdx] at hS
  replace hS := hS.pull (p := 1) rfl; dsimp only [List.eraseIdx] at hS
  have hL_ := ((((hF.nil.keep hF (t := 18) rfl).keep hF (t := 17) rfl).keep hF (t := 3) rfl).keep hF (t := 2) rfl)
  refine wp_loop_m (σ := Nat × Slv) (fun z L_ => (19, vi z.1) :: L_) (fun z l_ => (Own threadEK (sv z.2) (s.threads.take z.1)) :: (Box g3 (s.encv (sv s9) (sv s12) (sv z.2))) :: l_) (fun z => (z.1 ≤ s.threads.length)) (fun z => s.threads.length - z.1) (0, (none, 0, 0)) (hS) (hL_.keepE hF (t := 19) rfl rfl) ?_ ?_
  · exact Nat.zero_le _
  clear hF hS hL_ a
  rintro ⟨k, q⟩ a w9 hk hS hF; try dsimp only at hF; try dsimp only at hS; try dsimp only at hk
  dsimp only [Sl.State.encv] at hS
  refine ws fun K6 hK6 => ?_
  refine wl hF rfl rfl rfl (r_lss (hF.ev rfl) (hF.ev rfl)) ?_; clear hF a; intro a hF
  refine wl_nil (hK6 _ _ ?_)
  refine wp_seq_k fun K7 hK7 => ?_
  refine wc_fx (t := 20) hF rfl ?_ ?_ <;> clear hF <;> intro c20 hF <;> try simp only [zb1, zb2, zb3, zb4, zb5, zb6, zb7, zb8] at c20
  ·
    have hlt : k < s.threads.length := by omega
    have hx := at0_nat hlt
    have hc1 := crow_le1 (c := Sl.Thread.size) hx
    refine wp_skip ?_
    refine hK7 _ _ ?_
    refine wp_seq_k fun K8 hK8 => ?_
    refine wp_block ?_
    refine ws fun K9 hK9 => ?_
    obtain ⟨g21, o21, m21, q21, cs21, hv21, hm21, hl21, hk21, hz21, hc21⟩ := Rd.at (r2) (a := a) (X := .tmp 19) (hF.ev rfl) (by omega) (by omega)
    have hkk21 := hk21; obtain ⟨v21_0, v21_1, v21_2, v21_3, v21_4, rfl, r21_0, r21_1, r21_2, r21_3, r21_4⟩ := hk21
    obtain ⟨A21_0, q21_0, rfl, hq21_0, hn21_0⟩ := r21_0.sl; unfold maxLen at hn21_0
    obtain ⟨A21_1, q21_1, rfl, hq21_1, hn21_1⟩ := r21_1.sl; unfold maxLen at hn21_1
    obtain ⟨A21_2, q21_2, rfl, hq21_2, hn21_2⟩ := r21_2.sl; unfold maxLen at hn21_2
    obtain ⟨A21_3, q21_3, rfl, hq21_3, hn21_3⟩ := r21_3.sl; unfold maxLen at hn21_3
    obtain ⟨A21_4, q21_4, rfl, hq21_4, hn21_4⟩ := r21_4.sl; unfold maxLen at hn21_4
    refine wl hF rfl rfl rfl (r_index sl32 ((hF.ev rfl).trans hv21) (hF.ev rfl) (by omega) (by first | omega | (simp at hm21; omega))) ?_; clear hF a; intro a hF
    refine wl hF rfl rfl rfl (r_loadn ag55 (hF.ev rfl) (fun j_ u_ hu_ => cellB hS.old (hc21 j_ u_ hu_)) sz55) ?_; clear hF a; intro a hF
    refine wl_alloc hF hS rfl zr55 ?_; clear hF a; intro g4 w10 a hS_ hB_ hF; replace hS := hS_; clear hS_ hB_
    refine wl_storew hF hS (i := 0) rfl (hF.ev rfl) (hF.ev rfl) sz55 rfl rfl ?_; intro w11 hS_; replace hS := hS_; clear hS_; dsimp only [List.set, Nat.reduceAdd] at hS
    refine wl_nil (hK9 _ _ ?_)
    refine wp_region_todo (is := [0, 1, 2, 3, 4, 5, 6, 7]) [] [5, 6, 7] (by kernel_rfl) hF hS ⟨trivial, by decide, by decide, by decide⟩ (by kernel_rfl) ?_; clear hF; intro hl_ wd hSd
    refine todo_pure hl_ (by kernel_rfl) rfl (gw0 rfl) rfl rfl rfl (fun a w_ hF => r_field fo34_3 (hF.ev rfl)) ?_
    refine todo_load [5, 6, 7] hl_ (by kernel_rfl) rfl (gw0 rfl) rfl rfl rfl (fun a w_ hF hB_ => r_load1 sc32 (hF.ev rfl) ((hSd.ext hB_).box (i := 2) rfl rfl)) ?_
    refine todo_load [3, 4, 5, 6, 7] hl_ (by kernel_rfl) rfl (gw0 rfl) rfl rfl rfl (fun a w_ hF hB_ => r_loadn ag55 (hF.ev rfl) ((hSd.ext hB_).box_rd (i := 0) rfl) sz55) ?_
    refine todo_mk hl_ rfl (by kernel_rfl) rfl rfl rfl rfl rfl (fun a w_ hF => r_call1 en50 (hF.ev rfl)) (fun w_ hS => copyThread_c (hS.k hkk21) (by omega)) ?_; rintro vs26
    refine todo_op hl_ rfl (by kernel_rfl) rfl rfl rfl rfl rfl (fun a w_ hF hS => r_bslice (rawEK threadEK.sz) [.agg (threadEK.cells (at0 s.threads (k : Int)) vs26).toArray] [raw threadEK (at0 s.threads (k : Int)) vs26] rfl mk32 rfl ⟨rfl, (hF.ev rfl), trivial⟩ rfl rfl rfl rfl) ?_; intro gl_27
    refine todo_fin hl_ rfl (by kernel_rfl) (tl := [_, _, _]) rfl ?_; clear hS a; intro a w13 hF hA_
    have hS := hA_.sep; clear hA_
    clear hl_; try clear hSd
    try dsimp only [List.cons_append, List.nil_append, List.set] at hS
    try clear wd
    have hu_ := hS.own_rd (i := 0) rfl
    replace hS := hS.pull (p := 1) rfl; dsimp only [List.eraseIdx] at hS
    replace hS := hS.pull (p := 3) rfl; dsimp only [List.eraseIdx] at hS
    refine wl_appendn (ek := threadEK) hF hS rfl hu_ mk32 rfl (hF.ev rfl) (hF.ev rfl) (by simp; omega) (by unfold maxLen; simp; omega) ?_; clear hF a hu_; intro A_28 c_28 w14 a hS_ hF; replace hS := hS_; clear hS_
    refine wl hF rfl rfl rfl (r_field fo34_3 (hF.ev rfl)) ?_; clear hF a; intro a hF
    refine wl_store hF hS (i := 3) rfl sz32 (hF.ev rfl) (hF.ev rfl) rfl rfl ?_; intro w15 hS_; replace hS := hS_; clear hS_; dsimp only [List.set, Nat.reduceAdd] at hS
    refine wl_nil ⟨rfl, ?_⟩
    simp only [Exit.then, Exit.inBlock, ↓reduceIte]
    refine hK8 _ _ ?_
    refine wp_region_lit ?_
    refine wl hF rfl rfl rfl (r_add (hF.ev rfl) ec) ?_; clear hF a; intro a hF
    refine wl_mvs (A := [_]) hF rfl ?_; clear hF a; intro a hF
    refine wl_nil ?_
    try simp only [Exit.then, Exit.inBlock, ↓reduceIte]
    rw [← take_at0 (by omega)] at hS
    refine ⟨(k + 1, (_, _, _)), (by dsimp only; omega), (hS.pick [0, 3, 4, 5, 6, 7] (by decide) rfl), (((((hF.nil.keep hF (t := 18) rfl).keep hF (t := 17) rfl).keep hF (t := 3) rfl).keep hF (t := 2) rfl).keepE hF (t := 19) rfl (wk (by omega))), by dsimp only; omega⟩
  refine wp_exit ?_
  simp only [Exit.then, Exit.inBlock, ↓reduceIte]
  refine hK4 _ _ ?_
  refine ws fun K10 hK10 => ?_
  refine wl hF rfl rfl rfl (r_loadn ag34 (hF.ev rfl) (hS.box_rd (i := 1) rfl) sz34) ?_; clear hF a; intro a hF
  refine wl_storew hF hS (i := 4) rfl (hF.ev rfl) (hF.ev rfl) sz34 rfl rfl ?_; intro w16 hS_; replace hS := hS_; clear hS_; dsimp only [List.set, Nat.reduceAdd] at hS
  refine wl_nil (hK10 _ _ ?_)
  refine wp_ret ?_
  try simp only [Exit.then, Exit.inBlock, ↓reduceIte]
  obtain rfl : k = s.threads.length := by omega
  rw [List.take_length] at hS
  exact ret1c rfl ag34 hF hS (i := 4) rfl sz34 rfl ⟨[s9, s12, q], rfl, hS.part_of [3, 2, 0] (by decide) rfl⟩
end Go.Proofs.Ytifhfodphoeeoaa.Wk
namespace Go.Proofs.Ytifhfodphoeeoaa.Wk
open Go Go.RowKit Sl
set_option linter.unusedVariables false
set_option linter.unusedSimpArgs false
set_option maxRecDepth 20000
set_option maxHeartbeats 4000000 in
set_option maxRecDepth 20000 in
theorem thClear_c {W w : World} {l : List Res} {gt ot mt ct p : Nat} {ts : List Sl.Thread} {t : Sl.Thread} (hp : p < ts.length) (hS : Sep W (Own threadEK (.slice (some ⟨gt, ot, none⟩) mt ct) (ts.set p (t)) :: l) w) : Calls Try.prog 28 #[.pointer (some ⟨gt, ot + p * 19, none⟩)] w (Ret fun u w' => u = .tuple #[] ∧ Sep W (Own threadEK (.slice (some ⟨gt, ot, none⟩) mt ct) (ts.set p (clearT t)) :: l) w') := by
  refine calls_fr Try.func28 rfl Try.ntmps28 rfl ?_
  intro a hF
  refine wp_region_lit ?_
  refine wl_mvs (A := [_, _, _, _, _, _, _, _]) hF rfl ?_; clear hF a; intro a hF
  refine wl hF rfl rfl rfl (r_nilCheck (hF.ev rfl)) ?_; clear hF a; intro a hF
  refine wl hF rfl rfl rfl (r_field fo55_4 (hF.ev rfl)) ?_; clear hF a; intro a hF
  refine wl_estore (q := 0) (j := 7) (⟨_, ⟨_, _, _⟩, ⟨_, _⟩, _, _, _, _, _, _, _, _, _, _, _, _, _⟩ : Sl.Thread) hF hS hp rfl sz3 (hF.ev rfl) rfl ec rfl (fun _ => rfl) (fun _ => by dsimp only [threadEK, Thread.encv, List.set] <;> rfl) (by intro _; rfl) ?_; intro w1 hS_; replace hS := hS_; clear hS_; dsimp only [List.set] at hS
  refine wl hF rfl rfl rfl (r_nilCheck (hF.ev rfl)) ?_; clear hF a; intro a hF
  refine wl hF rfl rfl rfl (r_field fo55_5 (hF.ev rfl)) ?_; clear hF a; intro a hF
  refine wl_estore (q := 0) (j := 8) (⟨_, ⟨_, _, _⟩, ⟨_, _⟩, _, _, _, _, _, _, _, _, _, _, _, _, _⟩ : Sl.Thread) hF hS hp rfl sz3 (hF.ev rfl) rfl ec rfl (fun _ => rfl) (fun _ => by dsimp only [threadEK, Thread.encv, List.set] <;> rfl) (by intro _; rfl) ?_; intro w2 hS_; replace hS := hS_; clear hS_; dsimp only [List.set] at hS
  refine wl hF rfl rfl rfl (r_nilCheck (hF.ev rfl)) ?_; clear hF a; intro a hF
  refine wl hF rfl rfl rfl (r_field fo55_6 (hF.ev rfl)) ?_; clear hF a; intro a hF
  refine wl_estore (q := 0) (j := 9) (⟨_, ⟨_, _, _⟩, ⟨_, _⟩, _, _, _, _, _, _, _, _, _, _, _, _, _⟩ : Sl.Thread) hF hS hp rfl sz3 (hF.ev rfl) rfl ec rfl (fun _ => rfl) (fun _ => by dsimp only [threadEK, Thread.encv, List.set] <;> rfl) (by intro _; rfl) ?_; intro w3 hS_; replace hS := hS_; clear hS_; dsimp only [List.set] at hS
  refine wl hF rfl rfl rfl (r_nilCheck (hF.ev rfl)) ?_; clear hF a; intro a hF
  refine wl hF rfl rfl rfl (r_field fo55_7 (hF.ev rfl)) ?_; clear hF a; intro a hF
  refine wl_estore (q := 0) (j := 10) (⟨_, ⟨_, _, _⟩, ⟨_, _⟩, _, _, _, _, _, _, _, _, _, _, _, _, _⟩ : Sl.Thread) hF hS hp rfl sz3 (hF.ev rfl) rfl ec rfl (fun _ => rfl) (fun _ => by dsimp only [threadEK, Thread.encv, List.set] <;> rfl) (by intro _; rfl) ?_; intro w4 hS_; replace hS := hS_; clear hS_; dsimp only [List.set] at hS
  refine wl hF rfl rfl rfl (r_nilCheck (hF.ev rfl)) ?_; clear hF a; intro a hF
  refine wl hF rfl rfl rfl (r_field fo55_8 (hF.ev rfl)) ?_; clear hF a; intro a hF
  refine wl_estore (q := 0) (j := 11) (⟨_, ⟨_, _, _⟩, ⟨_, _⟩, _, _, _, _, _, _, _, _, _, _, _, _, _⟩ : Sl.Thread) hF hS hp rfl sz3 (hF.ev rfl) rfl ec rfl (fun _ => rfl) (fun _ => by dsimp only [threadEK, Thread.encv, List.set] <;> rfl) (by intro _; rfl) ?_; intro w5 hS_; replace hS := hS_; clear hS_; dsimp only [List.set] at hS
  refine wl hF rfl rfl rfl (r_nilCheck (hF.ev rfl)) ?_; clear hF a; intro a hF
  refine wl hF rfl rfl rfl (r_field fo55_9 (hF.ev rfl)) ?_; clear hF a; intro a hF
  refine wl_estore (q := 0) (j := 12) (⟨_, ⟨_, _, _⟩, ⟨_, _⟩, _, _, _, _, _, _, _, _, _, _, _, _, _⟩ : Sl.Thread) hF hS hp rfl sz3 (hF.ev rfl) rfl ec rfl (fun _ => rfl) (fun _ => by dsimp only [threadEK, Thread.encv, List.set] <;> rfl) (by intro _; rfl) ?_; intro w6 hS_; replace hS := hS_; clear hS_; dsimp only [List.set] at hS
  refine wl hF rfl rfl rfl (r_nilCheck (hF.ev rfl)) ?_; clear hF a; intro a hF
  refine wl hF rfl rfl rfl (r_field fo55_10 (hF.ev rfl)) ?_; clear hF a; intro a hF
  refine wl_estore (q := 0) (j := 13) (⟨_, ⟨_, _, _⟩, ⟨_, _⟩, _, _, _, _, _, _, _, _, _, _, _, _, _⟩ : Sl.Thread) hF hS hp rfl sz3 (hF.ev rfl) rfl ec rfl (fun _ => rfl) (fun _ => by dsimp only [threadEK, Thread.encv, List.set] <;> rfl) (by intro _; rfl) ?_; intro w7 hS_; replace hS := hS_; clear hS_; dsimp only [List.set] at hS
  refine wl hF rfl rfl rfl (r_nilCheck (hF.ev rfl)) ?_; clear hF a; intro a hF
  refine wl hF rfl rfl rfl (r_field fo55_11 (hF.ev rfl)) ?_; clear hF a; intro a hF
  replace hS := hS.own_nil intEK
  refine wl_eslice (s := (_, _, _)) (k' := 0) (q := 0) (j := 14) (⟨_, ⟨_, _, _⟩, ⟨_, _⟩, _, _, _, _, _, _, _, _, _, _, _, _, _⟩ : Sl.Thread) (fun vs => [(_, _, _), vs.getD 1 (none, 0, 0), vs.getD 2 (none, 0, 0), vs.getD 3 (none, 0, 0), vs.getD 4 (none, 0, 0)]) hF hS hp rfl sz24 (hF.ev rfl) rfl ec (fun _ => rfl) (fun _ => by dsimp only [threadEK, Thread.encv, List.set] <;> rfl) (by intro _; rfl) (by intro _; rfl) ?_; intro w8 hS_; replace hS := hS_; clear hS_; dsimp only [List.set] at hS
  refine wl_nil ?_
  try simp only [Exit.then, Exit.inBlock, ↓reduceIte]
  exact ret0n rfl hF ⟨rfl, hS⟩
end Go.Proofs.Ytifhfodphoeeoaa.Wk
