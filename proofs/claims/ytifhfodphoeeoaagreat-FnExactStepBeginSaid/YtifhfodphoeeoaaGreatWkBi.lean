/- Walks: the program's StepBegin. -/
import Derived.Test.YtifhfodphoeeoaaGreatChecked
import Derived.Test.YtifhfodphoeeoaaGreatWkBg
import Derived.Test.YtifhfodphoeeoaaGreatWkLc
import Derived.Test.YtifhfodphoeeoaaGreatFactsD
namespace Go.Proofs.YtifhfodphoeeoaaGreat.Wk
open Go Go.RowKit Sl
set_option linter.unusedVariables false
set_option linter.unusedSimpArgs false
set_option maxRecDepth 20000

theorem begin_steps (s : Sl.State) (t : Sl.Thread) (p : Int) : beginS (stepped s) t p = (stepped (beginS s t p).1, (beginS s t p).2) := by
  unfold beginS
  repeat' split
  all_goals first | rfl | (exfalso; simp_all [stepped]; done)

set_option maxHeartbeats 4000000 in
set_option maxRecDepth 20000 in
theorem implIsBegin_c {W : World} {n : Int} : Calls Tryz.prog 39 #[vi n] W (Ret fun v w' => v = .bool (isB n) ∧ Below W.heap.size W w') := by
  refine calls_fr Tryz.func39 rfl Tryz.ntmps39 rfl ?_
  intro a hF
  have hS := Sep.refl W
  refine ws fun K1 hK1 => ?_
  refine wl_mvs (A := [_]) hF rfl ?_; clear hF a; intro a hF
  refine wl_nil (hK1 _ _ ?_)
  refine ws fun K2 hK2 => ?_
  refine wl_mvs (A := [_]) hF rfl ?_; clear hF a; intro a hF
  refine wl_call hF rfl rfl rfl (r_call3 en75 (hF.ev rfl) ec ec) (in_c _ _ _) ?_; clear hF a; rintro v w1 a ⟨rfl, hB_⟩ hF; replace hS := hS.ext hB_; clear hB_
  refine wl_mvs (A := [_]) hF rfl ?_; clear hF a; intro a hF
  refine wl_nil (hK2 _ _ ?_)
  refine wp_ret ?_
  try simp only [Exit.then, Exit.inBlock, ↓reduceIte]
  exact ret1 rfl hF rfl ⟨rfl, hS.old⟩

set_option maxHeartbeats 4000000 in
set_option maxRecDepth 20000 in
theorem stpBegin_c {W w : World} {l : List Res} {g gt ot mt ct p : Nat} {z0 z1 : Slv} {s : Sl.State} {t : Sl.Thread} (hp : p < s.threads.length) (hf : Fit s t) (hS : Sep W (Box g ((s).encv (sv z0) (sv z1) (.slice (some ⟨gt, ot, none⟩) mt ct)) :: Own intEK (sv z0) (s).cells :: Own intEK (sv z1) (s).generations :: Own threadEK (.slice (some ⟨gt, ot, none⟩) mt ct) (s.threads.set p t) :: l) w) : Calls Tryz.prog 40 #[.agg #[.pointer (some ⟨g, 0, none⟩), .pointer (some ⟨gt, ot + p * 19, none⟩), vi (p : Int)]] w (Ret fun v w' => v = .tuple #[] ∧ Sep W (Box g (((beginS s t (p : Int)).1).encv (sv z0) (sv z1) (.slice (some ⟨gt, ot, none⟩) mt ct)) :: Own intEK (sv z0) ((beginS s t (p : Int)).1).cells :: Own intEK (sv z1) ((beginS s t (p : Int)).1).generations :: Own threadEK (.slice (some ⟨gt, ot, none⟩) mt ct) (s.threads.set p (beginS s t (p : Int)).2) :: l) w') := by
  refine calls_fr Tryz.func40 rfl Tryz.ntmps40 rfl ?_
  intro a hF
  have hl0 := hS.own_len (q := 1) rfl
  have hl1 := hS.own_len (q := 2) rfl
  have hmt : mt = s.threads.length := by have := hS.own_len (q := 3) (s := (some ⟨gt, ot, none⟩, mt, ct)) rfl; simpa using this
  have hlc := hf.two
  refine ws fun K1 hK1 => ?_
  refine wl_box (cs := [_, _, _]) hF hS rfl (hF.ev rfl) rfl ?_; clear hF a; intro g1 w1 a hS_ hB_ hF; replace hS := hS_; clear hS_ hB_
  refine wl_nil (hK1 _ _ ?_)
  refine wp_seq_k fun K2 hK2 => ?_
  refine wp_region_calm (by kernel_rfl) (by kernel_rfl) ?_
  refine wq hF rfl rfl rfl (fun w_ hB_ => r_field fo63_1 (hF.ev rfl)) ?_; clear hF a; intro a hF
  refine wq hF rfl rfl rfl (fun w_ hB_ => r_load1 sc61 (hF.ev rfl) ((hS.ext hB_).box (i := 0) rfl rfl)) ?_; clear hF a; intro a hF
  refine wq hF rfl rfl rfl (fun w_ hB_ => r_field fo63_0 (hF.ev rfl)) ?_; clear hF a; intro a hF
  refine wq hF rfl rfl rfl (fun w_ hB_ => r_load1 sc55 (hF.ev rfl) ((hS.ext hB_).box (i := 0) rfl rfl)) ?_; clear hF a; intro a hF
  refine wq hF rfl rfl rfl (fun w_ hB_ => r_nilCheck (hF.ev rfl)) ?_; clear hF a; intro a hF
  refine wq hF rfl rfl rfl (fun w_ hB_ => r_field fo32_0 (hF.ev rfl)) ?_; clear hF a; intro a hF
  refine wq hF rfl rfl rfl (fun w_ hB_ => r_loadn ag29 (hF.ev rfl) ((hS.ext hB_).boxn (vs := [_, _, _, _, _, _]) (i := 1) (m := 6) rfl rfl) sz29) ?_; clear hF a; intro a hF
  refine wq hF rfl rfl rfl (fun w_ hB_ => r_field fo63_2 (hF.ev rfl)) ?_; clear hF a; intro a hF
  refine wq hF rfl rfl rfl (fun w_ hB_ => r_load1 sc3 (hF.ev rfl) ((hS.ext hB_).box (i := 0) rfl rfl)) ?_; clear hF a; intro a hF
  refine wq_call hF rfl rfl rfl (fun w_ hB_ => r_call2 en76 (hF.ev rfl) (hF.ev rfl)) (fun w_ hB_ => implAnnounceCell_c _ _) ?_; clear hF a; intro a hF
  refine wq_mvs (A := [_, _]) hF rfl ?_; clear hF a; intro a hF
  refine wpQuiet_nil ?_; intro w2 hB_; replace hS := hS.ext hB_; clear hB_
  refine hK2 _ _ ?_
  refine ws fun K3 hK3 => ?_
  refine wl_mvs (A := [_]) hF rfl ?_; clear hF a; intro a hF
  refine wl hF rfl rfl rfl (r_nilCheck (hF.ev rfl)) ?_; clear hF a; intro a hF
  refine wl hF rfl rfl rfl (r_field fo53_0 (hF.ev rfl)) ?_; clear hF a; intro a hF
  refine wl hF rfl rfl rfl (r_load1 sc3 (hF.ev rfl) (hS.elt1 (q := 4) (j := 0) hp rfl (fun _ => rfl))) ?_; clear hF a; intro a hF
  refine wl_nil (hK3 _ _ ?_)
  refine wp_block ?_
  refine ws fun K4 hK4 => ?_
  refine wl hF rfl rfl rfl (r_eql (hF.ev rfl) ec) ?_; clear hF a; intro a hF
  refine wl_mvs (A := [_]) hF rfl ?_; clear hF a; intro a hF
  refine wl_nil (hK4 _ _ ?_)
  refine wc_fx (t := 18) hF rfl ?_ ?_ <;> clear hF <;> intro c18 hF <;> try simp only [zb1, zb2, zb3, zb4, zb5, zb6, zb7, zb8] at c18
  ·
    refine wp_seq_k fun K5 hK5 => ?_
    refine wp_region_todo (is := [0, 1, 2, 3, 4, 5, 6]) [] [6] (by kernel_rfl) hF hS ⟨trivial, by decide, by decide, by decide⟩ (by kernel_rfl) ?_; clear hF; intro hl_ wd hSd
    refine todo_pure hl_ (by kernel_rfl) rfl (gw0 rfl) rfl rfl rfl (fun a w_ hF => r_move (hF.ev rfl)) ?_
    refine todo_load [3, 4, 5, 6] hl_ (by kernel_rfl) rfl (gw0 rfl) rfl rfl rfl (fun a w_ hF hB_ => r_loadn ag63 (hF.ev rfl) ((hSd.ext hB_).box_rd (i := 0) rfl) sz63) ?_
    refine todo_rd hl_ rfl (by kernel_rfl) rfl rfl rfl rfl rfl (fun a w_ hF => r_call0 en78 ) (fun w_ hS => implClockCell_c) ?_
    refine todo_rd hl_ rfl (by kernel_rfl) rfl rfl rfl rfl rfl (fun a w_ hF => r_call2 en77 (hF.ev rfl) (hF.ev rfl)) (fun w_ hS => stpLoad_c (fun j u hu => hS.box_rd (i := 1) rfl j u hu) (hS.own_rd (i := 2) rfl)) ?_
    refine todo_pure hl_ (by kernel_rfl) rfl (gw0 rfl) rfl rfl rfl (fun a w_ hF => r_nilCheck (hF.ev rfl)) ?_
    refine todo_pure hl_ (by kernel_rfl) rfl (gw0 rfl) rfl rfl rfl (fun a w_ hF => r_field fo53_8 (hF.ev rfl)) ?_
    refine todo_fin hl_ rfl (by kernel_rfl) (tl := [_]) rfl ?_; clear hS a; intro a w3 hF hA_
    have hS := hA_.sep; clear hA_
    clear hl_; try clear hSd
    try dsimp only [List.cons_append, List.nil_append, List.set] at hS
    try clear wd
    refine wl_estore (q := 4) (j := 11) (⟨_, ⟨_, _, _⟩, ⟨_, _⟩, _, _, _, _, _, _, _, _, _, _, _, _, _⟩ : Sl.Thread) hF hS hp rfl sz3 (hF.ev rfl) rfl (hF.ev rfl) rfl (fun _ => rfl) (fun _ => by dsimp only [threadEK, Thread.encv, List.set] <;> rfl) (by intro _; rfl) ?_; intro w4 hS_; replace hS := hS_; clear hS_; dsimp only [List.set] at hS
    refine wl_nil ⟨rfl, ?_⟩
    refine hK5 _ _ ?_
    refine wp_region_todo (is := [0, 1, 2, 3, 4, 5, 6, 7, 8, 9, 10, 11, 12, 13, 14, 15]) [] [15] (by kernel_rfl) hF hS ⟨trivial, by decide, by decide, by decide⟩ (by kernel_rfl) ?_; clear hF; intro hl_ wd hSd
    refine todo_pure hl_ (by kernel_rfl) rfl (gw0 rfl) rfl rfl rfl (fun a w_ hF => r_move (hF.ev rfl)) ?_
    refine todo_pure hl_ (by kernel_rfl) rfl (gw0 rfl) rfl rfl rfl (fun a w_ hF => r_move (hF.ev rfl)) ?_
    refine todo_pure hl_ (by kernel_rfl) rfl (gw0 rfl) rfl rfl rfl (fun a w_ hF => r_nilCheck (hF.ev rfl)) ?_
    refine todo_pure hl_ (by kernel_rfl) rfl (gw0 rfl) rfl rfl rfl (fun a w_ hF => r_field fo53_8 (hF.ev rfl)) ?_
    refine todo_load [11, 12, 13, 14, 15] hl_ (by kernel_rfl) rfl (gw0 rfl) rfl rfl rfl (fun a w_ hF hB_ => r_load1 sc3 (hF.ev rfl) ((hSd.ext hB_).elt1 (q := 4) (j := 11) hp rfl (fun _ => rfl))) ?_
    refine todo_pure hl_ (by kernel_rfl) rfl (gw0 rfl) rfl rfl rfl (fun a w_ hF => r_field fo63_0 (hF.ev rfl)) ?_
    refine todo_load [7, 8, 9, 10, 11, 12, 13, 14, 15] hl_ (by kernel_rfl) rfl (gw0 rfl) rfl rfl rfl (fun a w_ hF hB_ => r_load1 sc55 (hF.ev rfl) ((hSd.ext hB_).box (i := 0) rfl rfl)) ?_
    refine todo_pure hl_ (by kernel_rfl) rfl (gw0 rfl) rfl rfl rfl (fun a w_ hF => r_nilCheck (hF.ev rfl)) ?_
    refine todo_pure hl_ (by kernel_rfl) rfl (gw0 rfl) rfl rfl rfl (fun a w_ hF => r_field fo32_0 (hF.ev rfl)) ?_
    refine todo_pure hl_ (by kernel_rfl) rfl (gw0 rfl) rfl rfl rfl (fun a w_ hF => r_field fo29_5 (hF.ev rfl)) ?_
    refine todo_load [11, 12, 13, 14, 15] hl_ (by kernel_rfl) rfl (gw0 rfl) rfl rfl rfl (fun a w_ hF hB_ => r_load1 sc3 (hF.ev rfl) ((hSd.ext hB_).box (i := 1) rfl rfl)) ?_
    refine todo_pure hl_ (by kernel_rfl) rfl (gw0 rfl) rfl rfl rfl (fun a w_ hF => r_geq (hF.ev rfl) (hF.ev rfl)) ?_
    refine todo_rd hl_ rfl (by kernel_rfl) rfl rfl rfl rfl rfl (fun a w_ hF => r_call3 en79 (hF.ev rfl) ec ec) (fun w_ hS => choose_c) ?_
    refine todo_pure hl_ (by kernel_rfl) rfl (gw0 rfl) rfl rfl rfl (fun a w_ hF => r_nilCheck (hF.ev rfl)) ?_
    refine todo_pure hl_ (by kernel_rfl) rfl (gw0 rfl) rfl rfl rfl (fun a w_ hF => r_field fo53_0 (hF.ev rfl)) ?_
    refine todo_fin hl_ rfl (by kernel_rfl) (tl := [_]) rfl ?_; clear hS a; intro a w5 hF hA_
    have hS := hA_.sep; clear hA_
    clear hl_; try clear hSd
    try dsimp only [List.cons_append, List.nil_append, List.set] at hS
    try clear wd
    refine wl_estore (q := 4) (j := 0) (⟨_, ⟨_, _, _⟩, ⟨_, _⟩, _, _, _, _, _, _, _, _, _, _, _, _, _⟩ : Sl.Thread) hF hS hp rfl sz3 (hF.ev rfl) rfl (hF.ev rfl) rfl (fun _ => rfl) (fun _ => by dsimp only [threadEK, Thread.encv, List.set] <;> rfl) (by intro _; rfl) ?_; intro w6 hS_; replace hS := hS_; clear hS_; dsimp only [List.set] at hS
    refine wl_nil ⟨rfl, ?_⟩
    try simp only [Exit.then, Exit.inBlock, ↓reduceIte]
    simp only [load0 hlc, decide_eq_true_eq] at hS
    refine ret0n rfl hF ⟨rfl, ?_⟩
    unfold beginS
    rw [if_pos c18]
    exact (Sep.headp (A := [_, _, _, _, _]) (B := [_, _, _, _]) hS [1, 2, 3, 4] (by decide) rfl rfl)
  refine ws fun K6 hK6 => ?_
  refine wl hF rfl rfl rfl (r_eql (hF.ev rfl) ec) ?_; clear hF a; intro a hF
  refine wl_mvs (A := [_]) hF rfl ?_; clear hF a; intro a hF
  refine wl_nil (hK6 _ _ ?_)
  refine wc_fx (t := 41) hF rfl ?_ ?_ <;> clear hF <;> intro c41 hF <;> try simp only [zb1, zb2, zb3, zb4, zb5, zb6, zb7, zb8] at c41
  ·
    refine wp_seq_k fun K7 hK7 => ?_
    refine wp_region_J (is := [0, 1, 2, 3, 4, 5, 6]) (fun (_ : Unit) r => r) _ (()) [6] (by kernel_rfl) hF hS (by kernel_rfl) ?_; clear hF hS a
    refine tj_load [6] (by kernel_rfl) rfl (gw0 rfl) rfl rfl (fun a w_ x_ hF hS => r_loadn ag63 (hF.ev rfl) (hS.box_rd (i := 0) rfl) sz63) ?_
    refine tj_pure (by kernel_rfl) rfl (gw0 rfl) rfl rfl (fun a w_ hF => r_move (hF.ev rfl)) ?_
    refine tj_pure (by kernel_rfl) rfl (gw0 rfl) rfl rfl (fun a w_ hF => r_move (hF.ev rfl)) ?_
    refine tj_pure (by kernel_rfl) rfl (gw0 rfl) rfl rfl (fun a w_ hF => r_nilCheck (hF.ev rfl)) ?_
    refine tj_pure (by kernel_rfl) rfl (gw0 rfl) rfl rfl (fun a w_ hF => r_field fo53_8 (hF.ev rfl)) ?_
    refine tj_load [6] (by kernel_rfl) rfl (gw0 rfl) rfl rfl (fun a w_ x_ hF hS => r_load1 sc3 (hF.ev rfl) (hS.elt1 (q := 4) (j := 11) hp rfl (fun _ => rfl))) ?_
    refine tj_fin (tl := [_]) (by kernel_rfl) rfl ?_; intro a w7 hF hS; try dsimp only at hS
    replace hS := Sep.headp (A := [_, _, _, _, _]) (B := [_, _, _, _, _]) hS [1, 2, 0, 3, 4] (by decide) rfl rfl
    refine wl_call hF rfl rfl rfl (r_call3 en80 (hF.ev rfl) (hF.ev rfl) (hF.ev rfl)) (stpStore_c (s := s) hS) ?_; clear hF a; rintro v w8 a ⟨rfl, hS_⟩ hF; replace hS := hS_; clear hS_
    refine wl_nil ⟨rfl, ?_⟩
    refine hK7 _ _ ?_
    refine wp_region_lit ?_
    refine wl_mvs (A := [_]) hF rfl ?_; clear hF a; intro a hF
    refine wl hF rfl rfl rfl (r_nilCheck (hF.ev rfl)) ?_; clear hF a; intro a hF
    refine wl hF rfl rfl rfl (r_field fo53_0 (hF.ev rfl)) ?_; clear hF a; intro a hF
    refine wl_estore (q := 4) (j := 0) (⟨_, ⟨_, _, _⟩, ⟨_, _⟩, _, _, _, _, _, _, _, _, _, _, _, _, _⟩ : Sl.Thread) hF hS hp rfl sz3 (hF.ev rfl) rfl ec rfl (fun _ => rfl) (fun _ => by dsimp only [threadEK, Thread.encv, List.set] <;> rfl) (by intro _; rfl) ?_; intro w9 hS_; replace hS := hS_; clear hS_; dsimp only [List.set] at hS
    refine wl_nil ?_
    try simp only [Exit.then, Exit.inBlock, ↓reduceIte]
    refine ret0n rfl hF ⟨rfl, ?_⟩
    unfold beginS
    rw [if_neg c18, if_pos c41]
    exact (Sep.headp (A := [_, _, _, _, _]) (B := [_, _, _, _]) hS [0, 1, 3, 4] (by decide) rfl rfl)
  refine ws fun K8 hK8 => ?_
  refine wl hF rfl rfl rfl (r_eql (hF.ev rfl) ec) ?_; clear hF a; intro a hF
  refine wl_mvs (A := [_]) hF rfl ?_; clear hF a; intro a hF
  refine wl_nil (hK8 _ _ ?_)
  refine wc_fx (t := 53) hF rfl ?_ ?_ <;> clear hF <;> intro c53 hF <;> try simp only [zb1, zb2, zb3, zb4, zb5, zb6, zb7, zb8] at c53
  ·
    refine wp_region_J (is := [0, 1, 4, 5, 6, 7, 2, 3, 8, 9]) (fun (_ : Unit) r => r) _ (()) [9] (by kernel_rfl) hF hS (by kernel_rfl) ?_; clear hF hS a
    refine tj_load [9] (by kernel_rfl) rfl (gw0 rfl) rfl rfl (fun a w_ x_ hF hS => r_loadn ag63 (hF.ev rfl) (hS.box_rd (i := 0) rfl) sz63) ?_
    refine tj_load [3, 8, 9] (by kernel_rfl) rfl (gw0 rfl) rfl rfl (fun a w_ x_ hF hS => r_loadn ag63 (hF.ev rfl) (hS.box_rd (i := 0) rfl) sz63) ?_
    refine tj_pure (by kernel_rfl) rfl (gw0 rfl) rfl rfl (fun a w_ hF => r_move (hF.ev rfl)) ?_
    refine tj_pure (by kernel_rfl) rfl (gw0 rfl) rfl rfl (fun a w_ hF => r_nilCheck (hF.ev rfl)) ?_
    refine tj_pure (by kernel_rfl) rfl (gw0 rfl) rfl rfl (fun a w_ hF => r_field fo53_8 (hF.ev rfl)) ?_
    refine tj_load [8, 9] (by kernel_rfl) rfl (gw0 rfl) rfl rfl (fun a w_ x_ hF hS => r_load1 sc3 (hF.ev rfl) (hS.elt1 (q := 4) (j := 11) hp rfl (fun _ => rfl))) ?_
    refine tj_rd (by kernel_rfl) rfl (gw0 rfl) rfl rfl (fun a w_ hF => r_call0 en78 ) (fun w_ hS => implClockCell_c) ?_
    refine tj_rd (by kernel_rfl) rfl (gw0 rfl) rfl rfl (fun a w_ hF => r_call2 en77 (hF.ev rfl) (hF.ev rfl)) (fun w_ hS => stpLoad_c (fun j u hu => hS.box_rd (i := 1) rfl j u hu) (hS.own_rd (i := 2) rfl)) ?_
    refine tj_pure (by kernel_rfl) rfl (gw0 rfl) rfl rfl (fun a w_ hF => r_eql (hF.ev rfl) (hF.ev rfl)) ?_
    refine tj_fin (tl := [_]) (by kernel_rfl) rfl ?_; intro a w10 hF hS; try dsimp only at hS
    replace hS := Sep.headp (A := [_, _, _, _, _]) (B := [_, _, _, _, _]) hS [1, 4, 0, 2, 3] (by decide) rfl rfl
    refine wl_call hF rfl rfl rfl (r_call4 en81 (hF.ev rfl) (hF.ev rfl) ec ec) (stpNext_c (s := s) hp hS) ?_; clear hF a; rintro v w11 a ⟨rfl, hS_⟩ hF; replace hS := hS_; clear hS_
    refine wl_nil ⟨rfl, ?_⟩
    try simp only [Exit.then, Exit.inBlock, ↓reduceIte]
    rw [load0 hlc] at hS
    refine ret0n rfl hF ⟨rfl, ?_⟩
    unfold beginS
    by_cases hq : at0 s.cells 0 = t.seen
    · rw [if_neg c18, if_neg c41, if_pos c53, if_pos hq]; rw [decide_eq_true hq] at hS; exact (Sep.headp (A := [_, _, _, _, _]) (B := [_, _, _, _]) hS [0, 3, 4, 1] (by decide) rfl rfl)
    · rw [if_neg c18, if_neg c41, if_pos c53, if_neg hq]; rw [decide_eq_false hq] at hS; exact (Sep.headp (A := [_, _, _, _, _]) (B := [_, _, _, _]) hS [0, 3, 4, 1] (by decide) rfl rfl)
  refine ws fun K9 hK9 => ?_
  refine wl hF rfl rfl rfl (r_eql (hF.ev rfl) ec) ?_; clear hF a; intro a hF
  refine wl_mvs (A := [_]) hF rfl ?_; clear hF a; intro a hF
  refine wl_nil (hK9 _ _ ?_)
  refine wc_fx (t := 65) hF rfl ?_ ?_ <;> clear hF <;> intro c65 hF <;> try simp only [zb1, zb2, zb3, zb4, zb5, zb6, zb7, zb8] at c65
  ·
    refine wp_seq_k fun K10 hK10 => ?_
    refine wp_region_J (is := [0, 2, 3, 4, 5, 6, 7, 8, 9, 10, 1, 11]) (fun (_ : Unit) r => r) _ (()) [11] (by kernel_rfl) hF hS (by kernel_rfl) ?_; clear hF hS a
    refine tj_load [11] (by kernel_rfl) rfl (gw0 rfl) rfl rfl (fun a w_ x_ hF hS => r_loadn ag63 (hF.ev rfl) (hS.box_rd (i := 0) rfl) sz63) ?_
    refine tj_pure (by kernel_rfl) rfl (gw0 rfl) rfl rfl (fun a w_ hF => r_move (hF.ev rfl)) ?_
    refine tj_pure (by kernel_rfl) rfl (gw0 rfl) rfl rfl (fun a w_ hF => r_nilCheck (hF.ev rfl)) ?_
    refine tj_pure (by kernel_rfl) rfl (gw0 rfl) rfl rfl (fun a w_ hF => r_field fo53_8 (hF.ev rfl)) ?_
    refine tj_load [11] (by kernel_rfl) rfl (gw0 rfl) rfl rfl (fun a w_ x_ hF hS => r_load1 sc3 (hF.ev rfl) (hS.elt1 (q := 4) (j := 11) hp rfl (fun _ => rfl))) ?_
    refine tj_pure (by kernel_rfl) rfl (gw0 rfl) rfl rfl (fun a w_ hF => r_move (hF.ev rfl)) ?_
    refine tj_pure (by kernel_rfl) rfl (gw0 rfl) rfl rfl (fun a w_ hF => r_nilCheck (hF.ev rfl)) ?_
    refine tj_pure (by kernel_rfl) rfl (gw0 rfl) rfl rfl (fun a w_ hF => r_field fo53_8 (hF.ev rfl)) ?_
    refine tj_load [10, 11] (by kernel_rfl) rfl (gw0 rfl) rfl rfl (fun a w_ x_ hF hS => r_load1 sc3 (hF.ev rfl) (hS.elt1 (q := 4) (j := 11) hp rfl (fun _ => rfl))) ?_
    refine tj_pure (by kernel_rfl) rfl (gw0 rfl) rfl rfl (fun a w_ hF => r_add (hF.ev rfl) ec) ?_
    refine tj_rd (by kernel_rfl) rfl (gw0 rfl) rfl rfl (fun a w_ hF => r_call0 en78 ) (fun w_ hS => implClockCell_c) ?_
    refine tj_fin (tl := [_]) (by kernel_rfl) rfl ?_; intro a w12 hF hS; try dsimp only at hS
    replace hS := Sep.headp (A := [_, _, _, _, _]) (B := [_, _, _, _, _]) hS [1, 2, 0, 3, 4] (by decide) rfl rfl
    refine wl_call hF rfl rfl rfl (r_call4 en82 (hF.ev rfl) (hF.ev rfl) (hF.ev rfl) (hF.ev rfl)) (stpSwap_c (s := s) hS) ?_; clear hF a; rintro v w13 a ⟨rfl, hS_⟩ hF; replace hS := hS_; clear hS_
    refine wl_nil ⟨rfl, ?_⟩
    refine hK10 _ _ ?_
    refine ws fun K11 hK11 => ?_
    refine wl_mvs (A := [_, _]) hF rfl ?_; clear hF a; intro a hF
    refine wl hF rfl rfl rfl (r_nilCheck (hF.ev rfl)) ?_; clear hF a; intro a hF
    refine wl hF rfl rfl rfl (r_field fo53_8 (hF.ev rfl)) ?_; clear hF a; intro a hF
    refine wl hF rfl rfl rfl (r_load1 sc3 (hF.ev rfl) (hS.elt1 (q := 4) (j := 11) hp rfl (fun _ => rfl))) ?_; clear hF a; intro a hF
    refine wl hF rfl rfl rfl (r_nilCheck (hF.ev rfl)) ?_; clear hF a; intro a hF
    refine wl hF rfl rfl rfl (r_field fo53_3 (hF.ev rfl)) ?_; clear hF a; intro a hF
    refine wl_estore (q := 4) (j := 6) (⟨_, ⟨_, _, _⟩, ⟨_, _⟩, _, _, _, _, _, _, _, _, _, _, _, _, _⟩ : Sl.Thread) hF hS hp rfl sz3 (hF.ev rfl) rfl (hF.ev rfl) rfl (fun _ => rfl) (fun _ => by dsimp only [threadEK, Thread.encv, List.set] <;> rfl) (by intro _; rfl) ?_; intro w14 hS_; replace hS := hS_; clear hS_; dsimp only [List.set] at hS
    refine wl_nil (hK11 _ _ ?_)
    refine wp_region_lit ?_
    refine wl_mvs (A := [_]) hF rfl ?_; clear hF a; intro a hF
    refine wl hF rfl rfl rfl (r_build (bd50) trivial) ?_; clear hF a; intro a hF
    replace hS := Sep.headp (A := [_, _, _, _, _]) (B := [_, _, _, _, _]) hS [4, 0, 1, 2, 3] (by decide) rfl rfl
    refine wl_call hF rfl rfl rfl (r_call2 en83 (hF.ev rfl) (hF.ev rfl)) (thEnd_c (r := ⟨0, 0⟩) hp hS) ?_; clear hF a; rintro v w15 a ⟨rfl, hS_⟩ hF; replace hS := hS_; clear hS_
    refine wl_nil ?_
    try simp only [Exit.then, Exit.inBlock, ↓reduceIte]
    refine ret0n rfl hF ⟨rfl, ?_⟩
    unfold beginS
    rw [if_neg c18, if_neg c41, if_neg c53, if_pos c65]
    exact (Sep.headp (A := [_, _, _, _, _]) (B := [_, _, _, _]) hS [1, 2, 4, 0] (by decide) rfl rfl)
  refine ws fun K12 hK12 => ?_
  refine wl hF rfl rfl rfl (r_eql (hF.ev rfl) ec) ?_; clear hF a; intro a hF
  refine wl_mvs (A := [_]) hF rfl ?_; clear hF a; intro a hF
  refine wl_nil (hK12 _ _ ?_)
  refine wc_fx (t := 89) hF rfl ?_ ?_ <;> clear hF <;> intro c89 hF <;> try simp only [zb1, zb2, zb3, zb4, zb5, zb6, zb7, zb8] at c89
  ·
    refine ws fun K13 hK13 => ?_
    refine wl hF rfl rfl rfl (r_loadn ag63 (hF.ev rfl) (hS.box_rd (i := 0) rfl) sz63) ?_; clear hF a; intro a hF
    refine wl_mvs (A := [_]) hF rfl ?_; clear hF a; intro a hF
    replace hS := Sep.headp (A := [_, _, _, _, _]) (B := [_, _, _, _, _]) hS [1, 2, 0, 3, 4] (by decide) rfl rfl
    refine wl_call hF rfl rfl rfl (r_call3 en80 (hF.ev rfl) (hF.ev rfl) ec) (stpStore_c (s := s) hS) ?_; clear hF a; rintro v w16 a ⟨rfl, hS_⟩ hF; replace hS := hS_; clear hS_
    refine wl_nil (hK13 _ _ ?_)
    refine wp_region_lit ?_
    refine wl_mvs (A := [_]) hF rfl ?_; clear hF a; intro a hF
    refine wl hF rfl rfl rfl (r_build (bd50_0 _) ⟨rfl, ec, trivial⟩) ?_; clear hF a; intro a hF
    replace hS := Sep.headp (A := [_, _, _, _, _]) (B := [_, _, _, _, _]) hS [4, 0, 1, 2, 3] (by decide) rfl rfl
    refine wl_call hF rfl rfl rfl (r_call2 en83 (hF.ev rfl) (hF.ev rfl)) (thEnd_c (r := ⟨5, 0⟩) hp hS) ?_; clear hF a; rintro v w17 a ⟨rfl, hS_⟩ hF; replace hS := hS_; clear hS_
    refine wl_nil ?_
    try simp only [Exit.then, Exit.inBlock, ↓reduceIte]
    refine ret0n rfl hF ⟨rfl, ?_⟩
    unfold beginS
    rw [if_neg c18, if_neg c41, if_neg c53, if_neg c65, if_pos c89]
    exact (Sep.headp (A := [_, _, _, _, _]) (B := [_, _, _, _]) hS [1, 2, 4, 0] (by decide) rfl rfl)
  refine wp_skip ?_
  try simp only [Exit.then, Exit.inBlock, ↓reduceIte]
  refine ret0n rfl hF ⟨rfl, ?_⟩
  unfold beginS
  rw [if_neg c18, if_neg c41, if_neg c53, if_neg c65, if_neg c89]
  exact (Sep.headp (A := [_, _, _, _, _]) (B := [_, _, _, _]) hS [1, 2, 3, 4] (by decide) rfl rfl)

set_option maxHeartbeats 4000000 in
set_option maxRecDepth 20000 in
theorem implStepBegin_c {W : World} {s : Sl.State} {cs : List Value} {p : Int} (hm : stateEK.K W s cs) (hw : s.wf) (hz : (s.size : Int) ≤ 1048576) (hp0 : int64 p) : Calls Tryz.prog 12 #[.agg cs.toArray, vi p] W (Ret (Mk W (fun vs => .tuple #[.agg (stateEK.cells (stepOf isB beginS s p).1 vs).toArray, .bool (stepOf isB beginS s p).2]) (fun vs => [Part stateEK (stepOf isB beginS s p).1 vs]))) := by
  refine calls_fr Tryz.func12 rfl Tryz.ntmps12 rfl ?_
  intro a hF
  have hS := Sep.refl W
  obtain ⟨v0, v1, v2, rfl, r0, r1, r2⟩ := hm
  have hm : stateEK.K W s (s.encv v0 v1 v2) := ⟨_, _, _, rfl, r0, r1, r2⟩
  obtain ⟨A_a, q_a, rfl, hq_a, hn_a⟩ := r0.sl; unfold maxLen at hn_a
  obtain ⟨A_b, q_b, rfl, hq_b, hn_b⟩ := r1.sl; unfold maxLen at hn_b
  obtain ⟨A_c, q_c, rfl, hq_c, hn_c⟩ := r2.sl; unfold maxLen at hn_c
  refine ws fun K1 hK1 => ?_
  refine wl_box (cs := [_, _, _, _, _, _, _, _, _, _, _, _, _]) hF hS rfl (hF.ev rfl) rfl ?_; clear hF a; intro g1 w1 a hS_ hB_ hF; replace hS := hS_; clear hS_ hB_
  refine wl_alloc hF hS rfl zr32 ?_; clear hF a; intro g2 w2 a hS_ hB_ hF; replace hS := hS_; clear hS_ hB_
  refine wl_mvs (A := [_]) hF rfl ?_; clear hF a; intro a hF
  refine wl_nil (hK1 _ _ ?_)
  refine ws fun K2 hK2 => ?_
  refine wl hF rfl rfl rfl (r_loadn ag32 (hF.ev rfl) (hS.box_rd (i := 1) rfl) sz32) ?_; clear hF a; intro a hF
  refine wl_mvs (A := [_]) hF rfl ?_; clear hF a; intro a hF
  refine wl_mk hF hS rfl rfl rfl (r_call4 en38 (hF.ev rfl) (hF.ev rfl) ef ef) (stepIf_c (isf := isB) (stf := stepBy beginS) (hS.k hm) hw hz hp0 (by kernel_rfl) (by kernel_rfl) (fun w_ n hB_ => by rw [app_0]; exact implIsBegin_c) (fun p' z0 z1 gt ot mt ct g l w_ hso hpe hp hmt hpc hS_ => by subst hpe; rw [app_0]; exact stpBegin_c hp (Fit.of hso hw hp) hS_)) ?_; clear hF a; rintro vs8 w3 a hS_ hF; replace hS := hS_; clear hS_; dsimp only [List.cons_append, List.nil_append] at hS
  refine wl hF rfl rfl rfl (r_extract (hF.ev rfl) rfl) ?_; clear hF a; intro a hF
  refine wl hF rfl rfl rfl (r_extract (hF.ev rfl) rfl) ?_; clear hF a; intro a hF
  refine wl_storew hF hS (i := 1) rfl (hF.ev rfl) (hF.ev rfl) sz32 rfl rfl ?_; intro w4 hS_; replace hS := hS_; clear hS_; dsimp only [List.set, Nat.reduceAdd] at hS
  refine wl_mvs (A := [_]) hF rfl ?_; clear hF a; intro a hF
  refine wl_nil (hK2 _ _ ?_)
  refine wp_ret ?_
  try simp only [Exit.then, Exit.inBlock, ↓reduceIte]
  refine ret2c rfl ag32 hF hS (i := 1) rfl sz32 rfl rfl ⟨vs8, ?_, ?_⟩
  · rw [← stepI_of begin_steps] <;> rfl
  · rw [← stepI_of begin_steps]; exact hS.pick [0] (by decide) rfl

end Go.Proofs.YtifhfodphoeeoaaGreat.Wk
