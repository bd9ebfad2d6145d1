/- Walks: LoadCell. -/
import Derived.Test.YtifhfodphoeeoaaGreatChecked
import Derived.Test.YtifhfodphoeeoaaGreatWkSq
import Derived.Test.YtifhfodphoeeoaaGreatFactsC
namespace Go.Proofs.YtifhfodphoeeoaaGreat.Wk
open Go Go.RowKit Sl
set_option linter.unusedVariables false
set_option linter.unusedSimpArgs false
set_option maxRecDepth 20000

set_option maxHeartbeats 4000000 in
set_option maxRecDepth 20000 in
theorem implLoadCell_c {W : World} {va : Value} {xs : List Int} {a_ : Int} (ha : intEK.Rd W va xs) : Calls Tryz.prog 138 #[va, vi a_] W (Ret fun v w' => v = .tuple #[vi (loadC xs a_), .bool (decide (0 ≤ a_ ∧ a_ < xs.length))] ∧ Below W.heap.size W w') := by
  refine calls_fr Tryz.func138 rfl Tryz.ntmps138 rfl ?_
  intro a hF
  have hS := Sep.refl W
  obtain ⟨A_a, q_a, rfl, hq_a, hn_a⟩ := ha.sl; unfold maxLen at hn_a
  refine ws fun K1 hK1 => ?_
  refine wl_mvs (A := [_, _]) hF rfl ?_; clear hF a; intro a hF
  refine wl_nil (hK1 _ _ ?_)
  refine wp_seq_k fun K2 hK2 => ?_
  refine ws fun K3 hK3 => ?_
  refine wl_mvs (A := [_, _]) hF rfl ?_; clear hF a; intro a hF
  refine wl hF rfl rfl rfl (r_len ul24 (hF.ev rfl)) ?_; clear hF a; intro a hF
  refine wl hF rfl rfl rfl (r_sub (hF.ev rfl) ec) ?_; clear hF a; intro a hF
  refine wl_call hF rfl rfl rfl (r_call3 en75 (hF.ev rfl) ec (hF.ev rfl)) (in_c _ _ _) ?_; clear hF a; rintro v w1 a ⟨rfl, hB_⟩ hF; replace hS := hS.ext hB_; clear hB_
  refine wl hF rfl rfl rfl (r_not (hF.ev rfl)) ?_; clear hF a; intro a hF
  refine wl_nil (hK3 _ _ ?_)
  refine wc_fx (t := 11) hF rfl ?_ ?_ <;> clear hF <;> intro c11 hF <;> try simp only [zb1, zb2, zb3, zb4, zb5, zb6, zb7, zb8] at c11
  ·
    rw [w64_id (by omega) (by omega)] at c11
    refine ws fun K4 hK4 => ?_
    refine wl_mvs (A := [_, _]) hF rfl ?_; clear hF a; intro a hF
    refine wl_nil (hK4 _ _ ?_)
    refine wp_ret ?_
    try simp only [Exit.then, Exit.inBlock, ↓reduceIte]
    refine ret2 rfl hF rfl rfl ⟨?_, hS.old⟩
    first
      | (rw [show loadC xs a_ = 0 from if_neg (by omega), decide_eq_false (by omega)]; done)
      | (rw [show loadC xs a_ = at0 xs a_ from if_pos (by omega), decide_eq_true (show 0 ≤ a_ ∧ a_ < xs.length by omega)]; done)
  rw [w64_id (by omega) (by omega)] at c11
  refine wp_skip ?_
  refine hK2 _ _ ?_
  refine ws fun K5 hK5 => ?_
  refine wl_mvs (A := [_, _]) hF rfl ?_; clear hF a; intro a hF
  obtain ⟨g14, o14, m14, q14, hv14, hm14, hl14, hc14⟩ := Rd.atF (ha) (a := a) (X := .tmp 13) (hF.ev rfl) (by omega) (by omega)
  refine wl hF rfl rfl rfl (r_index sl24 ((hF.ev rfl).trans hv14) (hF.ev rfl) (by omega) (by first | omega | (simp at hm14; omega))) ?_; clear hF a; intro a hF
  refine wl hF rfl rfl rfl (r_load1 sc3 (hF.ev rfl) (cellB hS.old (hc14 0 _ rfl))) ?_; clear hF a; intro a hF
  refine wl_mvs (A := [_, _]) hF rfl ?_; clear hF a; intro a hF
  refine wl_nil (hK5 _ _ ?_)
  refine wp_ret ?_
  try simp only [Exit.then, Exit.inBlock, ↓reduceIte]
  refine ret2 rfl hF rfl rfl ⟨?_, hS.old⟩
  first
    | (rw [show loadC xs a_ = 0 from if_neg (by omega), decide_eq_false (by omega)]; done)
    | (rw [show loadC xs a_ = at0 xs a_ from if_pos (by omega), decide_eq_true (show 0 ≤ a_ ∧ a_ < xs.length by omega)]; done)

set_option maxHeartbeats 4000000 in
set_option maxRecDepth 20000 in
theorem stpLoad_c {W : World} {s : Sl.State} {g gt ot p : Nat} {v0 v1 v2 : Value} (hc : ∀ j u, (s.encv v0 v1 v2)[j]? = some u → W.cell? ⟨g, 0 + j, none⟩ = some u) (hr : intEK.Rd W v0 s.cells) {a_ : Int} : Calls Tryz.prog 77 #[.agg #[.pointer (some ⟨g, 0, none⟩), .pointer (some ⟨gt, ot + p * 19, none⟩), vi (p : Int)], vi a_] W (Ret fun v w' => v = vi (loadC s.cells a_) ∧ Below W.heap.size W w') := by
  refine calls_fr Tryz.func77 rfl Tryz.ntmps77 rfl ?_
  intro a hF
  have hS := Sep.refl W
  obtain ⟨A_a, q_a, rfl, hq_a, hn_a⟩ := hr.sl; unfold maxLen at hn_a
  refine ws fun K1 hK1 => ?_
  refine wl_box (cs := [_, _, _]) hF hS rfl (hF.ev rfl) rfl ?_; clear hF a; intro g1 w1 a hS_ hB_ hF; replace hS := hS_; clear hS_ hB_
  refine wl_mvs (A := [_]) hF rfl ?_; clear hF a; intro a hF
  refine wl_nil (hK1 _ _ ?_)
  refine ws fun K2 hK2 => ?_
  refine wl hF rfl rfl rfl (r_field fo63_0 (hF.ev rfl)) ?_; clear hF a; intro a hF
  refine wl hF rfl rfl rfl (r_load1 sc55 (hF.ev rfl) (hS.box (i := 0) rfl rfl)) ?_; clear hF a; intro a hF
  refine wl hF rfl rfl rfl (r_nilCheck (hF.ev rfl)) ?_; clear hF a; intro a hF
  refine wl hF rfl rfl rfl (r_field fo32_1 (hF.ev rfl)) ?_; clear hF a; intro a hF
  refine wl hF rfl rfl rfl (r_load1 sc24 (hF.ev rfl) (cellB hS.old (hc 6 _ rfl))) ?_; clear hF a; intro a hF
  refine wl_mvs (A := [_]) hF rfl ?_; clear hF a; intro a hF
  refine wl_call hF rfl rfl rfl (r_call2 en138 (hF.ev rfl) (hF.ev rfl)) (implLoadCell_c (hS.rd hr)) ?_; clear hF a; rintro v w2 a ⟨rfl, hB_⟩ hF; replace hS := hS.ext hB_; clear hB_
  refine wl_mvs (A := [_]) hF rfl ?_; clear hF a; intro a hF
  refine wl hF rfl rfl rfl (r_extract (hF.ev rfl) rfl) ?_; clear hF a; intro a hF
  refine wl hF rfl rfl rfl (r_extract (hF.ev rfl) rfl) ?_; clear hF a; intro a hF
  refine wl_mvs (A := [_, _]) hF rfl ?_; clear hF a; intro a hF
  refine wl_nil (hK2 _ _ ?_)
  refine ws fun K3 hK3 => ?_
  refine wl_mvs (A := [_, _]) hF rfl ?_; clear hF a; intro a hF
  refine wl_nil (hK3 _ _ ?_)
  refine wp_ret ?_
  try simp only [Exit.then, Exit.inBlock, ↓reduceIte]
  exact ret1 rfl hF rfl ⟨rfl, hS.old⟩

set_option maxHeartbeats 4000000 in
set_option maxRecDepth 20000 in
theorem stpGuard_c {W w : World} {l : List Res} {g gt ot p : Nat} {v0 v1 v2 : Value} {s : Sl.State} {i_ v : Int} (hS : Sep W (Box g (s.encv v0 v1 v2) :: Own intEK v0 s.cells :: l) w) : Calls Tryz.prog 99 #[.agg #[.pointer (some ⟨g, 0, none⟩), .pointer (some ⟨gt, ot + p * 19, none⟩), vi (p : Int)], vi i_, vi v] w (Ret fun u w' => u = .tuple #[] ∧ Sep W (Box g ((putS s (hazardCell s.config (p : Int) i_) v).encv v0 v1 v2) :: Own intEK v0 (putS s (hazardCell s.config (p : Int) i_) v).cells :: l) w') := by
  refine calls_fr Tryz.func99 rfl Tryz.ntmps99 rfl ?_
  intro a hF
  obtain ⟨z0, rfl⟩ := hS.own_sv (q := 1) rfl
  have hl0 := hS.own_len (q := 1) rfl
  refine ws fun K1 hK1 => ?_
  refine wl_box (cs := [_, _, _]) hF hS rfl (hF.ev rfl) rfl ?_; clear hF a; intro g1 w1 a hS_ hB_ hF; replace hS := hS_; clear hS_ hB_
  refine wl_nil (hK1 _ _ ?_)
  refine wp_region_todo (is := [0, 1, 2, 3, 4, 5, 6, 7, 8, 10, 9, 11]) [] [11] (by kernel_rfl) hF hS ⟨trivial, by decide, by decide, by decide⟩ (by kernel_rfl) ?_; clear hF; intro hl_ wd hSd
  refine todo_load [11] hl_ (by kernel_rfl) rfl (gw0 rfl) rfl rfl rfl (fun a w_ hF hB_ => r_loadn ag63 (hF.ev rfl) ((hSd.ext hB_).box_rd (i := 0) rfl) sz63) ?_
  refine todo_pure hl_ (by kernel_rfl) rfl (gw0 rfl) rfl rfl rfl (fun a w_ hF => r_field fo63_0 (hF.ev rfl)) ?_
  refine todo_load [3, 4, 5, 9, 11] hl_ (by kernel_rfl) rfl (gw0 rfl) rfl rfl rfl (fun a w_ hF hB_ => r_load1 sc55 (hF.ev rfl) ((hSd.ext hB_).box (i := 0) rfl rfl)) ?_
  refine todo_pure hl_ (by kernel_rfl) rfl (gw0 rfl) rfl rfl rfl (fun a w_ hF => r_nilCheck (hF.ev rfl)) ?_
  refine todo_pure hl_ (by kernel_rfl) rfl (gw0 rfl) rfl rfl rfl (fun a w_ hF => r_field fo32_0 (hF.ev rfl)) ?_
  refine todo_load [9, 11] hl_ (by kernel_rfl) rfl (gw0 rfl) rfl rfl rfl (fun a w_ hF hB_ => r_loadn ag29 (hF.ev rfl) ((hSd.ext hB_).boxn (vs := [_, _, _, _, _, _]) (i := 1) (m := 6) rfl rfl) sz29) ?_
  refine todo_pure hl_ (by kernel_rfl) rfl (gw0 rfl) rfl rfl rfl (fun a w_ hF => r_field fo63_2 (hF.ev rfl)) ?_
  refine todo_load [9, 11] hl_ (by kernel_rfl) rfl (gw0 rfl) rfl rfl rfl (fun a w_ hF hB_ => r_load1 sc3 (hF.ev rfl) ((hSd.ext hB_).box (i := 0) rfl rfl)) ?_
  refine todo_pure hl_ (by kernel_rfl) rfl (gw0 rfl) rfl rfl rfl (fun a w_ hF => r_move (hF.ev rfl)) ?_
  refine todo_pure hl_ (by kernel_rfl) rfl (gw0 rfl) rfl rfl rfl (fun a w_ hF => r_move (hF.ev rfl)) ?_
  refine todo_rd hl_ rfl (by kernel_rfl) rfl rfl rfl rfl rfl (fun a w_ hF => r_call3 en105 (hF.ev rfl) (hF.ev rfl) (hF.ev rfl)) (fun w_ hS => implHazardCell_c _ _ _) ?_
  refine todo_fork [(11, [])] hl_ rfl (by kernel_rfl) (List.forall_mem_cons.2 ⟨?_, fun _ h_ => nomatch h_⟩)
  ·
    refine op_mc (Γ := Unit) (m' := []) rfl (gw0 rfl) rfl rfl rfl (fun a w_ hF => r_call3 en80 (hF.ev rfl) (hF.ev rfl) (hF.ev rfl)) (fun w_ hS => calls_unit (stpStore_c (s := s) (Sep.headp (A := [_, _, _]) (B := [_, _, _]) hS [1, 2, 0] (by decide) rfl rfl))) ?_; intro _; try clear hSd; try clear wd; intro wd hSd
    refine todo_fin hl_ rfl (by kernel_rfl) (tl := []) rfl ?_; clear hS a; intro a w2 hF hA_
    have hS := hA_.sep; clear hA_
    clear hl_; try clear hSd
    try dsimp only [List.cons_append, List.nil_append, List.set] at hS
    try clear wd
    refine wl_nil ⟨rfl, ?_⟩
    try simp only [Exit.then, Exit.inBlock, ↓reduceIte]
    exact ret0n rfl hF ⟨rfl, (Sep.headp (A := [_, _, _]) (B := [_, _]) hS [0, 1] (by decide) rfl rfl)⟩

end Go.Proofs.YtifhfodphoeeoaaGreat.Wk
