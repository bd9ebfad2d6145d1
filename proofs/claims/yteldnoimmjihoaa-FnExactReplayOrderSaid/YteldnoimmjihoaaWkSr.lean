/- Walks: the search for an order, in the reference. -/
import Derived.Test.YteldnoimmjihoaaChecked
import Derived.Test.YteldnoimmjihoaaWkLn
import Derived.Test.YteldnoimmjihoaaFresh
import Derived.Test.YteldnoimmjihoaaFactsC
namespace Go.Proofs.Yteldnoimmjihoaa.Wk
open Go Go.RowKit Sl
set_option linter.unusedVariables false
set_option linter.unusedSimpArgs false
set_option maxRecDepth 20000

def SearchS (n : Nat) : Prop := ∀ (W : World) (c : Config) (va vb vo : Value) (es : List Sl.Event) (used : List Bool) (m : Model) (cs : List Value) (order : List Int), eventEK.Rd W va es → boolEK.Rd W vb used → modelEK.K W m cs → intEK.Rd W vo order → used.length = es.length → es.length ≤ 10 → m.values.length ≤ 100 → m.size ≤ 100 + 100 * order.length → order.length + left used ≤ 10 → left used = n →
  Calls Try.prog 56 #[.agg c.enc.toArray, va, vb, .agg cs.toArray, vo] W (Ret (Mk W (fun z : Slv => .tuple #[sv z, .bool (search c es (left used) used m order).isSome]) (fun z => [Own intEK (sv z) ((search c es (left used) used m order).getD [])])))
theorem explains_vals {c : Config} {m : Model} {e : Sl.Event} : (explains c m e).1.values.length = m.values.length := by
  have h : (applyModel c m e.thread e.op).1.values.length = m.values.length := by
    unfold applyModel
    repeat' split
    all_goals simp
  unfold explains
  repeat' split
  all_goals first | exact h | rfl
theorem try_none1 {c : Config} {es : List Sl.Event} {used : List Bool} {m : Model} {order : List Int} {i : Nat} (h : mayGo es used (i : Int) = false) : tryOne c es used m order i = none := if_neg (by rw [h]; decide)
theorem try_none2 {c : Config} {es : List Sl.Event} {used : List Bool} {m : Model} {order : List Int} {i : Nat} (h : (explains c m (at0 es (i : Int))).2 = false) : tryOne c es used m order i = none := by
  unfold tryOne
  split
  · exact if_neg (by rw [h]; decide)
  · rfl
theorem try_go {c : Config} {es : List Sl.Event} {used : List Bool} {m : Model} {order : List Int} {i : Nat} (h : mayGo es used (i : Int) = true) (h2 : (explains c m (at0 es (i : Int))).2 = true) : tryOne c es used m order i = search c es (left (used.set i true)) (used.set i true) (explains c m (at0 es (i : Int))).1 (order ++ [(i : Int)]) := by
  unfold tryOne; rw [if_pos h, if_pos h2]

set_option maxHeartbeats 4000000 in
set_option maxRecDepth 20000 in
theorem l20Search_step {W : World} {n : Nat} (ih : ∀ k, k < n → SearchS k) {c : Config} {va vb vo : Value} {es : List Sl.Event} {used : List Bool} {m : Model} {cs : List Value} {order : List Int} (ha : eventEK.Rd W va es) (hb : boolEK.Rd W vb used) (hm : modelEK.K W m cs) (ho : intEK.Rd W vo order) (hlen : used.length = es.length) (h10 : es.length ≤ 10) (hvl : m.values.length ≤ 100) (hms : m.size ≤ 100 + 100 * order.length) (hol : order.length + left used ≤ 10) (hn : left used = n) : Calls Try.prog 56 #[.agg c.enc.toArray, va, vb, .agg cs.toArray, vo] W (Ret (Mk W (fun z : Slv => .tuple #[sv z, .bool (search c es (left used) used m order).isSome]) (fun z => [Own intEK (sv z) ((search c es (left used) used m order).getD [])]))) := by
  refine calls_fr Try.func56 rfl Try.ntmps56 rfl ?_
  intro a hF
  have hS := Sep.refl W
  have hm0 := hm
  obtain ⟨v0, v1, rfl, r0, r1⟩ := hm
  have hm : modelEK.K W m (m.encv v0 v1) := ⟨_, _, rfl, r0, r1⟩
  obtain ⟨A_e, q_e, rfl, hq_e, hn_e⟩ := ha.sl; unfold maxLen at hn_e
  obtain ⟨A_u, q_u, rfl, hq_u, hn_u⟩ := hb.sl; unfold maxLen at hn_u
  obtain ⟨A_o, q_o, rfl, hq_o, hn_o⟩ := ho.sl; unfold maxLen at hn_o
  refine ws fun K1 hK1 => ?_
  refine wl_box (cs := [_, _, _, _, _, _]) hF hS rfl (hF.ev rfl) rfl ?_; clear hF a; intro g1 w1 a hS_ hB_ hF; replace hS := hS_; clear hS_ hB_
  refine wl_box (cs := [_, _]) hF hS rfl (hF.ev rfl) rfl ?_; clear hF a; intro g2 w2 a hS_ hB_ hF; replace hS := hS_; clear hS_ hB_
  refine wl_mvs (A := [_, _]) hF rfl ?_; clear hF a; intro a hF
  refine wl_nil (hK1 _ _ ?_)
  refine wp_seq_k fun K2 hK2 => ?_
  refine ws fun K3 hK3 => ?_
  refine wl_mvs (A := [_, _]) hF rfl ?_; clear hF a; intro a hF
  refine wl_call hF rfl rfl rfl (r_call2 en62 (hF.ev rfl) (hF.ev rfl)) (l20All_c (hS.rd ha) (hS.rd hb) (by omega)) ?_; clear hF a; rintro v w3 a ⟨rfl, hB_⟩ hF; replace hS := hS.ext hB_; clear hB_
  refine wl_nil (hK3 _ _ ?_)
  refine wc_fx (t := 20) hF rfl ?_ ?_ <;> clear hF <;> intro c20 hF <;> try simp only [zb1, zb2, zb3, zb4, zb5, zb6, zb7, zb8] at c20
  ·
    refine ws fun K4 hK4 => ?_
    refine wl_bslice intEK [] [] rfl hF hS rfl mk24 rfl trivial rfl rfl rfl rfl ?_; clear hF a; intro gl_21 w4 a hS_ hF; replace hS := hS_; clear hS_
    refine wl_mvs (A := [_]) hF rfl ?_; clear hF a; intro a hF
    refine wl_append0 hF hS rfl (hS.rd ho) mk24 rfl (by omega) (by unfold maxLen; omega) (hF.ev rfl) (hF.ev rfl) ?_; clear hF a; intro s23 w5 a hS_ hF; replace hS := hS_; clear hS_
    refine wl_mvs (A := [_, _]) hF rfl ?_; clear hF a; intro a hF
    refine wl_nil (hK4 _ _ ?_)
    refine wp_ret ?_
    try simp only [Exit.then, Exit.inBlock, ↓reduceIte]
    first
      | (have hfin : search c es (left used) used m order = some order := by rw [search_eq, if_pos c20]
         refine ret2 rfl hF rfl rfl ⟨s23, by rw [hfin]; rfl, ?_⟩; rw [hfin]; exact hS.pick [0] (by decide) rfl)
      | (refine ret2 rfl hF rfl rfl ⟨s64, by rw [hfin]; rfl, ?_⟩; rw [hfin]; rw [hr_] at hS; exact hS.pick [99] (by decide) rfl)
      | (have hfin : search c es (left used) used m order = none := by rw [search_eq, if_neg (by rw [c20]; decide)]; exact some_done hf (by omega)
         refine ret2 rfl hF rfl rfl ⟨(some ⟨gl_69, 0, none⟩, 0, 0), by rw [hfin]; rfl, ?_⟩; rw [hfin]; exact hS.pick [99] (by decide) rfl)
  refine wp_skip ?_
  refine hK2 _ _ ?_
  refine wp_seq_k fun K5 hK5 => ?_
  refine ws fun K6 hK6 => ?_
  refine wl_mvs (A := [_]) hF rfl ?_; clear hF a; intro a hF
  refine wl_nil (hK6 _ _ ?_)
  refine wp_block ?_
  have hL_ := (((((((hF.nil.keep hF (t := 11) rfl).keep hF (t := 10) rfl).keep hF (t := 8) rfl).keep hF (t := 5) rfl).keep hF (t := 4) rfl).keep hF (t := 2) rfl).keep hF (t := 1) rfl)
  refine wp_loop_r (σ := Nat) (fun k L_ => (12, vi k) :: L_) (fun k => (k ≤ es.length) ∧ (((List.range es.length).take k).findSome? (tryOne c es used m order) = none)) (fun k => es.length - k) 0 hS (hL_.keepE hF (t := 12) rfl rfl) ?_ ?_
  · exact ⟨Nat.zero_le _, rfl⟩
  clear hF hS hL_ a
  rintro k a w6 ⟨hk, hf⟩ hS hF; try dsimp only at hF; try dsimp only at hS
  refine wp_seq_k fun K7 hK7 => ?_
  refine ws fun K8 hK8 => ?_
  refine wl_mvs (A := [_, _]) hF rfl ?_; clear hF a; intro a hF
  refine wl hF rfl rfl rfl (r_len ul52 (hF.ev rfl)) ?_; clear hF a; intro a hF
  refine wl hF rfl rfl rfl (r_lss (hF.ev rfl) (hF.ev rfl)) ?_; clear hF a; intro a hF
  refine wl_nil (hK8 _ _ ?_)
  refine wc_fx (t := 27) hF rfl ?_ ?_ <;> clear hF <;> intro c27 hF <;> try simp only [zb1, zb2, zb3, zb4, zb5, zb6, zb7, zb8] at c27
  ·
    have hlt : k < es.length := by omega
    refine wp_skip ?_
    refine hK7 _ _ ?_
    refine wp_seq_k fun K9 hK9 => ?_
    refine wp_block ?_
    refine wp_seq_k fun K10 hK10 => ?_
    refine ws fun K11 hK11 => ?_
    refine wl_mvs (A := [_, _, _]) hF rfl ?_; clear hF a; intro a hF
    refine wl_call hF rfl rfl rfl (r_call3 en61 (hF.ev rfl) (hF.ev rfl) (hF.ev rfl)) (specMayGo_c (hS.rd ha) (hS.rd hb)) ?_; clear hF a; rintro v w7 a ⟨rfl, hB_⟩ hF; replace hS := hS.ext hB_; clear hB_
    refine wl hF rfl rfl rfl (r_not (hF.ev rfl)) ?_; clear hF a; intro a hF
    refine wl_nil (hK11 _ _ ?_)
    refine wc_fx (t := 34) hF rfl ?_ ?_ <;> clear hF <;> intro c34 hF <;> try simp only [zb1, zb2, zb3, zb4, zb5, zb6, zb7, zb8] at c34
    ·
      have hnone := try_none1 (c := c) (m := m) (order := order) c34
      refine wp_exit ?_
      simp only [Exit.then, Exit.inBlock, ↓reduceIte]
      refine hK9 _ _ ?_
      refine wp_region_lit ?_
      refine wl_mvs (A := [_]) hF rfl ?_; clear hF a; intro a hF
      refine wl hF rfl rfl rfl (r_add (hF.ev rfl) ec) ?_; clear hF a; intro a hF
      refine wl_mvs (A := [_]) hF rfl ?_; clear hF a; intro a hF
      refine wl_nil ?_
      try simp only [Exit.then, Exit.inBlock, ↓reduceIte]
      refine ⟨k + 1, ⟨by omega, some_next hf hlt hnone⟩, hS, ((((((((hF.nil.keep hF (t := 11) rfl).keep hF (t := 10) rfl).keep hF (t := 8) rfl).keep hF (t := 5) rfl).keep hF (t := 4) rfl).keep hF (t := 2) rfl).keep hF (t := 1) rfl).keepE hF (t := 12) rfl (wk (by omega))), by omega⟩
    have hfree := mayGo_free c34
    have hls := left_set hfree.2.2
    have hcnt2 := (explains_cnt (c := c) (m := m) (e := (at0 es (k : Int)))).2
    refine wp_skip ?_
    refine hK10 _ _ ?_
    refine wp_seq_k fun K12 hK12 => ?_
    refine wp_region_todo (is := [0, 1, 2, 3, 4, 5, 6, 7, 8, 9, 11, 12]) [(10, 13, [.slice none 0 0, .slice none 0 0])] [11, 12] (by kernel_rfl) hF hS ⟨⟨⟨_, _, _, rfl, zr35⟩, trivial⟩, by decide, by decide, by decide⟩ (by kernel_rfl) ?_; clear hF; intro hl_ wd hSd
    refine todo_load [6, 7, 8, 9, 11, 12] hl_ (by kernel_rfl) rfl (gw0 rfl) rfl rfl rfl (fun a w_ hF hB_ => r_loadn ag38 (hF.ev rfl) ((hSd.ext hB_).box_rd (i := 1) rfl) sz38) ?_
    refine todo_load [6, 7, 8, 9, 11, 12] hl_ (by kernel_rfl) rfl (gw0 rfl) rfl rfl rfl (fun a w_ hF hB_ => r_loadn ag35 (hF.ev rfl) ((hSd.ext hB_).box_rd (i := 0) rfl) sz35) ?_
    refine todo_pure hl_ (by kernel_rfl) rfl (gw0 rfl) rfl rfl rfl (fun a w_ hF => r_move (hF.ev rfl)) ?_
    refine todo_pure hl_ (by kernel_rfl) rfl (gw0 rfl) rfl rfl rfl (fun a w_ hF => r_move (hF.ev rfl)) ?_
    obtain ⟨g40, o40, m40, q40, hv40, hm40, hl40, hc40⟩ := Rd.idxF (ha) (at0_get (i := (k : Int)) (by omega) (by omega))
    refine todo_pure hl_ (by kernel_rfl) rfl (gw0 rfl) rfl rfl rfl (fun a w_ hF => r_index sl52 ((hF.ev rfl).trans hv40) (hF.ev rfl) (by omega) (by first | omega | (simp at hm40; omega))) ?_
    refine todo_load [6, 7, 8, 9, 11, 12] hl_ (by kernel_rfl) rfl (gw0 rfl) rfl rfl rfl (fun a w_ hF hB_ => r_loadn ag44 (hF.ev rfl) (fun j_ u_ hu_ => cellB (hSd.ext hB_).old (hc40 j_ u_ hu_)) sz44) ?_
    refine todo_mk hl_ rfl (by kernel_rfl) rfl rfl rfl rfl rfl (fun a w_ hF => r_call3 en9 (hF.ev rfl) (hF.ev rfl) (hF.ev rfl)) (fun w_ hS => specExplains_c (hS.k hm) (by omega)) ?_; rintro vs42
    refine todo_pure hl_ (by kernel_rfl) rfl (gw0 rfl) rfl rfl rfl (fun a w_ hF => r_move (hF.ev rfl)) ?_
    refine todo_pure hl_ (by kernel_rfl) rfl (gw0 rfl) rfl rfl rfl (fun a w_ hF => r_extract (hF.ev rfl) rfl) ?_
    refine todo_pure hl_ (by kernel_rfl) rfl (gw0 rfl) rfl rfl rfl (fun a w_ hF => r_extract (hF.ev rfl) rfl) ?_
    refine todo_fin hl_ rfl (by kernel_rfl) (tl := [_, _]) rfl ?_; clear hS a; intro a w8 hF hA_
    obtain ⟨g3, hS, he_0⟩ := hA_.open1; clear hA_
    replace hF := hF.more he_0; clear he_0
    clear hl_; try clear hSd
    try dsimp only [List.cons_append, List.nil_append, List.set] at hS
    try clear wd
    refine wl_storew hF hS (i := 0) rfl (hF.ev rfl) (hF.ev rfl) sz35 rfl rfl ?_; intro w9 hS_; replace hS := hS_; clear hS_; dsimp only [List.set, Nat.reduceAdd] at hS
    refine wl_mvs (A := [_]) hF rfl ?_; clear hF a; intro a hF
    refine wl_nil ⟨rfl, ?_⟩
    refine hK12 _ _ ?_
    refine wp_seq_k fun K13 hK13 => ?_
    refine ws fun K14 hK14 => ?_
    refine wl_mvs (A := [_]) hF rfl ?_; clear hF a; intro a hF
    refine wl hF rfl rfl rfl (r_not (hF.ev rfl)) ?_; clear hF a; intro a hF
    refine wl_nil (hK14 _ _ ?_)
    refine wc_fx (t := 46) hF rfl ?_ ?_ <;> clear hF <;> intro c46 hF <;> try simp only [zb1, zb2, zb3, zb4, zb5, zb6, zb7, zb8] at c46
    ·
      have hnone := try_none2 (used := used) (order := order) c46
      refine wp_exit ?_
      simp only [Exit.then, Exit.inBlock, ↓reduceIte]
      refine hK9 _ _ ?_
      refine wp_region_lit ?_
      refine wl_mvs (A := [_]) hF rfl ?_; clear hF a; intro a hF
      refine wl hF rfl rfl rfl (r_add (hF.ev rfl) ec) ?_; clear hF a; intro a hF
      refine wl_mvs (A := [_]) hF rfl ?_; clear hF a; intro a hF
      refine wl_nil ?_
      try simp only [Exit.then, Exit.inBlock, ↓reduceIte]
      refine ⟨k + 1, ⟨by omega, some_next hf hlt hnone⟩, (hS.pick [2, 3] (by decide) rfl), ((((((((hF.nil.keep hF (t := 11) rfl).keep hF (t := 10) rfl).keep hF (t := 8) rfl).keep hF (t := 5) rfl).keep hF (t := 4) rfl).keep hF (t := 2) rfl).keep hF (t := 1) rfl).keepE hF (t := 12) rfl (wk (by omega))), by omega⟩
    refine wp_skip ?_
    refine hK13 _ _ ?_
    refine ws fun K15 hK15 => ?_
    refine wl_bslice boolEK [] [] rfl hF hS rfl mk84 rfl trivial rfl rfl rfl rfl ?_; clear hF a; intro gl_47 w10 a hS_ hF; replace hS := hS_; clear hS_
    refine wl_mvs (A := [_]) hF rfl ?_; clear hF a; intro a hF
    refine wl_append0 hF hS rfl (hS.rd hb) mk84 rfl (by omega) (by unfold maxLen; omega) (hF.ev rfl) (hF.ev rfl) ?_; clear hF a; intro s49 w11 a hS_ hF; replace hS := hS_; clear hS_
    refine wl_mvs (A := [_]) hF rfl ?_; clear hF a; intro a hF
    refine wl_nil (hK15 _ _ ?_)
    refine ws fun K16 hK16 => ?_
    refine wl_mvs (A := [_, _]) hF rfl ?_; clear hF a; intro a hF
    obtain ⟨g52, o52, m52, q52, hv52, hm52, hl52, hc52⟩ := Rd.atF ((hS.own_rd (i := 0) rfl)) (a := a) (X := .tmp 51) (hF.ev rfl) (by omega) (by omega)
    refine wl hF rfl rfl rfl (r_index sl84 ((hF.ev rfl).trans hv52) (hF.ev rfl) (by omega) (by first | omega | (simp at hm52; omega))) ?_; clear hF a; intro a hF
    refine wl_tstore (q := 0) hF hS rfl hv52 (by omega) (by omega) sz4 (hF.ev rfl) rfl ec ?_; intro w12 hS_; replace hS := hS_; clear hS_; dsimp only [List.set] at hS
    refine wl_nil (hK16 _ _ ?_)
    refine wp_seq_k fun K17 hK17 => ?_
    refine wp_region_todo (is := [0, 1, 2, 3, 5, 7, 4, 6, 8, 9, 10, 11, 12, 13, 14, 15]) [] [] (by kernel_rfl) hF hS ⟨trivial, by decide, by decide, by decide⟩ (by kernel_rfl) ?_; clear hF; intro hl_ wd hSd
    refine todo_load [10, 11, 12, 13, 14, 15] hl_ (by kernel_rfl) rfl (gw0 rfl) rfl rfl rfl (fun a w_ hF hB_ => r_loadn ag38 (hF.ev rfl) ((hSd.ext hB_).box_rd (i := 5) rfl) sz38) ?_
    refine todo_pure hl_ (by kernel_rfl) rfl (gw0 rfl) rfl rfl rfl (fun a w_ hF => r_move (hF.ev rfl)) ?_
    refine todo_pure hl_ (by kernel_rfl) rfl (gw0 rfl) rfl rfl rfl (fun a w_ hF => r_move (hF.ev rfl)) ?_
    refine todo_load [10, 11, 12, 13, 14, 15] hl_ (by kernel_rfl) rfl (gw0 rfl) rfl rfl rfl (fun a w_ hF hB_ => r_loadn ag35 (hF.ev rfl) ((hSd.ext hB_).box_rd (i := 2) rfl) sz35) ?_
    refine todo_pure hl_ (by kernel_rfl) rfl (gw0 rfl) rfl rfl rfl (fun a w_ hF => r_move (hF.ev rfl)) ?_
    refine todo_pure hl_ (by kernel_rfl) rfl (gw0 rfl) rfl rfl rfl (fun a w_ hF => r_move (hF.ev rfl)) ?_
    refine todo_fork [(4, [6, 8, 9, 10, 11, 12, 13, 14, 15]), (8, [4, 6, 9, 10, 11, 12, 13, 14, 15])] hl_ rfl (by kernel_rfl) (List.forall_mem_cons.2 ⟨?_, List.forall_mem_cons.2 ⟨?_, fun _ h_ => nomatch h_⟩⟩)
    ·
      refine op_op rfl rfl (gw0 rfl) rfl rfl rfl (fun a w_ hF hS => r_bslice intEK [] [] rfl mk24 rfl trivial rfl rfl rfl rfl) ?_; intro gl_58
      refine todo_fork [(6, [8, 9, 10, 11, 12, 13, 14, 15]), (8, [6, 9, 10, 11, 12, 13, 14, 15])] hl_ rfl (by kernel_rfl) (List.forall_mem_cons.2 ⟨?_, List.forall_mem_cons.2 ⟨?_, fun _ h_ => nomatch h_⟩⟩)
      ·
        refine op_opF rfl rfl (gw0 rfl) rfl rfl rfl (fun a w_ hF hS => r_append0 (hS.rd ho) mk24 rfl (by omega) (by unfold maxLen; omega) (hF.ev rfl) (hF.ev rfl)) ?_; intro s60
        refine todo_op hl_ rfl (by kernel_rfl) rfl rfl rfl rfl rfl (fun a w_ hF hS => r_bslice intEK [vi (k : Int)] [(k : Int)] rfl mk24 rfl ⟨rfl, (hF.ev rfl), trivial⟩ rfl rfl rfl rfl) ?_; intro gl_62
        refine todo_apF hl_ rfl (by kernel_rfl) rfl rfl rfl rfl (j := 1) rfl (fun w_ hS => (hS.own_rd (i := 0) rfl)) mk24 rfl (fun a hF => (hF.ev rfl)) (fun a hF => (hF.ev rfl)) (by simp; omega) (by first | (simp; omega) | (unfold maxLen; simp; omega)) ?_; intro A_63 c_63
        refine todo_mk hl_ rfl (by kernel_rfl) rfl rfl rfl rfl rfl (fun a w_ hF => r_call5 en56 (hF.ev rfl) (hF.ev rfl) (hF.ev rfl) (hF.ev rfl) (hF.ev rfl)) (fun w_ hS => ih _ (show left (used.set k true) < n by omega) _ c _ _ _ es (used.set k true) (explains c m (at0 es (k : Int))).1 _ (order ++ [(k : Int)]) (hS.rd ha) (hS.own_rd (i := 3) rfl) (hS.part_k (i := 6) rfl) (hS.above_rd (i := 1) rfl) (by simp only [List.length_set]; omega) h10 (by rw [explains_vals]; exact hvl) (by simp only [List.length_append, List.length_cons, List.length_nil]; omega) (by simp only [List.length_append, List.length_cons, List.length_nil]; omega) rfl) ?_; rintro s64
        refine todo_pure hl_ (by kernel_rfl) rfl (gw0 rfl) rfl rfl rfl (fun a w_ hF => r_move (hF.ev rfl)) ?_
        refine todo_pure hl_ (by kernel_rfl) rfl (gw0 rfl) rfl rfl rfl (fun a w_ hF => r_extract (hF.ev rfl) rfl) ?_
        refine todo_pure hl_ (by kernel_rfl) rfl (gw0 rfl) rfl rfl rfl (fun a w_ hF => r_extract (hF.ev rfl) rfl) ?_
        refine todo_pure hl_ (by kernel_rfl) rfl (gw0 rfl) rfl rfl rfl (fun a w_ hF => r_assign (hF.ev rfl)) ?_
        refine todo_pure hl_ (by kernel_rfl) rfl (gw0 rfl) rfl rfl rfl (fun a w_ hF => r_assign (hF.ev rfl)) ?_
        refine todo_fin hl_ rfl (by kernel_rfl) (tl := []) rfl ?_; clear hS a; intro a w17 hF hA_
        have hS := hA_.sep; clear hA_
        clear hl_; try clear hSd
        try dsimp only [List.cons_append, List.nil_append, List.set] at hS
        replace hS := hS.unabove (i := 2) rfl; dsimp only [List.set] at hS
        try clear wd
        refine wl_nil ⟨rfl, ?_⟩
        refine hK17 _ _ ?_
        refine ws fun K18 hK18 => ?_
        refine wl_mvs (A := [_]) hF rfl ?_; clear hF a; intro a hF
        refine wl_nil (hK18 _ _ ?_)
        refine wc_fx (t := 67) hF rfl ?_ ?_ <;> clear hF <;> intro c67 hF <;> try simp only [zb1, zb2, zb3, zb4, zb5, zb6, zb7, zb8] at c67
        ·
          obtain ⟨r_, hr_⟩ := Option.isSome_iff_exists.1 c67
          have hfin : search c es (left used) used m order = some r_ := by rw [search_eq, if_neg (by rw [c20]; decide)]; exact some_hit hf hlt ((try_go c34 c46).trans hr_)
          refine ws fun K19 hK19 => ?_
          refine wl_mvs (A := [_, _, _]) hF rfl ?_; clear hF a; intro a hF
          refine wl_nil (hK19 _ _ ?_)
          refine wp_ret ?_
          try simp only [Exit.then, Exit.inBlock, ↓reduceIte]
          first
            | (have hfin : search c es (left used) used m order = some order := by rw [search_eq, if_pos c20]
               refine ret2 rfl hF rfl rfl ⟨s23, by rw [hfin]; rfl, ?_⟩; rw [hfin]; exact hS.pick [99] (by decide) rfl)
            | (refine ret2 rfl hF rfl rfl ⟨s64, by rw [hfin]; rfl, ?_⟩; rw [hfin]; rw [hr_] at hS; exact hS.pick [0] (by decide) rfl)
            | (have hfin : search c es (left used) used m order = none := by rw [search_eq, if_neg (by rw [c20]; decide)]; exact some_done hf (by omega)
               refine ret2 rfl hF rfl rfl ⟨(some ⟨gl_69, 0, none⟩, 0, 0), by rw [hfin]; rfl, ?_⟩; rw [hfin]; exact hS.pick [99] (by decide) rfl)
        have hnone : tryOne c es used m order k = none := (try_go c34 c46).trans (Option.isNone_iff_eq_none.1 (by simpa using c67))
        refine wp_skip ?_
        simp only [Exit.then, Exit.inBlock, ↓reduceIte]
        refine hK9 _ _ ?_
        refine wp_region_lit ?_
        refine wl_mvs (A := [_]) hF rfl ?_; clear hF a; intro a hF
        refine wl hF rfl rfl rfl (r_add (hF.ev rfl) ec) ?_; clear hF a; intro a hF
        refine wl_mvs (A := [_]) hF rfl ?_; clear hF a; intro a hF
        refine wl_nil ?_
        try simp only [Exit.then, Exit.inBlock, ↓reduceIte]
        refine ⟨k + 1, ⟨by omega, some_next hf hlt hnone⟩, (hS.pick [8, 9] (by decide) rfl), ((((((((hF.nil.keep hF (t := 11) rfl).keep hF (t := 10) rfl).keep hF (t := 8) rfl).keep hF (t := 5) rfl).keep hF (t := 4) rfl).keep hF (t := 2) rfl).keep hF (t := 1) rfl).keepE hF (t := 12) rfl (wk (by omega))), by omega⟩
      ·
        refine op_op rfl rfl (gw0 rfl) rfl rfl rfl (fun a w_ hF hS => r_bslice intEK [vi (k : Int)] [(k : Int)] rfl mk24 rfl ⟨rfl, (hF.ev rfl), trivial⟩ rfl rfl rfl rfl) ?_; intro gl_62
        refine todo_opF hl_ rfl (by kernel_rfl) rfl (gw0 rfl) rfl rfl rfl (fun a w_ hF hS => r_append0 (hS.rd ho) mk24 rfl (by omega) (by unfold maxLen; omega) (hF.ev rfl) (hF.ev rfl)) ?_; intro s60
        refine todo_apF hl_ rfl (by kernel_rfl) rfl rfl rfl rfl (j := 0) rfl (fun w_ hS => (hS.own_rd (i := 1) rfl)) mk24 rfl (fun a hF => (hF.ev rfl)) (fun a hF => (hF.ev rfl)) (by simp; omega) (by first | (simp; omega) | (unfold maxLen; simp; omega)) ?_; intro A_63 c_63
        refine todo_mk hl_ rfl (by kernel_rfl) rfl rfl rfl rfl rfl (fun a w_ hF => r_call5 en56 (hF.ev rfl) (hF.ev rfl) (hF.ev rfl) (hF.ev rfl) (hF.ev rfl)) (fun w_ hS => ih _ (show left (used.set k true) < n by omega) _ c _ _ _ es (used.set k true) (explains c m (at0 es (k : Int))).1 _ (order ++ [(k : Int)]) (hS.rd ha) (hS.own_rd (i := 3) rfl) (hS.part_k (i := 6) rfl) (hS.above_rd (i := 0) rfl) (by simp only [List.length_set]; omega) h10 (by rw [explains_vals]; exact hvl) (by simp only [List.length_append, List.length_cons, List.length_nil]; omega) (by simp only [List.length_append, List.length_cons, List.length_nil]; omega) rfl) ?_; rintro s64
        refine todo_pure hl_ (by kernel_rfl) rfl (gw0 rfl) rfl rfl rfl (fun a w_ hF => r_move (hF.ev rfl)) ?_
        refine todo_pure hl_ (by kernel_rfl) rfl (gw0 rfl) rfl rfl rfl (fun a w_ hF => r_extract (hF.ev rfl) rfl) ?_
        refine todo_pure hl_ (by kernel_rfl) rfl (gw0 rfl) rfl rfl rfl (fun a w_ hF => r_extract (hF.ev rfl) rfl) ?_
        refine todo_pure hl_ (by kernel_rfl) rfl (gw0 rfl) rfl rfl rfl (fun a w_ hF => r_assign (hF.ev rfl)) ?_
        refine todo_pure hl_ (by kernel_rfl) rfl (gw0 rfl) rfl rfl rfl (fun a w_ hF => r_assign (hF.ev rfl)) ?_
        refine todo_fin hl_ rfl (by kernel_rfl) (tl := []) rfl ?_; clear hS a; intro a w21 hF hA_
        have hS := hA_.sep; clear hA_
        clear hl_; try clear hSd
        try dsimp only [List.cons_append, List.nil_append, List.set] at hS
        replace hS := hS.unabove (i := 1) rfl; dsimp only [List.set] at hS
        try clear wd
        refine wl_nil ⟨rfl, ?_⟩
        refine hK17 _ _ ?_
        refine ws fun K20 hK20 => ?_
        refine wl_mvs (A := [_]) hF rfl ?_; clear hF a; intro a hF
        refine wl_nil (hK20 _ _ ?_)
        refine wc_fx (t := 67) hF rfl ?_ ?_ <;> clear hF <;> intro c67 hF <;> try simp only [zb1, zb2, zb3, zb4, zb5, zb6, zb7, zb8] at c67
        ·
          obtain ⟨r_, hr_⟩ := Option.isSome_iff_exists.1 c67
          have hfin : search c es (left used) used m order = some r_ := by rw [search_eq, if_neg (by rw [c20]; decide)]; exact some_hit hf hlt ((try_go c34 c46).trans hr_)
          refine ws fun K21 hK21 => ?_
          refine wl_mvs (A := [_, _, _]) hF rfl ?_; clear hF a; intro a hF
          refine wl_nil (hK21 _ _ ?_)
          refine wp_ret ?_
          try simp only [Exit.then, Exit.inBlock, ↓reduceIte]
          first
            | (have hfin : search c es (left used) used m order = some order := by rw [search_eq, if_pos c20]
               refine ret2 rfl hF rfl rfl ⟨s23, by rw [hfin]; rfl, ?_⟩; rw [hfin]; exact hS.pick [99] (by decide) rfl)
            | (refine ret2 rfl hF rfl rfl ⟨s64, by rw [hfin]; rfl, ?_⟩; rw [hfin]; rw [hr_] at hS; exact hS.pick [0] (by decide) rfl)
            | (have hfin : search c es (left used) used m order = none := by rw [search_eq, if_neg (by rw [c20]; decide)]; exact some_done hf (by omega)
               refine ret2 rfl hF rfl rfl ⟨(some ⟨gl_69, 0, none⟩, 0, 0), by rw [hfin]; rfl, ?_⟩; rw [hfin]; exact hS.pick [99] (by decide) rfl)
        have hnone : tryOne c es used m order k = none := (try_go c34 c46).trans (Option.isNone_iff_eq_none.1 (by simpa using c67))
        refine wp_skip ?_
        simp only [Exit.then, Exit.inBlock, ↓reduceIte]
        refine hK9 _ _ ?_
        refine wp_region_lit ?_
        refine wl_mvs (A := [_]) hF rfl ?_; clear hF a; intro a hF
        refine wl hF rfl rfl rfl (r_add (hF.ev rfl) ec) ?_; clear hF a; intro a hF
        refine wl_mvs (A := [_]) hF rfl ?_; clear hF a; intro a hF
        refine wl_nil ?_
        try simp only [Exit.then, Exit.inBlock, ↓reduceIte]
        refine ⟨k + 1, ⟨by omega, some_next hf hlt hnone⟩, (hS.pick [8, 9] (by decide) rfl), ((((((((hF.nil.keep hF (t := 11) rfl).keep hF (t := 10) rfl).keep hF (t := 8) rfl).keep hF (t := 5) rfl).keep hF (t := 4) rfl).keep hF (t := 2) rfl).keep hF (t := 1) rfl).keepE hF (t := 12) rfl (wk (by omega))), by omega⟩
    ·
      refine op_op rfl rfl (gw0 rfl) rfl rfl rfl (fun a w_ hF hS => r_bslice intEK [vi (k : Int)] [(k : Int)] rfl mk24 rfl ⟨rfl, (hF.ev rfl), trivial⟩ rfl rfl rfl rfl) ?_; intro gl_62
      refine todo_op hl_ rfl (by kernel_rfl) rfl rfl rfl rfl rfl (fun a w_ hF hS => r_bslice intEK [] [] rfl mk24 rfl trivial rfl rfl rfl rfl) ?_; intro gl_58
      refine todo_opF hl_ rfl (by kernel_rfl) rfl (gw0 rfl) rfl rfl rfl (fun a w_ hF hS => r_append0 (hS.rd ho) mk24 rfl (by omega) (by unfold maxLen; omega) (hF.ev rfl) (hF.ev rfl)) ?_; intro s60
      refine todo_apF hl_ rfl (by kernel_rfl) rfl rfl rfl rfl (j := 0) rfl (fun w_ hS => (hS.own_rd (i := 2) rfl)) mk24 rfl (fun a hF => (hF.ev rfl)) (fun a hF => (hF.ev rfl)) (by simp; omega) (by first | (simp; omega) | (unfold maxLen; simp; omega)) ?_; intro A_63 c_63
      refine todo_mk hl_ rfl (by kernel_rfl) rfl rfl rfl rfl rfl (fun a w_ hF => r_call5 en56 (hF.ev rfl) (hF.ev rfl) (hF.ev rfl) (hF.ev rfl) (hF.ev rfl)) (fun w_ hS => ih _ (show left (used.set k true) < n by omega) _ c _ _ _ es (used.set k true) (explains c m (at0 es (k : Int))).1 _ (order ++ [(k : Int)]) (hS.rd ha) (hS.own_rd (i := 3) rfl) (hS.part_k (i := 6) rfl) (hS.above_rd (i := 0) rfl) (by simp only [List.length_set]; omega) h10 (by rw [explains_vals]; exact hvl) (by simp only [List.length_append, List.length_cons, List.length_nil]; omega) (by simp only [List.length_append, List.length_cons, List.length_nil]; omega) rfl) ?_; rintro s64
      refine todo_pure hl_ (by kernel_rfl) rfl (gw0 rfl) rfl rfl rfl (fun a w_ hF => r_move (hF.ev rfl)) ?_
      refine todo_pure hl_ (by kernel_rfl) rfl (gw0 rfl) rfl rfl rfl (fun a w_ hF => r_extract (hF.ev rfl) rfl) ?_
      refine todo_pure hl_ (by kernel_rfl) rfl (gw0 rfl) rfl rfl rfl (fun a w_ hF => r_extract (hF.ev rfl) rfl) ?_
      refine todo_pure hl_ (by kernel_rfl) rfl (gw0 rfl) rfl rfl rfl (fun a w_ hF => r_assign (hF.ev rfl)) ?_
      refine todo_pure hl_ (by kernel_rfl) rfl (gw0 rfl) rfl rfl rfl (fun a w_ hF => r_assign (hF.ev rfl)) ?_
      refine todo_fin hl_ rfl (by kernel_rfl) (tl := []) rfl ?_; clear hS a; intro a w26 hF hA_
      have hS := hA_.sep; clear hA_
      clear hl_; try clear hSd
      try dsimp only [List.cons_append, List.nil_append, List.set] at hS
      replace hS := hS.unabove (i := 1) rfl; dsimp only [List.set] at hS
      try clear wd
      refine wl_nil ⟨rfl, ?_⟩
      refine hK17 _ _ ?_
      refine ws fun K22 hK22 => ?_
      refine wl_mvs (A := [_]) hF rfl ?_; clear hF a; intro a hF
      refine wl_nil (hK22 _ _ ?_)
      refine wc_fx (t := 67) hF rfl ?_ ?_ <;> clear hF <;> intro c67 hF <;> try simp only [zb1, zb2, zb3, zb4, zb5, zb6, zb7, zb8] at c67
      ·
        obtain ⟨r_, hr_⟩ := Option.isSome_iff_exists.1 c67
        have hfin : search c es (left used) used m order = some r_ := by rw [search_eq, if_neg (by rw [c20]; decide)]; exact some_hit hf hlt ((try_go c34 c46).trans hr_)
        refine ws fun K23 hK23 => ?_
        refine wl_mvs (A := [_, _, _]) hF rfl ?_; clear hF a; intro a hF
        refine wl_nil (hK23 _ _ ?_)
        refine wp_ret ?_
        try simp only [Exit.then, Exit.inBlock, ↓reduceIte]
        first
          | (have hfin : search c es (left used) used m order = some order := by rw [search_eq, if_pos c20]
             refine ret2 rfl hF rfl rfl ⟨s23, by rw [hfin]; rfl, ?_⟩; rw [hfin]; exact hS.pick [99] (by decide) rfl)
          | (refine ret2 rfl hF rfl rfl ⟨s64, by rw [hfin]; rfl, ?_⟩; rw [hfin]; rw [hr_] at hS; exact hS.pick [0] (by decide) rfl)
          | (have hfin : search c es (left used) used m order = none := by rw [search_eq, if_neg (by rw [c20]; decide)]; exact some_done hf (by omega)
             refine ret2 rfl hF rfl rfl ⟨(some ⟨gl_69, 0, none⟩, 0, 0), by rw [hfin]; rfl, ?_⟩; rw [hfin]; exact hS.pick [99] (by decide) rfl)
      have hnone : tryOne c es used m order k = none := (try_go c34 c46).trans (Option.isNone_iff_eq_none.1 (by simpa using c67))
      refine wp_skip ?_
      simp only [Exit.then, Exit.inBlock, ↓reduceIte]
      refine hK9 _ _ ?_
      refine wp_region_lit ?_
      refine wl_mvs (A := [_]) hF rfl ?_; clear hF a; intro a hF
      refine wl hF rfl rfl rfl (r_add (hF.ev rfl) ec) ?_; clear hF a; intro a hF
      refine wl_mvs (A := [_]) hF rfl ?_; clear hF a; intro a hF
      refine wl_nil ?_
      try simp only [Exit.then, Exit.inBlock, ↓reduceIte]
      refine ⟨k + 1, ⟨by omega, some_next hf hlt hnone⟩, (hS.pick [8, 9] (by decide) rfl), ((((((((hF.nil.keep hF (t := 11) rfl).keep hF (t := 10) rfl).keep hF (t := 8) rfl).keep hF (t := 5) rfl).keep hF (t := 4) rfl).keep hF (t := 2) rfl).keep hF (t := 1) rfl).keepE hF (t := 12) rfl (wk (by omega))), by omega⟩
  refine wp_exit ?_
  simp only [Exit.then, Exit.inBlock, ↓reduceIte]
  refine hK5 _ _ ?_
  refine ws fun K24 hK24 => ?_
  refine wl_bslice intEK [] [] rfl hF hS rfl mk24 rfl trivial rfl rfl rfl rfl ?_; clear hF a; intro gl_69 w27 a hS_ hF; replace hS := hS_; clear hS_
  refine wl_mvs (A := [_, _]) hF rfl ?_; clear hF a; intro a hF
  refine wl_nil (hK24 _ _ ?_)
  refine wp_ret ?_
  try simp only [Exit.then, Exit.inBlock, ↓reduceIte]
  first
    | (have hfin : search c es (left used) used m order = some order := by rw [search_eq, if_pos c20]
       refine ret2 rfl hF rfl rfl ⟨s23, by rw [hfin]; rfl, ?_⟩; rw [hfin]; exact hS.pick [99] (by decide) rfl)
    | (refine ret2 rfl hF rfl rfl ⟨s64, by rw [hfin]; rfl, ?_⟩; rw [hfin]; rw [hr_] at hS; exact hS.pick [99] (by decide) rfl)
    | (have hfin : search c es (left used) used m order = none := by rw [search_eq, if_neg (by rw [c20]; decide)]; exact some_done hf (by omega)
       refine ret2 rfl hF rfl rfl ⟨(some ⟨gl_69, 0, none⟩, 0, 0), by rw [hfin]; rfl, ?_⟩; rw [hfin]; exact hS.pick [0] (by decide) rfl)

theorem l20Search_all : ∀ n, SearchS n := fun n => Nat.strongRecOn n fun n ih => by
  intro W c va vb vo es used m cs order h1 h2 h3 h4 h5 h6 h7 h8 h9 h10
  exact l20Search_step ih h1 h2 h3 h4 h5 h6 h7 h8 h9 h10

end Go.Proofs.Yteldnoimmjihoaa.Wk
