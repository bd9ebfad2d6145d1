/- Walks: the search for an order, in the program. -/
import Derived.Test.YteldnoimmjihoaaChecked
import Derived.Test.YteldnoimmjihoaaWkLi
import Derived.Test.YteldnoimmjihoaaFactsC
namespace Go.Proofs.Yteldnoimmjihoaa.Wk
open Go Go.RowKit Sl
set_option linter.unusedVariables false
set_option linter.unusedSimpArgs false
set_option maxRecDepth 20000

/-- what is left of the memory that extend was given -/
def extRes (r : Option (List Int)) (z : Slv) (vb : Value) (used : List Bool) (m : Model) (vs : List Slv) (vo : Value) (order : List Int) : List Res := match r with
  | some out => [Own intEK (sv z) out]
  | none => [Own boolEK vb used, Part modelEK m vs, Own intEK vo order, Own intEK (sv z) []]
def ExtI (n : Nat) : Prop := ∀ (W w : World) (l : List Res) (c : Config) (va vb vo : Value) (es : List Sl.Event) (used : List Bool) (m : Model) (vs : List Slv) (order : List Int), eventEK.Rd W va es → Sep W (Own boolEK vb used :: Part modelEK m vs :: Own intEK vo order :: l) w → used.length = es.length → es.length ≤ 10 → m.values.length ≤ 100 → m.size ≤ 100 + 100 * order.length → order.length + left used ≤ 10 → left used = n →
  Calls Try.prog 59 #[.agg c.enc.toArray, va, vb, .agg (modelEK.cells m vs).toArray, vo] w (Ret fun v w' => ∃ z : Slv, v = .tuple #[sv z, .bool (search c es (left used) used m order).isSome] ∧ Sep W (extRes (search c es (left used) used m order) z vb used m vs vo order ++ l) w')
theorem set_back {used : List Bool} {k : Nat} (h : used[k]? = some false) : (used.set k true).set k false = used := by
  obtain ⟨h1, h2⟩ := List.getElem?_eq_some_iff.1 h
  rw [List.set_set]
  rw [← h2, List.set_getElem_self]

set_option maxHeartbeats 4000000 in
set_option maxRecDepth 20000 in
theorem extend_step {n : Nat} (ih : ∀ k, k < n → ExtI k) {W w : World} {l : List Res} {c : Config} {va vb vo : Value} {es : List Sl.Event} {used : List Bool} {m : Model} {vs : List Slv} {order : List Int} (ha : eventEK.Rd W va es) (hS : Sep W (Own boolEK vb used :: Part modelEK m vs :: Own intEK vo order :: l) w) (hlen : used.length = es.length) (h10 : es.length ≤ 10) (hvl : m.values.length ≤ 100) (hms : m.size ≤ 100 + 100 * order.length) (hol : order.length + left used ≤ 10) (hn : left used = n) : Calls Try.prog 59 #[.agg c.enc.toArray, va, vb, .agg (modelEK.cells m vs).toArray, vo] w (Ret fun v w' => ∃ z : Slv, v = .tuple #[sv z, .bool (search c es (left used) used m order).isSome] ∧ Sep W (extRes (search c es (left used) used m order) z vb used m vs vo order ++ l) w') := by
  refine calls_fr Try.func59 rfl Try.ntmps59 rfl ?_
  intro a hF
  obtain ⟨A_e, q_e, rfl, hq_e, hn_e⟩ := ha.sl; unfold maxLen at hn_e
  obtain ⟨zb, rfl⟩ := hS.own_sv (q := 0) rfl
  obtain ⟨zo, rfl⟩ := hS.own_sv (q := 2) rfl
  have hlb := hS.own_len (q := 0) rfl
  have hlo := hS.own_len (q := 2) rfl
  refine ws fun K1 hK1 => ?_
  refine wl_box (cs := [_, _, _, _, _, _]) hF hS rfl (hF.ev rfl) rfl ?_; clear hF a; intro g1 w1 a hS_ hB_ hF; replace hS := hS_; clear hS_ hB_
  refine wl_box (cs := [_, _]) hF hS rfl (hF.ev rfl) rfl ?_; clear hF a; intro g2 w2 a hS_ hB_ hF; replace hS := hS_; clear hS_ hB_
  refine wl_mvs (A := [_, _]) hF rfl ?_; clear hF a; intro a hF
  refine wl_nil (hK1 _ _ ?_)
  refine wp_seq_k fun K2 hK2 => ?_
  refine ws fun K3 hK3 => ?_
  refine wl_mvs (A := [_, _]) hF rfl ?_; clear hF a; intro a hF
  refine wl_call hF rfl rfl rfl (r_call2 en64 (hF.ev rfl) (hF.ev rfl)) (complete_c (hS.rd ha) (hS.own_rd (i := 2) rfl) (by omega)) ?_; clear hF a; rintro v w3 a ⟨rfl, hB_⟩ hF; replace hS := hS.ext hB_; clear hB_
  refine wl_nil (hK3 _ _ ?_)
  refine wc_fx (t := 20) hF rfl ?_ ?_ <;> clear hF <;> intro c20 hF <;> try simp only [zb1, zb2, zb3, zb4, zb5, zb6, zb7, zb8] at c20
  ·
    refine ws fun K4 hK4 => ?_
    refine wl_mvs (A := [_, _, _]) hF rfl ?_; clear hF a; intro a hF
    refine wl_nil (hK4 _ _ ?_)
    refine wp_ret ?_
    try simp only [Exit.then, Exit.inBlock, ↓reduceIte]
    first
      | (have hfin : search c es (left used) used m order = some order := by rw [search_eq, if_pos c20]
         refine ret2 rfl hF rfl rfl ⟨zo, by rw [hfin]; rfl, ?_⟩; rw [hfin]; exact Sep.headp (A := [_, _, _, _, _]) (B := [_]) hS [4] (by decide) rfl rfl)
      | (refine ret2 rfl hF rfl rfl ⟨z, by rw [hfin]; rfl, ?_⟩; rw [hfin]; exact Sep.headp (A := [_, _, _, _, _]) (B := [_]) hS [99] (by decide) rfl rfl)
      | (have hfin : search c es (left used) used m order = none := by rw [search_eq, if_neg (by rw [c20]; decide)]; exact some_done hf (by omega)
         refine ret2 rfl hF rfl rfl ⟨(none, 0, 0), by rw [hfin]; rfl, ?_⟩; rw [hfin]; exact Sep.headp (A := [_, _, _, _, _, _]) (B := [_, _, _, _]) (hS.own_nil intEK) [2 + 1, 3 + 1, 4 + 1, 0] (by decide) rfl rfl)
  refine wp_skip ?_
  refine hK2 _ _ ?_
  refine wp_seq_k fun K5 hK5 => ?_
  refine ws fun K6 hK6 => ?_
  refine wl_mvs (A := [_]) hF rfl ?_; clear hF a; intro a hF
  refine wl hF rfl rfl rfl (r_len ul52 (hF.ev rfl)) ?_; clear hF a; intro a hF
  refine wl_mvs (A := [_]) hF rfl ?_; clear hF a; intro a hF
  refine wl_nil (hK6 _ _ ?_)
  refine wp_block ?_
  have hL_ := (((((((((hF.nil.keep hF (t := 23) rfl).keep hF (t := 22) rfl).keep hF (t := 11) rfl).keep hF (t := 10) rfl).keep hF (t := 8) rfl).keep hF (t := 5) rfl).keep hF (t := 4) rfl).keep hF (t := 2) rfl).keep hF (t := 1) rfl)
  refine wp_loop_r (σ := Nat) (fun k L_ => (24, vi k) :: L_) (fun k => (k ≤ es.length) ∧ (((List.range es.length).take k).findSome? (tryOne c es used m order) = none)) (fun k => es.length - k) 0 hS (hL_.keepE hF (t := 24) rfl rfl) ?_ ?_
  · exact ⟨Nat.zero_le _, rfl⟩
  clear hF hS hL_ a
  rintro k a w4 ⟨hk, hf⟩ hS hF; try dsimp only at hF; try dsimp only at hS
  refine ws fun K7 hK7 => ?_
  refine wl hF rfl rfl rfl (r_lss (hF.ev rfl) (hF.ev rfl)) ?_; clear hF a; intro a hF
  refine wl_nil (hK7 _ _ ?_)
  refine wp_seq_k fun K8 hK8 => ?_
  refine wc_fx (t := 25) hF rfl ?_ ?_ <;> clear hF <;> intro c25 hF <;> try simp only [zb1, zb2, zb3, zb4, zb5, zb6, zb7, zb8] at c25
  ·
    have hlt : k < es.length := by omega
    refine wp_skip ?_
    refine hK8 _ _ ?_
    refine wp_seq_k fun K9 hK9 => ?_
    refine wp_block ?_
    refine ws fun K10 hK10 => ?_
    refine wl_mvs (A := [_]) hF rfl ?_; clear hF a; intro a hF
    obtain ⟨g27, o27, m27, q27, hv27, hm27, hl27, hc27⟩ := Rd.atF (ha) (a := a) (X := .tmp 24) (hF.ev rfl) (by omega) (by omega)
    refine wl hF rfl rfl rfl (r_index sl52 ((hF.ev rfl).trans hv27) (hF.ev rfl) (by omega) (by first | omega | (simp at hm27; omega))) ?_; clear hF a; intro a hF
    refine wl hF rfl rfl rfl (r_loadn ag44 (hF.ev rfl) (fun j_ u_ hu_ => cellB hS.old (hc27 j_ u_ hu_)) sz44) ?_; clear hF a; intro a hF
    refine wl_alloc hF hS rfl zr44 ?_; clear hF a; intro g3 w5 a hS_ hB_ hF; replace hS := hS_; clear hS_ hB_
    refine wl_mvs (A := [_]) hF rfl ?_; clear hF a; intro a hF
    refine wl_storen (cs' := [_, _, _, _, _, _, _, _]) hF hS (i := 0) rfl (hF.ev rfl) (hF.ev rfl) sz44 ⟨rfl, rfl⟩ rfl rfl ?_; intro w6 hS_; replace hS := hS_; clear hS_; dsimp only [List.set] at hS
    refine wl_nil (hK10 _ _ ?_)
    refine wp_seq_k fun K11 hK11 => ?_
    refine ws fun K12 hK12 => ?_
    refine wl_mvs (A := [_, _, _]) hF rfl ?_; clear hF a; intro a hF
    refine wl_call hF rfl rfl rfl (r_call3 en63 (hF.ev rfl) (hF.ev rfl) (hF.ev rfl)) (implMayGo_c (hS.rd ha) (hS.own_rd (i := 3) rfl)) ?_; clear hF a; rintro v w7 a ⟨rfl, hB_⟩ hF; replace hS := hS.ext hB_; clear hB_
    refine wl hF rfl rfl rfl (r_not (hF.ev rfl)) ?_; clear hF a; intro a hF
    refine wl_nil (hK12 _ _ ?_)
    refine wc_fx (t := 33) hF rfl ?_ ?_ <;> clear hF <;> intro c33 hF <;> try simp only [zb1, zb2, zb3, zb4, zb5, zb6, zb7, zb8] at c33
    ·
      have hnone := try_none1 (c := c) (m := m) (order := order) c33
      refine wp_exit ?_
      simp only [Exit.then, Exit.inBlock, ↓reduceIte]
      refine hK9 _ _ ?_
      refine wp_region_lit ?_
      refine wl hF rfl rfl rfl (r_add (hF.ev rfl) ec) ?_; clear hF a; intro a hF
      refine wl_mvs (A := [_]) hF rfl ?_; clear hF a; intro a hF
      refine wl_nil ?_
      try simp only [Exit.then, Exit.inBlock, ↓reduceIte]
      refine ⟨k + 1, ⟨by omega, some_next hf hlt hnone⟩, (Sep.headp (A := [_, _, _, _, _, _]) (B := [_, _, _, _, _]) hS [1, 2, 3, 4, 5] (by decide) rfl rfl), ((((((((((hF.nil.keep hF (t := 23) rfl).keep hF (t := 22) rfl).keep hF (t := 11) rfl).keep hF (t := 10) rfl).keep hF (t := 8) rfl).keep hF (t := 5) rfl).keep hF (t := 4) rfl).keep hF (t := 2) rfl).keep hF (t := 1) rfl).keepE hF (t := 24) rfl (wk (by omega))), by omega⟩
    have hfree := mayGo_free c33
    have hls := left_set hfree.2.2
    have hcnt2 := (explains_cnt (c := c) (m := m) (e := (at0 es (k : Int)))).2
    refine wp_skip ?_
    refine hK11 _ _ ?_
    refine ws fun K13 hK13 => ?_
    refine wl hF rfl rfl rfl (r_loadn ag38 (hF.ev rfl) (hS.box_rd (i := 2) rfl) sz38) ?_; clear hF a; intro a hF
    refine wl hF rfl rfl rfl (r_loadn ag35 (hF.ev rfl) (hS.box_rd (i := 1) rfl) sz35) ?_; clear hF a; intro a hF
    refine wl hF rfl rfl rfl (r_loadn ag44 (hF.ev rfl) (hS.box_rd (i := 0) rfl) sz44) ?_; clear hF a; intro a hF
    refine wl_mk hF hS rfl rfl rfl (r_call3 en13 (hF.ev rfl) (hF.ev rfl) (hF.ev rfl)) (implExplains_c (hS.part_k (i := 4) rfl) (by omega)) ?_; clear hF a; rintro vs38 w8 a hS_ hF; replace hS := hS_; clear hS_; dsimp only [List.cons_append, List.nil_append] at hS
    refine wl_mvs (A := [_]) hF rfl ?_; clear hF a; intro a hF
    refine wl hF rfl rfl rfl (r_extract (hF.ev rfl) rfl) ?_; clear hF a; intro a hF
    refine wl hF rfl rfl rfl (r_extract (hF.ev rfl) rfl) ?_; clear hF a; intro a hF
    refine wl_alloc hF hS rfl zr35 ?_; clear hF a; intro g4 w9 a hS_ hB_ hF; replace hS := hS_; clear hS_ hB_
    refine wl_storew hF hS (i := 0) rfl (hF.ev rfl) (hF.ev rfl) sz35 rfl rfl ?_; intro w10 hS_; replace hS := hS_; clear hS_; dsimp only [List.set, Nat.reduceAdd] at hS
    refine wl_mvs (A := [_]) hF rfl ?_; clear hF a; intro a hF
    refine wl_nil (hK13 _ _ ?_)
    refine wp_seq_k fun K14 hK14 => ?_
    refine ws fun K15 hK15 => ?_
    refine wl_mvs (A := [_]) hF rfl ?_; clear hF a; intro a hF
    refine wl hF rfl rfl rfl (r_not (hF.ev rfl)) ?_; clear hF a; intro a hF
    refine wl_nil (hK15 _ _ ?_)
    refine wc_fx (t := 42) hF rfl ?_ ?_ <;> clear hF <;> intro c42 hF <;> try simp only [zb1, zb2, zb3, zb4, zb5, zb6, zb7, zb8] at c42
    ·
      have hnone := try_none2 (used := used) (order := order) c42
      refine wp_exit ?_
      simp only [Exit.then, Exit.inBlock, ↓reduceIte]
      refine hK9 _ _ ?_
      refine wp_region_lit ?_
      refine wl hF rfl rfl rfl (r_add (hF.ev rfl) ec) ?_; clear hF a; intro a hF
      refine wl_mvs (A := [_]) hF rfl ?_; clear hF a; intro a hF
      refine wl_nil ?_
      try simp only [Exit.then, Exit.inBlock, ↓reduceIte]
      refine ⟨k + 1, ⟨by omega, some_next hf hlt hnone⟩, (Sep.headp (A := [_, _, _, _, _, _, _, _]) (B := [_, _, _, _, _]) hS [3, 4, 5, 6, 7] (by decide) rfl rfl), ((((((((((hF.nil.keep hF (t := 23) rfl).keep hF (t := 22) rfl).keep hF (t := 11) rfl).keep hF (t := 10) rfl).keep hF (t := 8) rfl).keep hF (t := 5) rfl).keep hF (t := 4) rfl).keep hF (t := 2) rfl).keep hF (t := 1) rfl).keepE hF (t := 24) rfl (wk (by omega))), by omega⟩
    refine wp_skip ?_
    refine hK14 _ _ ?_
    refine ws fun K16 hK16 => ?_
    refine wl_mvs (A := [_, _]) hF rfl ?_; clear hF a; intro a hF
    obtain ⟨g45, o45, m45, q45, hv45, hm45, hl45, hc45⟩ := Rd.atF ((hS.own_rd (i := 5) rfl)) (a := a) (X := .tmp 44) (hF.ev rfl) (by omega) (by omega)
    refine wl hF rfl rfl rfl (r_index sl84 ((hF.ev rfl).trans hv45) (hF.ev rfl) (by omega) (by first | omega | (simp at hm45; omega))) ?_; clear hF a; intro a hF
    refine wl_tstore (q := 5) hF hS rfl hv45 (by omega) (by omega) sz4 (hF.ev rfl) rfl ec ?_; intro w11 hS_; replace hS := hS_; clear hS_; dsimp only [List.set] at hS
    refine wl_nil (hK16 _ _ ?_)
    refine wp_seq_k fun K17 hK17 => ?_
    refine wp_seq_k fun K18 hK18 => ?_
    refine wp_region_todo (is := [0, 1, 2, 3, 4, 6, 5, 7, 8, 9, 10, 11, 12, 13, 14]) [] [9] (by kernel_rfl) hF hS ⟨trivial, by decide, by decide, by decide⟩ (by kernel_rfl) ?_; clear hF; intro hl_ wd hSd
    refine todo_load [9, 10, 11, 12, 13, 14] hl_ (by kernel_rfl) rfl (gw0 rfl) rfl rfl rfl (fun a w_ hF hB_ => r_loadn ag38 (hF.ev rfl) ((hSd.ext hB_).box_rd (i := 4) rfl) sz38) ?_
    refine todo_pure hl_ (by kernel_rfl) rfl (gw0 rfl) rfl rfl rfl (fun a w_ hF => r_move (hF.ev rfl)) ?_
    refine todo_pure hl_ (by kernel_rfl) rfl (gw0 rfl) rfl rfl rfl (fun a w_ hF => r_move (hF.ev rfl)) ?_
    refine todo_load [9, 10, 11, 12, 13, 14] hl_ (by kernel_rfl) rfl (gw0 rfl) rfl rfl rfl (fun a w_ hF hB_ => r_loadn ag35 (hF.ev rfl) ((hSd.ext hB_).box_rd (i := 0) rfl) sz35) ?_
    refine todo_pure hl_ (by kernel_rfl) rfl (gw0 rfl) rfl rfl rfl (fun a w_ hF => r_move (hF.ev rfl)) ?_
    refine todo_pure hl_ (by kernel_rfl) rfl (gw0 rfl) rfl rfl rfl (fun a w_ hF => r_move (hF.ev rfl)) ?_
    refine todo_fork [(5, [7, 8, 9, 10, 11, 12, 13, 14]), (7, [5, 8, 9, 10, 11, 12, 13, 14])] hl_ rfl (by kernel_rfl) (List.forall_mem_cons.2 ⟨?_, List.forall_mem_cons.2 ⟨?_, fun _ h_ => nomatch h_⟩⟩)
    ·
      refine op_mkF rfl rfl (gw0 rfl) rfl rfl rfl (fun a w_ hF => r_call1 en70 (hF.ev rfl)) (fun w_ hS => cloneI_c (hS.own_rd (i := 7) rfl) (by omega)) ?_; rintro s52
      refine todo_op hl_ rfl (by kernel_rfl) rfl rfl rfl rfl rfl (fun a w_ hF hS => r_bslice intEK [vi (k : Int)] [(k : Int)] rfl mk24 rfl ⟨rfl, (hF.ev rfl), trivial⟩ rfl rfl rfl rfl) ?_; intro gl_54
      refine todo_apF hl_ rfl (by kernel_rfl) rfl rfl rfl rfl (j := 1) rfl (fun w_ hS => (hS.own_rd (i := 0) rfl)) mk24 rfl (fun a hF => (hF.ev rfl)) (fun a hF => (hF.ev rfl)) (by simp; omega) (by first | (simp; omega) | (unfold maxLen; simp; omega)) ?_; intro A_55 c_55
      refine todo_fork [(9, [10, 11, 12, 13, 14])] hl_ rfl (by kernel_rfl) (List.forall_mem_cons.2 ⟨?_, fun _ h_ => nomatch h_⟩)
      ·
        refine op_mc (m' := []) rfl (gw0 rfl) rfl rfl rfl (fun a w_ hF => r_call5 en59 (hF.ev rfl) (hF.ev rfl) (hF.ev rfl) (hF.ev rfl) (hF.ev rfl)) (fun w_ hS => ih _ (show left (used.set k true) < n by omega) _ _ _ c _ _ _ es (used.set k true) (explains c m (at0 es (k : Int))).1 _ (order ++ [(k : Int)]) ha (Sep.headp (A := [_, _, _, _, _, _, _, _, _, _]) (B := [_, _, _, _, _, _, _, _, _, _]) (hS.unabove (i := 1) rfl) [7, 3, 1, 0, 2, 4, 5, 6, 8, 9] (by decide) rfl rfl) (by simp only [List.length_set]; omega) h10 (by rw [explains_vals]; exact hvl) (by simp only [List.length_append, List.length_cons, List.length_nil]; omega) (by simp only [List.length_append, List.length_cons, List.length_nil]; omega) rfl) ?_; intro z; try clear hSd; try clear wd; intro wd hSd
        refine todo_pure hl_ (by kernel_rfl) rfl (gw0 rfl) rfl rfl rfl (fun a w_ hF => r_move (hF.ev rfl)) ?_
        refine todo_pure hl_ (by kernel_rfl) rfl (gw0 rfl) rfl rfl rfl (fun a w_ hF => r_extract (hF.ev rfl) rfl) ?_
        refine todo_pure hl_ (by kernel_rfl) rfl (gw0 rfl) rfl rfl rfl (fun a w_ hF => r_extract (hF.ev rfl) rfl) ?_
        refine todo_pure hl_ (by kernel_rfl) rfl (gw0 rfl) rfl rfl rfl (fun a w_ hF => r_assign (hF.ev rfl)) ?_
        refine todo_pure hl_ (by kernel_rfl) rfl (gw0 rfl) rfl rfl rfl (fun a w_ hF => r_assign (hF.ev rfl)) ?_
        refine todo_fin hl_ rfl (by kernel_rfl) (tl := []) rfl ?_; clear hS a; intro a w14 hF hA_
        have hS := hA_.sep; clear hA_
        clear hl_; try clear hSd
        try dsimp only [List.cons_append, List.nil_append, List.set] at hS
        try clear wd
        refine wl_nil ⟨rfl, ?_⟩
        refine hK18 _ _ ?_
        refine ws fun K19 hK19 => ?_
        refine wl_mvs (A := [_]) hF rfl ?_; clear hF a; intro a hF
        refine wl_nil (hK19 _ _ ?_)
        refine wc_fx (t := 59) hF rfl ?_ ?_ <;> clear hF <;> intro c59 hF <;> try simp only [zb1, zb2, zb3, zb4, zb5, zb6, zb7, zb8] at c59
        ·
          obtain ⟨r_, hr_⟩ := Option.isSome_iff_exists.1 c59
          have hfin : search c es (left used) used m order = some r_ := by rw [search_eq, if_neg (by rw [c20]; decide)]; exact some_hit hf hlt ((try_go c33 c42).trans hr_)
          rw [hr_] at hS; dsimp only [extRes, List.cons_append, List.nil_append] at hS
          refine ws fun K20 hK20 => ?_
          refine wl_mvs (A := [_, _, _]) hF rfl ?_; clear hF a; intro a hF
          refine wl_nil (hK20 _ _ ?_)
          refine wp_ret ?_
          try simp only [Exit.then, Exit.inBlock, ↓reduceIte]
          first
            | (have hfin : search c es (left used) used m order = some order := by rw [search_eq, if_pos c20]
               refine ret2 rfl hF rfl rfl ⟨zo, by rw [hfin]; rfl, ?_⟩; rw [hfin]; exact Sep.headp (A := [_, _, _, _, _, _, _, _]) (B := [_]) hS [7] (by decide) rfl rfl)
            | (refine ret2 rfl hF rfl rfl ⟨z, by rw [hfin]; rfl, ?_⟩; rw [hfin]; exact Sep.headp (A := [_, _, _, _, _, _, _, _]) (B := [_]) hS [0] (by decide) rfl rfl)
            | (have hfin : search c es (left used) used m order = none := by rw [search_eq, if_neg (by rw [c20]; decide)]; exact some_done hf (by omega)
               refine ret2 rfl hF rfl rfl ⟨(none, 0, 0), by rw [hfin]; rfl, ?_⟩; rw [hfin]; exact Sep.headp (A := [_, _, _, _, _, _, _, _, _]) (B := [_, _, _, _]) (hS.own_nil intEK) [99 + 1, 6 + 1, 7 + 1, 0] (by decide) rfl rfl)
        have hno_ : search c es (left (used.set k true)) (used.set k true) (explains c m (at0 es (k : Int))).1 (order ++ [(k : Int)]) = none := Option.isNone_iff_eq_none.1 (by simpa using c59)
        have hnone : tryOne c es used m order k = none := (try_go c33 c42).trans hno_
        rw [hno_] at hS; dsimp only [extRes, List.cons_append, List.nil_append] at hS
        refine wp_skip ?_
        refine hK17 _ _ ?_
        refine wp_region_lit ?_
        refine wl_mvs (A := [_, _]) hF rfl ?_; clear hF a; intro a hF
        obtain ⟨g63, o63, m63, q63, hv63, hm63, hl63, hc63⟩ := Rd.atF ((hS.own_rd (i := 0) rfl)) (a := a) (X := .tmp 62) (hF.ev rfl) (by omega) (by simp only [List.length_set]; omega)
        refine wl hF rfl rfl rfl (r_index sl84 ((hF.ev rfl).trans hv63) (hF.ev rfl) (by omega) (by first | omega | (simp at hm63; omega))) ?_; clear hF a; intro a hF
        refine wl_tstore (q := 0) hF hS rfl hv63 (by omega) (by omega) sz4 (hF.ev rfl) rfl ec ?_; intro w15 hS_; replace hS := hS_; clear hS_; dsimp only [List.set] at hS
        refine wl_nil ?_
        simp only [Exit.then, Exit.inBlock, ↓reduceIte]
        refine hK9 _ _ ?_
        refine wp_region_lit ?_
        refine wl hF rfl rfl rfl (r_add (hF.ev rfl) ec) ?_; clear hF a; intro a hF
        refine wl_mvs (A := [_]) hF rfl ?_; clear hF a; intro a hF
        refine wl_nil ?_
        try simp only [Exit.then, Exit.inBlock, ↓reduceIte]
        rw [Int.toNat_natCast, set_back hfree.2.2] at hS
        refine ⟨k + 1, ⟨by omega, some_next hf hlt hnone⟩, (Sep.headp (A := [_, _, _, _, _, _, _, _, _, _, _]) (B := [_, _, _, _, _]) hS [7, 8, 0, 9, 10] (by decide) rfl rfl), ((((((((((hF.nil.keep hF (t := 23) rfl).keep hF (t := 22) rfl).keep hF (t := 11) rfl).keep hF (t := 10) rfl).keep hF (t := 8) rfl).keep hF (t := 5) rfl).keep hF (t := 4) rfl).keep hF (t := 2) rfl).keep hF (t := 1) rfl).keepE hF (t := 24) rfl (wk (by omega))), by omega⟩
    ·
      refine op_op rfl rfl (gw0 rfl) rfl rfl rfl (fun a w_ hF hS => r_bslice intEK [vi (k : Int)] [(k : Int)] rfl mk24 rfl ⟨rfl, (hF.ev rfl), trivial⟩ rfl rfl rfl rfl) ?_; intro gl_54
      refine todo_mkF hl_ rfl (by kernel_rfl) rfl (gw0 rfl) rfl rfl rfl (fun a w_ hF => r_call1 en70 (hF.ev rfl)) (fun w_ hS => cloneI_c (hS.own_rd (i := 8) rfl) (by omega)) ?_; rintro s52
      refine todo_apF hl_ rfl (by kernel_rfl) rfl rfl rfl rfl (j := 0) rfl (fun w_ hS => (hS.own_rd (i := 1) rfl)) mk24 rfl (fun a hF => (hF.ev rfl)) (fun a hF => (hF.ev rfl)) (by simp; omega) (by first | (simp; omega) | (unfold maxLen; simp; omega)) ?_; intro A_55 c_55
      refine todo_fork [(9, [10, 11, 12, 13, 14])] hl_ rfl (by kernel_rfl) (List.forall_mem_cons.2 ⟨?_, fun _ h_ => nomatch h_⟩)
      ·
        refine op_mc (m' := []) rfl (gw0 rfl) rfl rfl rfl (fun a w_ hF => r_call5 en59 (hF.ev rfl) (hF.ev rfl) (hF.ev rfl) (hF.ev rfl) (hF.ev rfl)) (fun w_ hS => ih _ (show left (used.set k true) < n by omega) _ _ _ c _ _ _ es (used.set k true) (explains c m (at0 es (k : Int))).1 _ (order ++ [(k : Int)]) ha (Sep.headp (A := [_, _, _, _, _, _, _, _, _, _]) (B := [_, _, _, _, _, _, _, _, _, _]) (hS.unabove (i := 0) rfl) [7, 3, 0, 1, 2, 4, 5, 6, 8, 9] (by decide) rfl rfl) (by simp only [List.length_set]; omega) h10 (by rw [explains_vals]; exact hvl) (by simp only [List.length_append, List.length_cons, List.length_nil]; omega) (by simp only [List.length_append, List.length_cons, List.length_nil]; omega) rfl) ?_; intro z; try clear hSd; try clear wd; intro wd hSd
        refine todo_pure hl_ (by kernel_rfl) rfl (gw0 rfl) rfl rfl rfl (fun a w_ hF => r_move (hF.ev rfl)) ?_
        refine todo_pure hl_ (by kernel_rfl) rfl (gw0 rfl) rfl rfl rfl (fun a w_ hF => r_extract (hF.ev rfl) rfl) ?_
        refine todo_pure hl_ (by kernel_rfl) rfl (gw0 rfl) rfl rfl rfl (fun a w_ hF => r_extract (hF.ev rfl) rfl) ?_
        refine todo_pure hl_ (by kernel_rfl) rfl (gw0 rfl) rfl rfl rfl (fun a w_ hF => r_assign (hF.ev rfl)) ?_
        refine todo_pure hl_ (by kernel_rfl) rfl (gw0 rfl) rfl rfl rfl (fun a w_ hF => r_assign (hF.ev rfl)) ?_
        refine todo_fin hl_ rfl (by kernel_rfl) (tl := []) rfl ?_; clear hS a; intro a w18 hF hA_
        have hS := hA_.sep; clear hA_
        clear hl_; try clear hSd
        try dsimp only [List.cons_append, List.nil_append, List.set] at hS
        try clear wd
        refine wl_nil ⟨rfl, ?_⟩
        refine hK18 _ _ ?_
        refine ws fun K21 hK21 => ?_
        refine wl_mvs (A := [_]) hF rfl ?_; clear hF a; intro a hF
        refine wl_nil (hK21 _ _ ?_)
        refine wc_fx (t := 59) hF rfl ?_ ?_ <;> clear hF <;> intro c59 hF <;> try simp only [zb1, zb2, zb3, zb4, zb5, zb6, zb7, zb8] at c59
        ·
          obtain ⟨r_, hr_⟩ := Option.isSome_iff_exists.1 c59
          have hfin : search c es (left used) used m order = some r_ := by rw [search_eq, if_neg (by rw [c20]; decide)]; exact some_hit hf hlt ((try_go c33 c42).trans hr_)
          rw [hr_] at hS; dsimp only [extRes, List.cons_append, List.nil_append] at hS
          refine ws fun K22 hK22 => ?_
          refine wl_mvs (A := [_, _, _]) hF rfl ?_; clear hF a; intro a hF
          refine wl_nil (hK22 _ _ ?_)
          refine wp_ret ?_
          try simp only [Exit.then, Exit.inBlock, ↓reduceIte]
          first
            | (have hfin : search c es (left used) used m order = some order := by rw [search_eq, if_pos c20]
               refine ret2 rfl hF rfl rfl ⟨zo, by rw [hfin]; rfl, ?_⟩; rw [hfin]; exact Sep.headp (A := [_, _, _, _, _, _, _, _]) (B := [_]) hS [7] (by decide) rfl rfl)
            | (refine ret2 rfl hF rfl rfl ⟨z, by rw [hfin]; rfl, ?_⟩; rw [hfin]; exact Sep.headp (A := [_, _, _, _, _, _, _, _]) (B := [_]) hS [0] (by decide) rfl rfl)
            | (have hfin : search c es (left used) used m order = none := by rw [search_eq, if_neg (by rw [c20]; decide)]; exact some_done hf (by omega)
               refine ret2 rfl hF rfl rfl ⟨(none, 0, 0), by rw [hfin]; rfl, ?_⟩; rw [hfin]; exact Sep.headp (A := [_, _, _, _, _, _, _, _, _]) (B := [_, _, _, _]) (hS.own_nil intEK) [99 + 1, 6 + 1, 7 + 1, 0] (by decide) rfl rfl)
        have hno_ : search c es (left (used.set k true)) (used.set k true) (explains c m (at0 es (k : Int))).1 (order ++ [(k : Int)]) = none := Option.isNone_iff_eq_none.1 (by simpa using c59)
        have hnone : tryOne c es used m order k = none := (try_go c33 c42).trans hno_
        rw [hno_] at hS; dsimp only [extRes, List.cons_append, List.nil_append] at hS
        refine wp_skip ?_
        refine hK17 _ _ ?_
        refine wp_region_lit ?_
        refine wl_mvs (A := [_, _]) hF rfl ?_; clear hF a; intro a hF
        obtain ⟨g63, o63, m63, q63, hv63, hm63, hl63, hc63⟩ := Rd.atF ((hS.own_rd (i := 0) rfl)) (a := a) (X := .tmp 62) (hF.ev rfl) (by omega) (by simp only [List.length_set]; omega)
        refine wl hF rfl rfl rfl (r_index sl84 ((hF.ev rfl).trans hv63) (hF.ev rfl) (by omega) (by first | omega | (simp at hm63; omega))) ?_; clear hF a; intro a hF
        refine wl_tstore (q := 0) hF hS rfl hv63 (by omega) (by omega) sz4 (hF.ev rfl) rfl ec ?_; intro w19 hS_; replace hS := hS_; clear hS_; dsimp only [List.set] at hS
        refine wl_nil ?_
        simp only [Exit.then, Exit.inBlock, ↓reduceIte]
        refine hK9 _ _ ?_
        refine wp_region_lit ?_
        refine wl hF rfl rfl rfl (r_add (hF.ev rfl) ec) ?_; clear hF a; intro a hF
        refine wl_mvs (A := [_]) hF rfl ?_; clear hF a; intro a hF
        refine wl_nil ?_
        try simp only [Exit.then, Exit.inBlock, ↓reduceIte]
        rw [Int.toNat_natCast, set_back hfree.2.2] at hS
        refine ⟨k + 1, ⟨by omega, some_next hf hlt hnone⟩, (Sep.headp (A := [_, _, _, _, _, _, _, _, _, _, _]) (B := [_, _, _, _, _]) hS [7, 8, 0, 9, 10] (by decide) rfl rfl), ((((((((((hF.nil.keep hF (t := 23) rfl).keep hF (t := 22) rfl).keep hF (t := 11) rfl).keep hF (t := 10) rfl).keep hF (t := 8) rfl).keep hF (t := 5) rfl).keep hF (t := 4) rfl).keep hF (t := 2) rfl).keep hF (t := 1) rfl).keepE hF (t := 24) rfl (wk (by omega))), by omega⟩
  refine wp_exit ?_
  simp only [Exit.then, Exit.inBlock, ↓reduceIte]
  refine hK5 _ _ ?_
  refine ws fun K23 hK23 => ?_
  refine wl_mvs (A := [_, _]) hF rfl ?_; clear hF a; intro a hF
  refine wl_nil (hK23 _ _ ?_)
  refine wp_ret ?_
  try simp only [Exit.then, Exit.inBlock, ↓reduceIte]
  first
    | (have hfin : search c es (left used) used m order = some order := by rw [search_eq, if_pos c20]
       refine ret2 rfl hF rfl rfl ⟨zo, by rw [hfin]; rfl, ?_⟩; rw [hfin]; exact Sep.headp (A := [_, _, _, _, _]) (B := [_]) hS [4] (by decide) rfl rfl)
    | (refine ret2 rfl hF rfl rfl ⟨z, by rw [hfin]; rfl, ?_⟩; rw [hfin]; exact Sep.headp (A := [_, _, _, _, _]) (B := [_]) hS [99] (by decide) rfl rfl)
    | (have hfin : search c es (left used) used m order = none := by rw [search_eq, if_neg (by rw [c20]; decide)]; exact some_done hf (by omega)
       refine ret2 rfl hF rfl rfl ⟨(none, 0, 0), by rw [hfin]; rfl, ?_⟩; rw [hfin]; exact Sep.headp (A := [_, _, _, _, _, _]) (B := [_, _, _, _]) (hS.own_nil intEK) [2 + 1, 3 + 1, 4 + 1, 0] (by decide) rfl rfl)

theorem extend_all : ∀ n, ExtI n := fun n => Nat.strongRecOn n fun n ih => by
  intro W w l c va vb vo es used m vs order h1 h2 h3 h4 h5 h6 h7 h8
  exact extend_step ih h1 h2 h3 h4 h5 h6 h7 h8

end Go.Proofs.Yteldnoimmjihoaa.Wk
