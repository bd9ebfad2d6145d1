/- Walks: what is seen of lists, whether they are ordered, guards. -/
import Derived.Test.YtjloiphocdaahaaChecked
import Derived.Test.YtjloiphocdaahaaWkLs
import Derived.Test.YtjloiphocdaahaaFactsB
namespace Go.Proofs.Ytjloiphocdaahaa.Wk
open Go Go.RowKit Sl
set_option linter.unusedVariables false
set_option linter.unusedSimpArgs false
set_option maxRecDepth 20000

def seenOf (s : State) (k st : Int) : Int := ((listOf s k).find? (visP s st)).getD 0
section
variable {s : State} {k st : Int}
theorem seen_no (hw : s.wf) (h : seenOf s k st = 0) : visibleAt s k st = (0, false) := by
  unfold seenOf at h
  unfold visibleAt
  cases e : (listOf s k).find? (visP s st) with
  | none => rfl
  | some x =>
    rw [e] at h
    have hc := (listOf_mem hw (List.mem_of_find?_eq_some e)).1
    have : x = 0 := h
    subst this
    rw [isCurrent_0] at hc; cases hc
theorem seen_yes (hw : s.wf) (h : ¬ seenOf s k st = 0) : (isCurrent s (seenOf s k st) = true ∧ int64 (seenOf s k st)) ∧ visibleAt s k st = ((loadField s (seenOf s k st) 1).1, true) := by
  unfold seenOf at *
  unfold visibleAt
  cases e : (listOf s k).find? (visP s st) with
  | none => rw [e] at h; exact absurd rfl h
  | some x => exact ⟨listOf_mem hw (List.mem_of_find?_eq_some e), rfl⟩
theorem visible_bad (hs : stateOk s = false) : visibleAt s k st = (0, false) := by unfold visibleAt; rw [listOf_bad hs]; rfl
theorem stamps_pos (hw : s.wf) {i : Int} (h0 : 0 ≤ i) (h1 : i < (stampsOf s k).length) : 0 ≤ at0 (stampsOf s k) i := by
  have hm := at0_mem h0 h1
  unfold stampsOf at hm ⊢
  obtain ⟨x, hx, e⟩ := List.mem_map.1 hm
  rw [← e]
  exact stamp_pos (listOf_mem hw hx).1
theorem keyOk_eq : (stateOk s && decide (0 ≤ k ∧ k ≤ IntKind.i64.wrap (s.config.keys - 1))) = (stateOk s && decide (0 ≤ k ∧ k ≤ s.config.keys - 1)) := by
  cases h : stateOk s with
  | false => rfl
  | true => rw [keys_wrap h]
theorem ord_bad {i : Nat} (h : i < (stampsOf s k).length) (h1 : 1 ≤ i) (hb : badAt (stampsOf s k) i = true) : isOrdered s k = false := by
  unfold isOrdered ordOk
  rw [range_no h (by rw [hb, decide_eq_false (show ¬ i = 0 by omega)]; rfl), Bool.and_false]
end
def nz (l : List Int) : List Int := l.filter fun x => !decide (x = 0)
def announced (s : State) : List Int := if stateOk s = true then nz ((s.cells.take (2 + s.config.threads.toNat)).drop 2) else []
def hazards (s : State) : List Int := if stateOk s = true then nz ((s.cells.take (2 + 3 * s.config.threads.toNat)).drop (2 + s.config.threads.toNat)) else []
section
variable {xs : List Int} {x : Int} {i k : Nat} {s : State}
theorem drop_next (hx : xs[k]? = some x) (hi : i ≤ k) : (xs.take (k + 1)).drop i = (xs.take k).drop i ++ [x] := by
  have := (List.getElem?_eq_some_iff.1 hx).1
  rw [List.take_add_one, hx, List.drop_append_of_le_length (by simp; omega)]; rfl
theorem nz_yes (hx : xs[k]? = some x) (hi : i ≤ k) (h : ¬ x = 0) : nz ((xs.take k).drop i) ++ [x] = nz ((xs.take (k + 1)).drop i) := by
  rw [drop_next hx hi]; simp [nz, h]
theorem nz_no (hx : xs[k]? = some x) (hi : i ≤ k) (h : x = 0) : nz ((xs.take k).drop i) = nz ((xs.take (k + 1)).drop i) := by
  rw [drop_next hx hi]; simp [nz, h]
theorem nz_len : (nz ((xs.take k).drop i)).length ≤ k := by
  refine Nat.le_trans (List.length_filter_le _ _) ?_
  simp; omega
theorem cell_at {q : Int} (hq : q = (k : Int)) (h : k < xs.length) : xs[k]? = some (at0 xs q) := by
  subst hq; exact at0_nat h
theorem ann_done (hk : k ≤ s.threads.length) (hz : stateOk s = true ∨ k = 0) (h1 : ¬ (k : Int) < s.threads.length ∨ stateOk s = false) : announced s = nz ((s.cells.take (2 + k)).drop 2) := by
  unfold announced
  by_cases hs : stateOk s = true
  · have := (stateOk_shape hs).2.2.2
    rw [if_pos hs]
    rcases h1 with h1 | h1
    · rw [show s.config.threads.toNat = k by omega]
    · rw [hs] at h1; cases h1
  · rw [if_neg hs]
    rcases hz with hz | hz
    · exact absurd hz hs
    · subst hz; rw [List.drop_of_length_le (by simp; omega)]; rfl
theorem haz_done (hk : k ≤ 2 * s.threads.length) (hz : stateOk s = true ∨ k = 0) (h1 : ¬ (k : Int) < 2 * s.threads.length ∨ stateOk s = false) : hazards s = nz ((s.cells.take (2 + s.config.threads.toNat + k)).drop (2 + s.config.threads.toNat)) := by
  unfold hazards
  by_cases hs : stateOk s = true
  · have := (stateOk_shape hs).2.2.2
    rw [if_pos hs]
    rcases h1 with h1 | h1
    · rw [show 2 + s.config.threads.toNat + k = 2 + 3 * s.config.threads.toNat by omega]
    · rw [hs] at h1; cases h1
  · rw [if_neg hs]
    rcases hz with hz | hz
    · exact absurd hz hs
    · subst hz; rw [List.drop_of_length_le (by simp; omega)]; rfl
theorem announceCell_eq {c : Config} {p : Int} (hok : c.ok) (h0 : 0 ≤ p) (h1 : p < c.threads) : announceCell c p = 2 + p := by
  unfold announceCell; rw [if_pos ⟨hok, h0, by omega⟩]
theorem hazardCell_eq {c : Config} {p q : Int} (hok : c.ok) (h0 : 0 ≤ p) (h1 : p < c.threads) (h2 : 0 ≤ q) (h3 : q ≤ 1) : hazardCell c p q = 2 + c.threads + 2 * p + q := by
  unfold hazardCell; rw [if_pos ⟨hok, ⟨h0, by omega⟩, h2, h3⟩]
end

set_option maxHeartbeats 4000000 in
set_option maxRecDepth 20000 in
theorem specVisibleAt_c {W : World} {s : Sl.State} {cs : List Value} (hm : stateEK.K W s cs) (hw : s.wf) (hz : (s.size : Int) ≤ 1048576) {p st : Int} (hp : int64 p) (hf : int64 st) : Calls Try.prog 27 #[.agg cs.toArray, vi p, vi st] W (Ret fun v w' => v = .tuple #[vi (visibleAt s p st).1, .bool (visibleAt s p st).2] ∧ Below W.heap.size W w') := by
  refine calls_fr Try.func27 rfl Try.ntmps27 rfl ?_
  intro a hF
  have hS := Sep.refl W
  obtain ⟨v0, v1, v2, rfl, r0, r1, r2⟩ := hm
  have hm : stateEK.K W s (s.encv v0 v1 v2) := ⟨_, _, _, rfl, r0, r1, r2⟩
  obtain ⟨A_a, q_a, rfl, hq_a, hn_a⟩ := r0.sl; unfold maxLen at hn_a
  obtain ⟨A_b, q_b, rfl, hq_b, hn_b⟩ := r1.sl; unfold maxLen at hn_b
  obtain ⟨A_c, q_c, rfl, hq_c, hn_c⟩ := r2.sl; unfold maxLen at hn_c
  have hwl : IntKind.i64.wrap ((s.threads.length : Int) - 1) = s.threads.length - 1 := w64_id (by omega) (by omega)
  have hll := listOf_len (s := s) (k := p)
  have hsl := stampsOf_len (s := s) (k := p)
  refine ws fun K1 hK1 => ?_
  refine wl_box (cs := [_, _, _, _, _, _, _, _, _, _, _, _, _]) hF hS rfl (hF.ev rfl) rfl ?_; clear hF a; intro g1 w1 a hS_ hB_ hF; replace hS := hS_; clear hS_ hB_
  refine wl_mvs (A := [_, _]) hF rfl ?_; clear hF a; intro a hF
  refine wl_nil (hK1 _ _ ?_)
  refine ws fun K2 hK2 => ?_
  refine wl hF rfl rfl rfl (r_loadn ag37 (hF.ev rfl) (hS.box_rd (i := 0) rfl) sz37) ?_; clear hF a; intro a hF
  refine wl_mvs (A := [_]) hF rfl ?_; clear hF a; intro a hF
  refine wl_mk hF hS rfl rfl rfl (r_call2 en41 (hF.ev rfl) (hF.ev rfl)) (specListOf_c (hS.k hm) hw (by omega) hp) ?_; clear hF a; rintro s15 w2 a hS_ hF; replace hS := hS_; clear hS_; dsimp only [List.cons_append, List.nil_append] at hS
  have hln15 := hS.own_len (q := 0) rfl
  refine wl_mvs (A := [_]) hF rfl ?_; clear hF a; intro a hF
  refine wl_nil (hK2 _ _ ?_)
  refine ws fun K3 hK3 => ?_
  refine wl hF rfl rfl rfl (r_loadn ag37 (hF.ev rfl) (hS.box_rd (i := 1) rfl) sz37) ?_; clear hF a; intro a hF
  refine wl_mvs (A := [_]) hF rfl ?_; clear hF a; intro a hF
  refine wl_mk hF hS rfl rfl rfl (r_call2 en43 (hF.ev rfl) (hF.ev rfl)) (specStampsOf_c (hS.k hm) hw (by omega) hp) ?_; clear hF a; rintro s18 w3 a hS_ hF; replace hS := hS_; clear hS_; dsimp only [List.cons_append, List.nil_append] at hS
  have hln18 := hS.own_len (q := 0) rfl
  refine wl_mvs (A := [_]) hF rfl ?_; clear hF a; intro a hF
  refine wl_nil (hK3 _ _ ?_)
  refine wp_seq_k fun K4 hK4 => ?_
  refine ws fun K5 hK5 => ?_
  refine wl_mvs (A := [_]) hF rfl ?_; clear hF a; intro a hF
  refine wl_nil (hK5 _ _ ?_)
  refine wp_block ?_
  have hL_ := ((((((hF.nil.keep hF (t := 9) rfl).keep hF (t := 8) rfl).keep hF (t := 7) rfl).keep hF (t := 6) rfl).keep hF (t := 3) rfl).keep hF (t := 2) rfl)
  refine wp_loop_r (σ := Nat) (fun k L_ => (10, vi k) :: L_) (fun k => (k ≤ (listOf s p).length) ∧ (((listOf s p).take k).find? (visP s st) = none)) (fun k => (listOf s p).length - k) 0 hS (hL_.keepE hF (t := 10) rfl rfl) ?_ ?_
  · exact ⟨Nat.zero_le _, rfl⟩
  clear hF hS hL_ a
  rintro k a w4 ⟨hk, hn⟩ hS hF; try dsimp only at hF; try dsimp only at hS
  refine wp_seq_k fun K6 hK6 => ?_
  refine ws fun K7 hK7 => ?_
  refine wl_mvs (A := [_, _]) hF rfl ?_; clear hF a; intro a hF
  refine wl hF rfl rfl rfl (r_len ul24 (hF.ev rfl)) ?_; clear hF a; intro a hF
  refine wl hF rfl rfl rfl (r_lss (hF.ev rfl) (hF.ev rfl)) ?_; clear hF a; intro a hF
  refine wl_nil (hK7 _ _ ?_)
  refine wc_fx (t := 22) hF rfl ?_ ?_ <;> clear hF <;> intro c22 hF <;> try simp only [zb1, zb2, zb3, zb4, zb5, zb6, zb7, zb8] at c22
  ·
    have hmem := listOf_mem hw (at0_mem (xs := listOf s p) (i := (k : Int)) (by omega) (by omega))
    obtain ⟨hcu, hh⟩ := hmem
    have hst := stamps_at (s := s) (k := p) (i := k) (by omega)
    refine wp_skip ?_
    refine hK6 _ _ ?_
    refine wp_seq_k fun K8 hK8 => ?_
    refine wp_block ?_
    refine ws fun K9 hK9 => ?_
    refine wl_mvs (A := [_, _]) hF rfl ?_; clear hF a; intro a hF
    obtain ⟨g27, o27, m27, q27, hv27, hm27, hl27, hc27⟩ := Rd.atF ((hS.own_rd (i := 0) rfl)) (a := a) (X := .tmp 26) (hF.ev rfl) (by omega) (by omega)
    refine wl hF rfl rfl rfl (r_index sl24 ((hF.ev rfl).trans hv27) (hF.ev rfl) (by omega) (by first | omega | (simp at hm27; omega))) ?_; clear hF a; intro a hF
    refine wl hF rfl rfl rfl (r_load1 sc3 (hF.ev rfl) (hc27 0 _ rfl)) ?_; clear hF a; intro a hF
    refine wl hF rfl rfl rfl (r_gtr (hF.ev rfl) ec) ?_; clear hF a; intro a hF
    refine wl_mvs (A := [_]) hF rfl ?_; clear hF a; intro a hF
    apply wl_and (A := [_, _, _, _, _, _, _]) (pk := 37) hF hS (tc := 30) rfl
    ·
      intro hg30 a hF; try simp only [zb1, zb2, zb3, zb4, zb5, zb6, zb7, zb8] at hg30
      refine wl_mvs (A := [_, _]) hF rfl ?_; clear hF a; intro a hF
      refine wl_take hF rfl rfl rfl rfl ?_
      obtain ⟨g33, o33, m33, q33, hv33, hm33, hl33, hc33⟩ := Rd.atF ((hS.own_rd (i := 0) rfl)) (a := a) (X := .tmp 32) (hF.ev rfl) (by omega) (by omega)
      refine wl hF rfl rfl rfl (r_index sl24 ((hF.ev rfl).trans hv33) (hF.ev rfl) (by omega) (by first | omega | (simp at hm33; omega))) ?_; clear hF a; intro a hF
      refine wl_take hF rfl rfl rfl rfl ?_
      refine wl hF rfl rfl rfl (r_load1 sc3 (hF.ev rfl) (hc33 0 _ rfl)) ?_; clear hF a; intro a hF
      refine wl_mvs (A := [_]) hF rfl ?_; clear hF a; intro a hF
      refine wl_take hF rfl rfl rfl rfl ?_
      refine wl hF rfl rfl rfl (r_leq (hF.ev rfl) (hF.ev rfl)) ?_; clear hF a; intro a hF
      refine wl hF rfl rfl rfl (r_pick_t (hF.ev rfl) (hF.ev rfl)) ?_; clear hF a; intro a hF
      exact wl_nil ⟨rfl, (Fr.pre (A := [_, _, _, _, _, _, _]) hF rfl).keep hF (t := 37) rfl, hS⟩
    ·
      intro hg30 a hF; try simp only [zb1, zb2, zb3, zb4, zb5, zb6, zb7, zb8] at hg30
      refine wl_mvs (A := [_, _, _, _, _, _]) hF rfl ?_; clear hF a; intro a hF
      refine wl hF rfl rfl rfl (r_pick_f (hF.ev rfl) ec) ?_; clear hF a; intro a hF
      exact wl_nil ⟨rfl, (Fr.pre (A := [_, _, _, _, _, _, _]) hF rfl).keep hF (t := 37) rfl, hS⟩
    clear hF a hS; intro a w5 hF hS
    refine wl_nil (hK9 _ _ ?_)
    refine wc_fx (t := 37) hF rfl ?_ ?_ <;> clear hF <;> intro c37 hF <;> try simp only [zb1, zb2, zb3, zb4, zb5, zb6, zb7, zb8] at c37
    ·
      refine wp_seq_k fun K10 hK10 => ?_
      refine wp_region_calm (by kernel_rfl) (by kernel_rfl) ?_
      refine wq hF rfl rfl rfl (fun w_ hB_ => r_loadn ag37 (hF.ev rfl) ((hS.ext hB_).box_rd (i := 2) rfl) sz37) ?_; clear hF a; intro a hF
      refine wq_mvs (A := [_, _]) hF rfl ?_; clear hF a; intro a hF
      obtain ⟨g42, o42, m42, q42, hv42, hm42, hl42, hc42⟩ := Rd.atF ((hS.own_rd (i := 1) rfl)) (a := a) (X := .tmp 41) (hF.ev rfl) (by omega) (by omega)
      refine wq hF rfl rfl rfl (fun w_ hB_ => r_index sl24 ((hF.ev rfl).trans hv42) (hF.ev rfl) (by omega) (by first | omega | (simp at hm42; omega))) ?_; clear hF a; intro a hF
      refine wq hF rfl rfl rfl (fun w_ hB_ => r_load1 sc3 (hF.ev rfl) (cellB hB_ (hc42 0 _ rfl))) ?_; clear hF a; intro a hF
      refine wq_call hF rfl rfl rfl (fun w_ hB_ => r_call3 en74 (hF.ev rfl) (hF.ev rfl) ec) (fun w_ hB_ => specLoadField_c ((hS.ext hB_).k hm) hw (by omega) hh (by unfold int64; omega)) ?_; clear hF a; intro a hF
      refine wq_mvs (A := [_]) hF rfl ?_; clear hF a; intro a hF
      refine wq hF rfl rfl rfl (fun w_ hB_ => r_extract (hF.ev rfl) rfl) ?_; clear hF a; intro a hF
      refine wq hF rfl rfl rfl (fun w_ hB_ => r_extract (hF.ev rfl) rfl) ?_; clear hF a; intro a hF
      refine wq_mvs (A := [_, _]) hF rfl ?_; clear hF a; intro a hF
      refine wpQuiet_nil ?_; intro w6 hB_; replace hS := hS.ext hB_; clear hB_
      refine hK10 _ _ ?_
      refine ws fun K11 hK11 => ?_
      refine wl_mvs (A := [_, _, _]) hF rfl ?_; clear hF a; intro a hF
      refine wl_nil (hK11 _ _ ?_)
      refine wp_ret ?_
      try simp only [Exit.then, Exit.inBlock, ↓reduceIte]
      first
        | (have e : visibleAt s p st = ((loadField s (at0 (listOf s p) (k : Int)) 1).1, true) := by
             unfold visibleAt; rw [find_hit hn (at0_nat (by omega)) (show visP s st _ = true from by unfold visP; rw [← hst, decide_eq_true c37.1, decide_eq_true c37.2]; rfl)]
           refine ret2 rfl hF rfl rfl ⟨by rw [e]; rfl, hS.old⟩)
        | (have e : visibleAt s p st = (0, false) := by
             unfold visibleAt; rw [find_done hn (by omega)]
           refine ret2 rfl hF rfl rfl ⟨by rw [e], hS.old⟩)
    refine wp_skip ?_
    simp only [Exit.then, Exit.inBlock, ↓reduceIte]
    refine hK8 _ _ ?_
    refine wp_region_lit ?_
    refine wl_mvs (A := [_]) hF rfl ?_; clear hF a; intro a hF
    refine wl hF rfl rfl rfl (r_add (hF.ev rfl) ec) ?_; clear hF a; intro a hF
    refine wl_mvs (A := [_]) hF rfl ?_; clear hF a; intro a hF
    refine wl_nil ?_
    try simp only [Exit.then, Exit.inBlock, ↓reduceIte]
    refine ⟨k + 1, ⟨by omega, find_next hn (at0_nat (by omega)) (by unfold visP; rw [← hst, Bool.and_eq_false_iff, decide_eq_false_iff_not, decide_eq_false_iff_not]; exact c37)⟩, hS, (((((((hF.nil.keep hF (t := 9) rfl).keep hF (t := 8) rfl).keep hF (t := 7) rfl).keep hF (t := 6) rfl).keep hF (t := 3) rfl).keep hF (t := 2) rfl).keepE hF (t := 10) rfl (wk (by omega))), by omega⟩
  refine wp_exit ?_
  simp only [Exit.then, Exit.inBlock, ↓reduceIte]
  refine hK4 _ _ ?_
  refine ws fun K12 hK12 => ?_
  refine wl_mvs (A := [_, _]) hF rfl ?_; clear hF a; intro a hF
  refine wl_nil (hK12 _ _ ?_)
  refine wp_ret ?_
  try simp only [Exit.then, Exit.inBlock, ↓reduceIte]
  first
    | (have e : visibleAt s p st = ((loadField s (at0 (listOf s p) (k : Int)) 1).1, true) := by
         unfold visibleAt; rw [find_hit hn (at0_nat (by omega)) (show visP s st _ = true from by unfold visP; rw [← hst, decide_eq_true c37.1, decide_eq_true c37.2]; rfl)]
       refine ret2 rfl hF rfl rfl ⟨by rw [e]; rfl, hS.old⟩)
    | (have e : visibleAt s p st = (0, false) := by
         unfold visibleAt; rw [find_done hn (by omega)]
       refine ret2 rfl hF rfl rfl ⟨by rw [e], hS.old⟩)

set_option maxHeartbeats 4000000 in
set_option maxRecDepth 20000 in
theorem seen_c {W : World} {s : Sl.State} {cs : List Value} (hm : stateEK.K W s cs) {g : Nat} (hc : ∀ j u, cs[j]? = some u → W.cell? ⟨g, 0 + j, none⟩ = some u) (hw : s.wf) (hs : stateOk s = true) {p st : Int} (hp : int64 p) : Calls Try.prog 77 #[.pointer (some ⟨g, 0, none⟩), vi p, vi st] W (Ret fun v w' => v = vi (seenOf s p st) ∧ Below W.heap.size W w') := by
  refine calls_fr Try.func77 rfl Try.ntmps77 rfl ?_
  intro a hF
  have hS := Sep.refl W
  obtain ⟨v0, v1, v2, rfl, r0, r1, r2⟩ := hm
  have hm : stateEK.K W s (s.encv v0 v1 v2) := ⟨_, _, _, rfl, r0, r1, r2⟩
  obtain ⟨A_a, q_a, rfl, hq_a, hn_a⟩ := r0.sl; unfold maxLen at hn_a
  obtain ⟨A_b, q_b, rfl, hq_b, hn_b⟩ := r1.sl; unfold maxLen at hn_b
  obtain ⟨A_c, q_c, rfl, hq_c, hn_c⟩ := r2.sl; unfold maxLen at hn_c
  have hll := listOf_len (s := s) (k := p)
  refine ws fun K1 hK1 => ?_
  refine wl_mvs (A := [_]) hF rfl ?_; clear hF a; intro a hF
  refine wl_nil (hK1 _ _ ?_)
  refine wp_seq_k fun K2 hK2 => ?_
  refine ws fun K3 hK3 => ?_
  refine wl_mvs (A := [_, _]) hF rfl ?_; clear hF a; intro a hF
  refine wl_mk hF hS rfl rfl rfl (r_call2 en91 (hF.ev rfl) (hF.ev rfl)) (listOf_c (hS.k hm) (fun j u hu => cellB hS.old (hc j u hu)) hw hs hp) ?_; clear hF a; rintro s12 w1 a hS_ hF; replace hS := hS_; clear hS_; dsimp only [List.cons_append, List.nil_append] at hS
  have hln12 := hS.own_len (q := 0) rfl
  refine wl hF rfl rfl rfl (r_len ul24 (hF.ev rfl)) ?_; clear hF a; intro a hF
  refine wl_mvs (A := [_]) hF rfl ?_; clear hF a; intro a hF
  refine wl_nil (hK3 _ _ ?_)
  refine wp_block ?_
  have hL_ := (((((hF.nil.keep hF (t := 13) rfl).keep hF (t := 12) rfl).keep hF (t := 6) rfl).keep hF (t := 2) rfl).keep hF (t := 0) rfl)
  refine wp_loop_r (σ := Nat) (fun k L_ => (14, vi k) :: L_) (fun k => (k ≤ (listOf s p).length) ∧ (((listOf s p).take k).find? (visP s st) = none)) (fun k => (listOf s p).length - k) 0 hS (hL_.keepE hF (t := 14) rfl rfl) ?_ ?_
  · exact ⟨Nat.zero_le _, rfl⟩
  clear hF hS hL_ a
  rintro k a w2 ⟨hk, hn⟩ hS hF; try dsimp only at hF; try dsimp only at hS
  refine ws fun K4 hK4 => ?_
  refine wl hF rfl rfl rfl (r_lss (hF.ev rfl) (hF.ev rfl)) ?_; clear hF a; intro a hF
  refine wl_nil (hK4 _ _ ?_)
  refine wp_seq_k fun K5 hK5 => ?_
  refine wc_fx (t := 15) hF rfl ?_ ?_ <;> clear hF <;> intro c15 hF <;> try simp only [zb1, zb2, zb3, zb4, zb5, zb6, zb7, zb8] at c15
  ·
    have hmem := listOf_mem hw (at0_mem (xs := listOf s p) (i := (k : Int)) (by omega) (by omega))
    obtain ⟨hcu, hh⟩ := hmem
    refine wp_skip ?_
    refine hK5 _ _ ?_
    refine wp_seq_k fun K6 hK6 => ?_
    refine wp_block ?_
    refine ws fun K7 hK7 => ?_
    obtain ⟨g16, o16, m16, q16, hv16, hm16, hl16, hc16⟩ := Rd.atF ((hS.own_rd (i := 0) rfl)) (a := a) (X := .tmp 14) (hF.ev rfl) (by omega) (by omega)
    refine wl hF rfl rfl rfl (r_index sl24 ((hF.ev rfl).trans hv16) (hF.ev rfl) (by omega) (by first | omega | (simp at hm16; omega))) ?_; clear hF a; intro a hF
    refine wl hF rfl rfl rfl (r_load1 sc3 (hF.ev rfl) (hc16 0 _ rfl)) ?_; clear hF a; intro a hF
    refine wl_mvs (A := [_]) hF rfl ?_; clear hF a; intro a hF
    refine wl_nil (hK7 _ _ ?_)
    refine ws fun K8 hK8 => ?_
    refine wl_mvs (A := [_, _]) hF rfl ?_; clear hF a; intro a hF
    refine wl_call hF rfl rfl rfl (r_call3 en78 (hF.ev rfl) (hF.ev rfl) ec) (cell_c (hS.k hm) (fun j u hu => cellB hS.old (hc j u hu)) hw hh hcu (by omega) (by omega)) ?_; clear hF a; rintro v w3 a ⟨rfl, hB_⟩ hF; replace hS := hS.ext hB_; clear hB_
    refine wl_mvs (A := [_]) hF rfl ?_; clear hF a; intro a hF
    refine wl_nil (hK8 _ _ ?_)
    refine ws fun K9 hK9 => ?_
    refine wl_mvs (A := [_]) hF rfl ?_; clear hF a; intro a hF
    refine wl hF rfl rfl rfl (r_gtr (hF.ev rfl) ec) ?_; clear hF a; intro a hF
    refine wl_mvs (A := [_]) hF rfl ?_; clear hF a; intro a hF
    apply wl_and (A := [_, _, _, _]) (pk := 27) hF hS (tc := 23) rfl
    ·
      intro hg23 a hF; try simp only [zb1, zb2, zb3, zb4, zb5, zb6, zb7, zb8] at hg23
      refine wl_mvs (A := [_, _]) hF rfl ?_; clear hF a; intro a hF
      refine wl_take hF rfl rfl rfl rfl ?_
      refine wl hF rfl rfl rfl (r_leq (hF.ev rfl) (hF.ev rfl)) ?_; clear hF a; intro a hF
      refine wl hF rfl rfl rfl (r_pick_t (hF.ev rfl) (hF.ev rfl)) ?_; clear hF a; intro a hF
      exact wl_nil ⟨rfl, (Fr.pre (A := [_, _, _, _]) hF rfl).keep hF (t := 27) rfl, hS⟩
    ·
      intro hg23 a hF; try simp only [zb1, zb2, zb3, zb4, zb5, zb6, zb7, zb8] at hg23
      refine wl_mvs (A := [_, _, _]) hF rfl ?_; clear hF a; intro a hF
      refine wl hF rfl rfl rfl (r_pick_f (hF.ev rfl) ec) ?_; clear hF a; intro a hF
      exact wl_nil ⟨rfl, (Fr.pre (A := [_, _, _, _]) hF rfl).keep hF (t := 27) rfl, hS⟩
    clear hF a hS; intro a w4 hF hS
    refine wl_nil (hK9 _ _ ?_)
    refine wc_fx (t := 27) hF rfl ?_ ?_ <;> clear hF <;> intro c27 hF <;> try simp only [zb1, zb2, zb3, zb4, zb5, zb6, zb7, zb8] at c27
    ·
      refine ws fun K10 hK10 => ?_
      refine wl_mvs (A := [_, _]) hF rfl ?_; clear hF a; intro a hF
      refine wl_nil (hK10 _ _ ?_)
      refine wp_ret ?_
      try simp only [Exit.then, Exit.inBlock, ↓reduceIte]
      refine ret1 rfl hF rfl ⟨congrArg vi (Eq.symm ?_), hS.old⟩
      unfold seenOf
      first
        | (rw [find_hit hn (at0_nat (by omega)) (show visP s st _ = true from by unfold visP stampOf; rw [decide_eq_true c27.1, decide_eq_true c27.2]; rfl)]; rfl)
        | (rw [find_done hn (by omega)]; rfl)
    refine wp_skip ?_
    simp only [Exit.then, Exit.inBlock, ↓reduceIte]
    refine hK6 _ _ ?_
    refine wp_region_lit ?_
    refine wl hF rfl rfl rfl (r_add (hF.ev rfl) ec) ?_; clear hF a; intro a hF
    refine wl_mvs (A := [_]) hF rfl ?_; clear hF a; intro a hF
    refine wl_nil ?_
    try simp only [Exit.then, Exit.inBlock, ↓reduceIte]
    refine ⟨k + 1, ⟨by omega, find_next hn (at0_nat (by omega)) (by unfold visP; rw [Bool.and_eq_false_iff, decide_eq_false_iff_not, decide_eq_false_iff_not]; exact c27)⟩, hS, ((((((hF.nil.keep hF (t := 13) rfl).keep hF (t := 12) rfl).keep hF (t := 6) rfl).keep hF (t := 2) rfl).keep hF (t := 0) rfl).keepE hF (t := 14) rfl (wk (by omega))), by omega⟩
  refine wp_exit ?_
  simp only [Exit.then, Exit.inBlock, ↓reduceIte]
  refine hK2 _ _ ?_
  refine ws fun K11 hK11 => ?_
  refine wl_mvs (A := [_]) hF rfl ?_; clear hF a; intro a hF
  refine wl_nil (hK11 _ _ ?_)
  refine wp_ret ?_
  try simp only [Exit.then, Exit.inBlock, ↓reduceIte]
  refine ret1 rfl hF rfl ⟨congrArg vi (Eq.symm ?_), hS.old⟩
  unfold seenOf
  first
    | (rw [find_hit hn (at0_nat (by omega)) (show visP s st _ = true from by unfold visP stampOf; rw [decide_eq_true c27.1, decide_eq_true c27.2]; rfl)]; rfl)
    | (rw [find_done hn (by omega)]; rfl)

set_option maxHeartbeats 4000000 in
set_option maxRecDepth 20000 in
theorem implVisibleAt_c {W : World} {s : Sl.State} {cs : List Value} (hm : stateEK.K W s cs) (hw : s.wf) (hz : (s.size : Int) ≤ 1048576) {p st : Int} (hp : int64 p) (hf : int64 st) : Calls Try.prog 29 #[.agg cs.toArray, vi p, vi st] W (Ret fun v w' => v = .tuple #[vi (visibleAt s p st).1, .bool (visibleAt s p st).2] ∧ Below W.heap.size W w') := by
  refine calls_fr Try.func29 rfl Try.ntmps29 rfl ?_
  intro a hF
  have hS := Sep.refl W
  obtain ⟨v0, v1, v2, rfl, r0, r1, r2⟩ := hm
  have hm : stateEK.K W s (s.encv v0 v1 v2) := ⟨_, _, _, rfl, r0, r1, r2⟩
  obtain ⟨A_a, q_a, rfl, hq_a, hn_a⟩ := r0.sl; unfold maxLen at hn_a
  obtain ⟨A_b, q_b, rfl, hq_b, hn_b⟩ := r1.sl; unfold maxLen at hn_b
  obtain ⟨A_c, q_c, rfl, hq_c, hn_c⟩ := r2.sl; unfold maxLen at hn_c
  have hwl : IntKind.i64.wrap ((s.threads.length : Int) - 1) = s.threads.length - 1 := w64_id (by omega) (by omega)
  refine ws fun K1 hK1 => ?_
  refine wl_box (cs := [_, _, _, _, _, _, _, _, _, _, _, _, _]) hF hS rfl (hF.ev rfl) rfl ?_; clear hF a; intro g1 w1 a hS_ hB_ hF; replace hS := hS_; clear hS_ hB_
  refine wl_mvs (A := [_, _]) hF rfl ?_; clear hF a; intro a hF
  refine wl_nil (hK1 _ _ ?_)
  refine wp_seq_k fun K2 hK2 => ?_
  refine ws fun K3 hK3 => ?_
  refine wl hF rfl rfl rfl (r_loadn ag37 (hF.ev rfl) (hS.box_rd (i := 0) rfl) sz37) ?_; clear hF a; intro a hF
  refine wl_call hF rfl rfl rfl (r_call1 en76 (hF.ev rfl)) (implIsState_c (hS.k hm) hw (by omega)) ?_; clear hF a; rintro v w2 a ⟨rfl, hB_⟩ hF; replace hS := hS.ext hB_; clear hB_
  refine wl hF rfl rfl rfl (r_not (hF.ev rfl)) ?_; clear hF a; intro a hF
  refine wl_nil (hK3 _ _ ?_)
  refine wc_fx (t := 11) hF rfl ?_ ?_ <;> clear hF <;> intro c11 hF <;> try simp only [zb1, zb2, zb3, zb4, zb5, zb6, zb7, zb8] at c11
  ·
    refine ws fun K4 hK4 => ?_
    refine wl_mvs (A := [_, _]) hF rfl ?_; clear hF a; intro a hF
    refine wl_nil (hK4 _ _ ?_)
    refine wp_ret ?_
    try simp only [Exit.then, Exit.inBlock, ↓reduceIte]
    first
      | (refine ret2 rfl hF rfl rfl ⟨by rw [visible_bad c11], hS.old⟩)
      | (refine ret2 rfl hF rfl rfl ⟨by rw [seen_no hw c16], hS.old⟩)
      | (refine ret2 rfl hF rfl rfl ⟨by rw [(seen_yes hw c16).2], hS.old⟩)
  refine wp_skip ?_
  refine hK2 _ _ ?_
  refine ws fun K5 hK5 => ?_
  refine wl_mvs (A := [_, _]) hF rfl ?_; clear hF a; intro a hF
  refine wl_call hF rfl rfl rfl (r_call3 en77 (hF.ev rfl) (hF.ev rfl) (hF.ev rfl)) (seen_c (hS.k hm) (fun j u hu => hS.box_rd (i := 0) rfl j u hu) hw c11 hp) ?_; clear hF a; rintro v w3 a ⟨rfl, hB_⟩ hF; replace hS := hS.ext hB_; clear hB_
  refine wl_mvs (A := [_]) hF rfl ?_; clear hF a; intro a hF
  refine wl_nil (hK5 _ _ ?_)
  refine wp_seq_k fun K6 hK6 => ?_
  refine ws fun K7 hK7 => ?_
  refine wl_mvs (A := [_]) hF rfl ?_; clear hF a; intro a hF
  refine wl hF rfl rfl rfl (r_eql (hF.ev rfl) ec) ?_; clear hF a; intro a hF
  refine wl_nil (hK7 _ _ ?_)
  refine wc_fx (t := 16) hF rfl ?_ ?_ <;> clear hF <;> intro c16 hF <;> try simp only [zb1, zb2, zb3, zb4, zb5, zb6, zb7, zb8] at c16
  ·
    refine ws fun K8 hK8 => ?_
    refine wl_mvs (A := [_, _]) hF rfl ?_; clear hF a; intro a hF
    refine wl_nil (hK8 _ _ ?_)
    refine wp_ret ?_
    try simp only [Exit.then, Exit.inBlock, ↓reduceIte]
    first
      | (refine ret2 rfl hF rfl rfl ⟨by rw [visible_bad c11], hS.old⟩)
      | (refine ret2 rfl hF rfl rfl ⟨by rw [seen_no hw c16], hS.old⟩)
      | (refine ret2 rfl hF rfl rfl ⟨by rw [(seen_yes hw c16).2], hS.old⟩)
  have hsy := seen_yes hw c16
  refine wp_skip ?_
  refine hK6 _ _ ?_
  refine ws fun K9 hK9 => ?_
  refine wl_mvs (A := [_]) hF rfl ?_; clear hF a; intro a hF
  refine wl_call hF rfl rfl rfl (r_call3 en78 (hF.ev rfl) (hF.ev rfl) ec) (cell_c (hS.k hm) (fun j u hu => hS.box_rd (i := 0) rfl j u hu) hw hsy.1.2 hsy.1.1 (by omega) (by omega)) ?_; clear hF a; rintro v w4 a ⟨rfl, hB_⟩ hF; replace hS := hS.ext hB_; clear hB_
  refine wl_mvs (A := [_, _]) hF rfl ?_; clear hF a; intro a hF
  refine wl_nil (hK9 _ _ ?_)
  refine wp_ret ?_
  try simp only [Exit.then, Exit.inBlock, ↓reduceIte]
  first
    | (refine ret2 rfl hF rfl rfl ⟨by rw [visible_bad c11], hS.old⟩)
    | (refine ret2 rfl hF rfl rfl ⟨by rw [seen_no hw c16], hS.old⟩)
    | (refine ret2 rfl hF rfl rfl ⟨by rw [(seen_yes hw c16).2], hS.old⟩)

set_option maxHeartbeats 4000000 in
set_option maxRecDepth 20000 in
theorem specIsOrdered_c {W : World} {s : Sl.State} {cs : List Value} (hm : stateEK.K W s cs) (hw : s.wf) (hz : (s.size : Int) ≤ 1048576) {p : Int} (hp : int64 p) : Calls Try.prog 31 #[.agg cs.toArray, vi p] W (Ret fun v w' => v = .bool (isOrdered s p) ∧ Below W.heap.size W w') := by
  refine calls_fr Try.func31 rfl Try.ntmps31 rfl ?_
  intro a hF
  have hS := Sep.refl W
  obtain ⟨v0, v1, v2, rfl, r0, r1, r2⟩ := hm
  have hm : stateEK.K W s (s.encv v0 v1 v2) := ⟨_, _, _, rfl, r0, r1, r2⟩
  obtain ⟨A_a, q_a, rfl, hq_a, hn_a⟩ := r0.sl; unfold maxLen at hn_a
  obtain ⟨A_b, q_b, rfl, hq_b, hn_b⟩ := r1.sl; unfold maxLen at hn_b
  obtain ⟨A_c, q_c, rfl, hq_c, hn_c⟩ := r2.sl; unfold maxLen at hn_c
  have hwl : IntKind.i64.wrap ((s.threads.length : Int) - 1) = s.threads.length - 1 := w64_id (by omega) (by omega)
  have hll := listOf_len (s := s) (k := p)
  have hsl := stampsOf_len (s := s) (k := p)
  refine ws fun K1 hK1 => ?_
  refine wl_box (cs := [_, _, _, _, _, _, _, _, _, _, _, _, _]) hF hS rfl (hF.ev rfl) rfl ?_; clear hF a; intro g1 w1 a hS_ hB_ hF; replace hS := hS_; clear hS_ hB_
  refine wl_mvs (A := [_]) hF rfl ?_; clear hF a; intro a hF
  refine wl_nil (hK1 _ _ ?_)
  refine ws fun K2 hK2 => ?_
  refine wl hF rfl rfl rfl (r_loadn ag37 (hF.ev rfl) (hS.box_rd (i := 0) rfl) sz37) ?_; clear hF a; intro a hF
  refine wl_mvs (A := [_]) hF rfl ?_; clear hF a; intro a hF
  refine wl_mk hF hS rfl rfl rfl (r_call2 en43 (hF.ev rfl) (hF.ev rfl)) (specStampsOf_c (hS.k hm) hw (by omega) hp) ?_; clear hF a; rintro s9 w2 a hS_ hF; replace hS := hS_; clear hS_; dsimp only [List.cons_append, List.nil_append] at hS
  have hln9 := hS.own_len (q := 0) rfl
  refine wl_mvs (A := [_]) hF rfl ?_; clear hF a; intro a hF
  refine wl_nil (hK2 _ _ ?_)
  refine wp_seq_k fun K3 hK3 => ?_
  refine ws fun K4 hK4 => ?_
  refine wl_mvs (A := [_]) hF rfl ?_; clear hF a; intro a hF
  refine wl_nil (hK4 _ _ ?_)
  refine wp_block ?_
  have hL_ := ((((hF.nil.keep hF (t := 5) rfl).keep hF (t := 4) rfl).keep hF (t := 2) rfl).keep hF (t := 1) rfl)
  refine wp_loop_r (σ := Nat) (fun k L_ => (6, vi k) :: L_) (fun k => (1 ≤ k) ∧ (((List.range (stampsOf s p).length).take k).all (fun i => decide (i = 0) || !badAt (stampsOf s p) i) = true)) (fun k => (stampsOf s p).length - k) 1 hS (hL_.keepE hF (t := 6) rfl rfl) ?_ ?_
  · exact ⟨Nat.le_refl _, ord_init⟩
  clear hF hS hL_ a
  rintro k a w3 ⟨hk, hn⟩ hS hF; try dsimp only at hF; try dsimp only at hS
  refine wp_seq_k fun K5 hK5 => ?_
  refine ws fun K6 hK6 => ?_
  refine wl_mvs (A := [_, _]) hF rfl ?_; clear hF a; intro a hF
  refine wl hF rfl rfl rfl (r_len ul24 (hF.ev rfl)) ?_; clear hF a; intro a hF
  refine wl hF rfl rfl rfl (r_lss (hF.ev rfl) (hF.ev rfl)) ?_; clear hF a; intro a hF
  refine wl_nil (hK6 _ _ ?_)
  refine wc_fx (t := 13) hF rfl ?_ ?_ <;> clear hF <;> intro c13 hF <;> try simp only [zb1, zb2, zb3, zb4, zb5, zb6, zb7, zb8] at c13
  ·
    have hwk : IntKind.i64.wrap ((k : Int) - 1) = k - 1 := w64_id (by omega) (by omega)
    refine wp_skip ?_
    refine hK5 _ _ ?_
    refine wp_seq_k fun K7 hK7 => ?_
    refine wp_block ?_
    refine wp_seq_k fun K8 hK8 => ?_
    refine wp_region_calm (by kernel_rfl) (by kernel_rfl) ?_
    refine wq_mvs (A := [_, _]) hF rfl ?_; clear hF a; intro a hF
    obtain ⟨g18, o18, m18, q18, hv18, hm18, hl18, hc18⟩ := Rd.atF ((hS.own_rd (i := 0) rfl)) (a := a) (X := .tmp 17) (hF.ev rfl) (by omega) (by omega)
    refine wq hF rfl rfl rfl (fun w_ hB_ => r_index sl24 ((hF.ev rfl).trans hv18) (hF.ev rfl) (by omega) (by first | omega | (simp at hm18; omega))) ?_; clear hF a; intro a hF
    refine wq hF rfl rfl rfl (fun w_ hB_ => r_load1 sc3 (hF.ev rfl) (cellB hB_ (hc18 0 _ rfl))) ?_; clear hF a; intro a hF
    refine wq hF rfl rfl rfl (fun w_ hB_ => r_eql (hF.ev rfl) ec) ?_; clear hF a; intro a hF
    refine wq_mvs (A := [_]) hF rfl ?_; clear hF a; intro a hF
    apply wq_or (A := [_, _, _, _, _, _, _, _, _, _, _, _, _, _, _, _, _, _, _]) (pk := 40) hF (tc := 21) rfl
    ·
      intro hg21 a hF; try simp only [zb1, zb2, zb3, zb4, zb5, zb6, zb7, zb8] at hg21
      refine wq_mvs (A := [_, _]) hF rfl ?_; clear hF a; intro a hF
      refine wq_take hF rfl rfl rfl rfl ?_
      refine wq hF rfl rfl rfl (fun w_ hB_ => r_sub (hF.ev rfl) ec) ?_; clear hF a; intro a hF
      refine wq_take hF rfl rfl rfl rfl ?_
      obtain ⟨g25, o25, m25, q25, hv25, hm25, hl25, hc25⟩ := Rd.atF ((hS.own_rd (i := 0) rfl)) (a := a) (X := .tmp 24) (hF.ev rfl) (by omega) (by omega)
      refine wq hF rfl rfl rfl (fun w_ hB_ => r_index sl24 ((hF.ev rfl).trans hv25) (hF.ev rfl) (by omega) (by first | omega | (simp at hm25; omega))) ?_; clear hF a; intro a hF
      refine wq_take hF rfl rfl rfl rfl ?_
      refine wq hF rfl rfl rfl (fun w_ hB_ => r_load1 sc3 (hF.ev rfl) (cellB hB_ (hc25 0 _ rfl))) ?_; clear hF a; intro a hF
      refine wq_take hF rfl rfl rfl rfl ?_
      refine wq hF rfl rfl rfl (fun w_ hB_ => r_gtr (hF.ev rfl) ec) ?_; clear hF a; intro a hF
      refine wq_mvs (A := [_]) hF rfl ?_; clear hF a; intro a hF
      apply wq_and (A := [_, _, _, _, _, _, _, _, _, _, _]) (pk := 39) hF (tc := 28) rfl
      ·
        intro hg28 a hF; try simp only [zb1, zb2, zb3, zb4, zb5, zb6, zb7, zb8] at hg28
        refine wq_mvs (A := [_, _]) hF rfl ?_; clear hF a; intro a hF
        refine wq_take hF rfl rfl rfl rfl ?_
        obtain ⟨g31, o31, m31, q31, hv31, hm31, hl31, hc31⟩ := Rd.atF ((hS.own_rd (i := 0) rfl)) (a := a) (X := .tmp 30) (hF.ev rfl) (by omega) (by omega)
        refine wq hF rfl rfl rfl (fun w_ hB_ => r_index sl24 ((hF.ev rfl).trans hv31) (hF.ev rfl) (by omega) (by first | omega | (simp at hm31; omega))) ?_; clear hF a; intro a hF
        refine wq_take hF rfl rfl rfl rfl ?_
        refine wq hF rfl rfl rfl (fun w_ hB_ => r_load1 sc3 (hF.ev rfl) (cellB hB_ (hc31 0 _ rfl))) ?_; clear hF a; intro a hF
        refine wq_mvs (A := [_, _]) hF rfl ?_; clear hF a; intro a hF
        refine wq_take hF rfl rfl rfl rfl ?_
        refine wq hF rfl rfl rfl (fun w_ hB_ => r_sub (hF.ev rfl) ec) ?_; clear hF a; intro a hF
        refine wq_take hF rfl rfl rfl rfl ?_
        obtain ⟨g36, o36, m36, q36, hv36, hm36, hl36, hc36⟩ := Rd.atF ((hS.own_rd (i := 0) rfl)) (a := a) (X := .tmp 35) (hF.ev rfl) (by omega) (by omega)
        refine wq hF rfl rfl rfl (fun w_ hB_ => r_index sl24 ((hF.ev rfl).trans hv36) (hF.ev rfl) (by omega) (by first | omega | (simp at hm36; omega))) ?_; clear hF a; intro a hF
        refine wq_take hF rfl rfl rfl rfl ?_
        refine wq hF rfl rfl rfl (fun w_ hB_ => r_load1 sc3 (hF.ev rfl) (cellB hB_ (hc36 0 _ rfl))) ?_; clear hF a; intro a hF
        refine wq_take hF rfl rfl rfl rfl ?_
        refine wq hF rfl rfl rfl (fun w_ hB_ => r_gtr (hF.ev rfl) (hF.ev rfl)) ?_; clear hF a; intro a hF
        refine wq_take hF rfl rfl rfl rfl ?_
        refine wq hF rfl rfl rfl (fun w_ hB_ => r_pick_t (hF.ev rfl) (hF.ev rfl)) ?_; clear hF a; intro a hF
        exact wpQuiet_nil ((Fr.pre (A := [_, _, _, _, _, _, _, _, _, _, _]) hF rfl).keep hF (t := 39) rfl)
      ·
        intro hg28 a hF; try simp only [zb1, zb2, zb3, zb4, zb5, zb6, zb7, zb8] at hg28
        refine wq_mvs (A := [_, _, _, _, _, _, _, _, _, _]) hF rfl ?_; clear hF a; intro a hF
        refine wq_take hF rfl rfl rfl rfl ?_
        refine wq hF rfl rfl rfl (fun w_ hB_ => r_pick_f (hF.ev rfl) ec) ?_; clear hF a; intro a hF
        exact wpQuiet_nil ((Fr.pre (A := [_, _, _, _, _, _, _, _, _, _, _]) hF rfl).keep hF (t := 39) rfl)
      intro a hF
      refine wq hF rfl rfl rfl (fun w_ hB_ => r_pick_f (hF.ev rfl) (hF.ev rfl)) ?_; clear hF a; intro a hF
      exact wpQuiet_nil ((Fr.pre (A := [_, _, _, _, _, _, _, _, _]) hF rfl).keep hF (t := 40) rfl)
    ·
      intro hg21 a hF; try simp only [zb1, zb2, zb3, zb4, zb5, zb6, zb7, zb8] at hg21
      refine wq_mvs (A := [_, _, _, _, _, _, _, _, _, _, _, _, _, _, _, _, _, _]) hF rfl ?_; clear hF a; intro a hF
      refine wq hF rfl rfl rfl (fun w_ hB_ => r_pick_t (hF.ev rfl) ec) ?_; clear hF a; intro a hF
      exact wpQuiet_nil ((Fr.pre (A := [_, _, _, _, _, _, _, _, _, _, _, _, _, _, _, _, _, _, _]) hF rfl).keep hF (t := 40) rfl)
    clear hF a; intro a hF
    refine wpQuiet_nil ?_; intro w6 hB_; replace hS := hS.ext hB_; clear hB_
    refine hK8 _ _ ?_
    refine wc_fx (t := 40) hF rfl ?_ ?_ <;> clear hF <;> intro c40 hF <;> try simp only [zb1, zb2, zb3, zb4, zb5, zb6, zb7, zb8] at c40
    ·
      simp only [hwk] at c40
      have hb1 : badAt (stampsOf s p) k = true := by unfold badAt; simp only [Bool.or_eq_true, Bool.and_eq_true, decide_eq_true_eq]; omega
      refine ws fun K9 hK9 => ?_
      refine wl_mvs (A := [_]) hF rfl ?_; clear hF a; intro a hF
      refine wl_nil (hK9 _ _ ?_)
      refine wp_ret ?_
      try simp only [Exit.then, Exit.inBlock, ↓reduceIte]
      refine ret1 rfl hF rfl ⟨congrArg Value.bool (Eq.symm ?_), hS.old⟩
      first
        | exact ord_bad (by omega) hk hb1
        | (unfold isOrdered ordOk; rw [all_done hn (by rw [List.length_range]; omega), Bool.and_true]; exact keyOk_eq.symm)
    simp only [hwk] at c40
    have hb1 : badAt (stampsOf s p) k = false := by unfold badAt; simp only [Bool.or_eq_false_iff, Bool.and_eq_false_iff, decide_eq_false_iff_not]; omega
    refine wp_skip ?_
    simp only [Exit.then, Exit.inBlock, ↓reduceIte]
    refine hK7 _ _ ?_
    refine wp_region_lit ?_
    refine wl_mvs (A := [_]) hF rfl ?_; clear hF a; intro a hF
    refine wl hF rfl rfl rfl (r_add (hF.ev rfl) ec) ?_; clear hF a; intro a hF
    refine wl_mvs (A := [_]) hF rfl ?_; clear hF a; intro a hF
    refine wl_nil ?_
    try simp only [Exit.then, Exit.inBlock, ↓reduceIte]
    refine ⟨k + 1, ⟨by omega, all_nxt hn (range_at (by omega)) (by rw [hb1, Bool.not_false, Bool.or_true])⟩, hS, (((((hF.nil.keep hF (t := 5) rfl).keep hF (t := 4) rfl).keep hF (t := 2) rfl).keep hF (t := 1) rfl).keepE hF (t := 6) rfl (wk (by omega))), by omega⟩
  refine wp_exit ?_
  simp only [Exit.then, Exit.inBlock, ↓reduceIte]
  refine hK3 _ _ ?_
  refine ws fun K10 hK10 => ?_
  refine wl hF rfl rfl rfl (r_loadn ag37 (hF.ev rfl) (hS.box_rd (i := 1) rfl) sz37) ?_; clear hF a; intro a hF
  refine wl_call hF rfl rfl rfl (r_call1 en81 (hF.ev rfl)) (specIsState_c (hS.k hm) hw (by omega)) ?_; clear hF a; rintro v w7 a ⟨rfl, hB_⟩ hF; replace hS := hS.ext hB_; clear hB_
  refine wl_mvs (A := [_]) hF rfl ?_; clear hF a; intro a hF
  apply wl_and (A := [_, _, _, _, _, _, _]) (pk := 50) hF hS (tc := 43) rfl
  ·
    intro hg43 a hF; try simp only [zb1, zb2, zb3, zb4, zb5, zb6, zb7, zb8] at hg43
    refine wl_mvs (A := [_]) hF rfl ?_; clear hF a; intro a hF
    refine wl_take hF rfl rfl rfl rfl ?_
    refine wl hF rfl rfl rfl (r_field fo37_0 (hF.ev rfl)) ?_; clear hF a; intro a hF
    refine wl_take hF rfl rfl rfl rfl ?_
    refine wl hF rfl rfl rfl (r_field fo34_1 (hF.ev rfl)) ?_; clear hF a; intro a hF
    refine wl_take hF rfl rfl rfl rfl ?_
    refine wl hF rfl rfl rfl (r_load1 sc3 (hF.ev rfl) (hS.box (i := 1) rfl rfl)) ?_; clear hF a; intro a hF
    refine wl_take hF rfl rfl rfl rfl ?_
    refine wl hF rfl rfl rfl (r_sub (hF.ev rfl) ec) ?_; clear hF a; intro a hF
    refine wl_take hF rfl rfl rfl rfl ?_
    refine wl_call hF rfl rfl rfl (r_call3 en82 (hF.ev rfl) ec (hF.ev rfl)) (l1In_c _ _ _) ?_; clear hF a; rintro v w8 a ⟨rfl, hB_⟩ hF; replace hS := hS.ext hB_; clear hB_
    refine wl hF rfl rfl rfl (r_pick_t (hF.ev rfl) (hF.ev rfl)) ?_; clear hF a; intro a hF
    exact wl_nil ⟨rfl, (Fr.pre (A := [_, _, _, _, _, _, _]) hF rfl).keep hF (t := 50) rfl, hS⟩
  ·
    intro hg43 a hF; try simp only [zb1, zb2, zb3, zb4, zb5, zb6, zb7, zb8] at hg43
    refine wl_mvs (A := [_, _, _, _, _, _]) hF rfl ?_; clear hF a; intro a hF
    refine wl hF rfl rfl rfl (r_pick_f (hF.ev rfl) ec) ?_; clear hF a; intro a hF
    exact wl_nil ⟨rfl, (Fr.pre (A := [_, _, _, _, _, _, _]) hF rfl).keep hF (t := 50) rfl, hS⟩
  clear hF a hS; intro a w9 hF hS
  refine wl_mvs (A := [_]) hF rfl ?_; clear hF a; intro a hF
  refine wl_nil (hK10 _ _ ?_)
  refine wp_ret ?_
  try simp only [Exit.then, Exit.inBlock, ↓reduceIte]
  refine ret1 rfl hF rfl ⟨congrArg Value.bool (Eq.symm ?_), hS.old⟩
  first
    | exact ord_bad (by omega) hk hb1
    | (unfold isOrdered ordOk; rw [all_done hn (by rw [List.length_range]; omega), Bool.and_true]; exact keyOk_eq.symm)

set_option maxHeartbeats 4000000 in
set_option maxRecDepth 20000 in
theorem implIsOrdered_c {W : World} {s : Sl.State} {cs : List Value} (hm : stateEK.K W s cs) (hw : s.wf) (hz : (s.size : Int) ≤ 1048576) {p : Int} (hp : int64 p) : Calls Try.prog 32 #[.agg cs.toArray, vi p] W (Ret fun v w' => v = .bool (isOrdered s p) ∧ Below W.heap.size W w') := by
  refine calls_fr Try.func32 rfl Try.ntmps32 rfl ?_
  intro a hF
  have hS := Sep.refl W
  obtain ⟨v0, v1, v2, rfl, r0, r1, r2⟩ := hm
  have hm : stateEK.K W s (s.encv v0 v1 v2) := ⟨_, _, _, rfl, r0, r1, r2⟩
  obtain ⟨A_a, q_a, rfl, hq_a, hn_a⟩ := r0.sl; unfold maxLen at hn_a
  obtain ⟨A_b, q_b, rfl, hq_b, hn_b⟩ := r1.sl; unfold maxLen at hn_b
  obtain ⟨A_c, q_c, rfl, hq_c, hn_c⟩ := r2.sl; unfold maxLen at hn_c
  have hwl : IntKind.i64.wrap ((s.threads.length : Int) - 1) = s.threads.length - 1 := w64_id (by omega) (by omega)
  have hll := listOf_len (s := s) (k := p)
  have hsl := stampsOf_len (s := s) (k := p)
  refine ws fun K1 hK1 => ?_
  refine wl_box (cs := [_, _, _, _, _, _, _, _, _, _, _, _, _]) hF hS rfl (hF.ev rfl) rfl ?_; clear hF a; intro g1 w1 a hS_ hB_ hF; replace hS := hS_; clear hS_ hB_
  refine wl_mvs (A := [_]) hF rfl ?_; clear hF a; intro a hF
  refine wl_nil (hK1 _ _ ?_)
  refine wp_seq_k fun K2 hK2 => ?_
  refine ws fun K3 hK3 => ?_
  refine wl hF rfl rfl rfl (r_loadn ag37 (hF.ev rfl) (hS.box_rd (i := 0) rfl) sz37) ?_; clear hF a; intro a hF
  refine wl_call hF rfl rfl rfl (r_call1 en76 (hF.ev rfl)) (implIsState_c (hS.k hm) hw (by omega)) ?_; clear hF a; rintro v w2 a ⟨rfl, hB_⟩ hF; replace hS := hS.ext hB_; clear hB_
  refine wl hF rfl rfl rfl (r_not (hF.ev rfl)) ?_; clear hF a; intro a hF
  refine wl_mvs (A := [_]) hF rfl ?_; clear hF a; intro a hF
  apply wl_or (A := [_, _, _, _, _, _, _, _]) (pk := 18) hF hS (tc := 10) rfl
  ·
    intro hg10 a hF; try simp only [zb1, zb2, zb3, zb4, zb5, zb6, zb7, zb8] at hg10
    refine wl_mvs (A := [_]) hF rfl ?_; clear hF a; intro a hF
    refine wl_take hF rfl rfl rfl rfl ?_
    refine wl hF rfl rfl rfl (r_field fo37_0 (hF.ev rfl)) ?_; clear hF a; intro a hF
    refine wl_take hF rfl rfl rfl rfl ?_
    refine wl hF rfl rfl rfl (r_field fo34_1 (hF.ev rfl)) ?_; clear hF a; intro a hF
    refine wl_take hF rfl rfl rfl rfl ?_
    refine wl hF rfl rfl rfl (r_load1 sc3 (hF.ev rfl) (hS.box (i := 0) rfl rfl)) ?_; clear hF a; intro a hF
    refine wl_take hF rfl rfl rfl rfl ?_
    refine wl hF rfl rfl rfl (r_sub (hF.ev rfl) ec) ?_; clear hF a; intro a hF
    refine wl_take hF rfl rfl rfl rfl ?_
    refine wl_call hF rfl rfl rfl (r_call3 en83 (hF.ev rfl) ec (hF.ev rfl)) (in_c _ _ _) ?_; clear hF a; rintro v w3 a ⟨rfl, hB_⟩ hF; replace hS := hS.ext hB_; clear hB_
    refine wl_take hF rfl rfl rfl rfl ?_
    refine wl hF rfl rfl rfl (r_not (hF.ev rfl)) ?_; clear hF a; intro a hF
    refine wl hF rfl rfl rfl (r_pick_f (hF.ev rfl) (hF.ev rfl)) ?_; clear hF a; intro a hF
    exact wl_nil ⟨rfl, (Fr.pre (A := [_, _, _, _, _, _, _, _]) hF rfl).keep hF (t := 18) rfl, hS⟩
  ·
    intro hg10 a hF; try simp only [zb1, zb2, zb3, zb4, zb5, zb6, zb7, zb8] at hg10
    refine wl_mvs (A := [_, _, _, _, _, _, _]) hF rfl ?_; clear hF a; intro a hF
    refine wl hF rfl rfl rfl (r_pick_t (hF.ev rfl) ec) ?_; clear hF a; intro a hF
    exact wl_nil ⟨rfl, (Fr.pre (A := [_, _, _, _, _, _, _, _]) hF rfl).keep hF (t := 18) rfl, hS⟩
  clear hF a hS; intro a w4 hF hS
  refine wl_nil (hK3 _ _ ?_)
  refine wc_fx (t := 18) hF rfl ?_ ?_ <;> clear hF <;> intro c18 hF <;> try simp only [zb1, zb2, zb3, zb4, zb5, zb6, zb7, zb8] at c18
  ·
    refine ws fun K4 hK4 => ?_
    refine wl_mvs (A := [_]) hF rfl ?_; clear hF a; intro a hF
    refine wl_nil (hK4 _ _ ?_)
    refine wp_ret ?_
    try simp only [Exit.then, Exit.inBlock, ↓reduceIte]
    refine ret1 rfl hF rfl ⟨congrArg Value.bool (Eq.symm ?_), hS.old⟩
    first
      | exact ord_bad (by omega) hk hb1
      | (unfold isOrdered ordOk; rw [all_done hn (by rw [List.length_range]; omega), Bool.and_true, ← keyOk_eq, c18.1, decide_eq_true c18.2]; rfl)
      | (unfold isOrdered; rw [← keyOk_eq]; rcases c18 with c | c
         · rw [c]; rfl
         · rw [decide_eq_false c, Bool.and_false]; rfl)
  refine wp_skip ?_
  refine hK2 _ _ ?_
  refine ws fun K5 hK5 => ?_
  refine wl hF rfl rfl rfl (r_loadn ag37 (hF.ev rfl) (hS.box_rd (i := 0) rfl) sz37) ?_; clear hF a; intro a hF
  refine wl_mvs (A := [_]) hF rfl ?_; clear hF a; intro a hF
  refine wl_mk hF hS rfl rfl rfl (r_call2 en44 (hF.ev rfl) (hF.ev rfl)) (implStampsOf_c (hS.k hm) hw (by omega) hp) ?_; clear hF a; rintro s21 w5 a hS_ hF; replace hS := hS_; clear hS_; dsimp only [List.cons_append, List.nil_append] at hS
  have hln21 := hS.own_len (q := 0) rfl
  refine wl_mvs (A := [_]) hF rfl ?_; clear hF a; intro a hF
  refine wl_nil (hK5 _ _ ?_)
  refine wp_seq_k fun K6 hK6 => ?_
  refine ws fun K7 hK7 => ?_
  refine wl_mvs (A := [_]) hF rfl ?_; clear hF a; intro a hF
  refine wl_nil (hK7 _ _ ?_)
  refine wp_block ?_
  have hL_ := ((hF.nil.keep hF (t := 5) rfl).keep hF (t := 4) rfl)
  refine wp_loop_r (σ := Nat) (fun k L_ => (6, vi k) :: L_) (fun k => (1 ≤ k) ∧ (((List.range (stampsOf s p).length).take k).all (fun i => decide (i = 0) || !badAt (stampsOf s p) i) = true)) (fun k => (stampsOf s p).length - k) 1 hS (hL_.keepE hF (t := 6) rfl rfl) ?_ ?_
  · exact ⟨Nat.le_refl _, ord_init⟩
  clear hF hS hL_ a
  rintro k a w6 ⟨hk, hn⟩ hS hF; try dsimp only at hF; try dsimp only at hS
  refine wp_seq_k fun K8 hK8 => ?_
  refine ws fun K9 hK9 => ?_
  refine wl_mvs (A := [_, _]) hF rfl ?_; clear hF a; intro a hF
  refine wl hF rfl rfl rfl (r_len ul24 (hF.ev rfl)) ?_; clear hF a; intro a hF
  refine wl hF rfl rfl rfl (r_lss (hF.ev rfl) (hF.ev rfl)) ?_; clear hF a; intro a hF
  refine wl_nil (hK9 _ _ ?_)
  refine wc_fx (t := 25) hF rfl ?_ ?_ <;> clear hF <;> intro c25 hF <;> try simp only [zb1, zb2, zb3, zb4, zb5, zb6, zb7, zb8] at c25
  ·
    have hwk : IntKind.i64.wrap ((k : Int) - 1) = k - 1 := w64_id (by omega) (by omega)
    have hsp := stamps_pos hw (k := p) (i := (k : Int) - 1) (by omega) (by omega)
    refine wp_skip ?_
    refine hK8 _ _ ?_
    refine wp_seq_k fun K10 hK10 => ?_
    refine wp_block ?_
    refine wp_seq_k fun K11 hK11 => ?_
    refine wp_region_calm (by kernel_rfl) (by kernel_rfl) ?_
    refine wq_mvs (A := [_, _]) hF rfl ?_; clear hF a; intro a hF
    obtain ⟨g30, o30, m30, q30, hv30, hm30, hl30, hc30⟩ := Rd.atF ((hS.own_rd (i := 0) rfl)) (a := a) (X := .tmp 29) (hF.ev rfl) (by omega) (by omega)
    refine wq hF rfl rfl rfl (fun w_ hB_ => r_index sl24 ((hF.ev rfl).trans hv30) (hF.ev rfl) (by omega) (by first | omega | (simp at hm30; omega))) ?_; clear hF a; intro a hF
    refine wq hF rfl rfl rfl (fun w_ hB_ => r_load1 sc3 (hF.ev rfl) (cellB hB_ (hc30 0 _ rfl))) ?_; clear hF a; intro a hF
    refine wq hF rfl rfl rfl (fun w_ hB_ => r_eql (hF.ev rfl) ec) ?_; clear hF a; intro a hF
    refine wq_mvs (A := [_]) hF rfl ?_; clear hF a; intro a hF
    apply wq_or (A := [_, _, _, _, _, _, _, _, _, _, _, _, _, _, _, _, _, _, _]) (pk := 52) hF (tc := 33) rfl
    ·
      intro hg33 a hF; try simp only [zb1, zb2, zb3, zb4, zb5, zb6, zb7, zb8] at hg33
      refine wq_mvs (A := [_, _]) hF rfl ?_; clear hF a; intro a hF
      refine wq_take hF rfl rfl rfl rfl ?_
      obtain ⟨g36, o36, m36, q36, hv36, hm36, hl36, hc36⟩ := Rd.atF ((hS.own_rd (i := 0) rfl)) (a := a) (X := .tmp 35) (hF.ev rfl) (by omega) (by omega)
      refine wq hF rfl rfl rfl (fun w_ hB_ => r_index sl24 ((hF.ev rfl).trans hv36) (hF.ev rfl) (by omega) (by first | omega | (simp at hm36; omega))) ?_; clear hF a; intro a hF
      refine wq_take hF rfl rfl rfl rfl ?_
      refine wq hF rfl rfl rfl (fun w_ hB_ => r_load1 sc3 (hF.ev rfl) (cellB hB_ (hc36 0 _ rfl))) ?_; clear hF a; intro a hF
      refine wq_mvs (A := [_, _]) hF rfl ?_; clear hF a; intro a hF
      refine wq_take hF rfl rfl rfl rfl ?_
      refine wq hF rfl rfl rfl (fun w_ hB_ => r_sub (hF.ev rfl) ec) ?_; clear hF a; intro a hF
      refine wq_take hF rfl rfl rfl rfl ?_
      obtain ⟨g41, o41, m41, q41, hv41, hm41, hl41, hc41⟩ := Rd.atF ((hS.own_rd (i := 0) rfl)) (a := a) (X := .tmp 40) (hF.ev rfl) (by omega) (by omega)
      refine wq hF rfl rfl rfl (fun w_ hB_ => r_index sl24 ((hF.ev rfl).trans hv41) (hF.ev rfl) (by omega) (by first | omega | (simp at hm41; omega))) ?_; clear hF a; intro a hF
      refine wq_take hF rfl rfl rfl rfl ?_
      refine wq hF rfl rfl rfl (fun w_ hB_ => r_load1 sc3 (hF.ev rfl) (cellB hB_ (hc41 0 _ rfl))) ?_; clear hF a; intro a hF
      refine wq_take hF rfl rfl rfl rfl ?_
      refine wq hF rfl rfl rfl (fun w_ hB_ => r_gtr (hF.ev rfl) (hF.ev rfl)) ?_; clear hF a; intro a hF
      refine wq_mvs (A := [_]) hF rfl ?_; clear hF a; intro a hF
      apply wq_and (A := [_, _, _, _, _, _, _]) (pk := 51) hF (tc := 44) rfl
      ·
        intro hg44 a hF; try simp only [zb1, zb2, zb3, zb4, zb5, zb6, zb7, zb8] at hg44
        refine wq_mvs (A := [_, _]) hF rfl ?_; clear hF a; intro a hF
        refine wq_take hF rfl rfl rfl rfl ?_
        refine wq hF rfl rfl rfl (fun w_ hB_ => r_sub (hF.ev rfl) ec) ?_; clear hF a; intro a hF
        refine wq_take hF rfl rfl rfl rfl ?_
        obtain ⟨g48, o48, m48, q48, hv48, hm48, hl48, hc48⟩ := Rd.atF ((hS.own_rd (i := 0) rfl)) (a := a) (X := .tmp 47) (hF.ev rfl) (by omega) (by omega)
        refine wq hF rfl rfl rfl (fun w_ hB_ => r_index sl24 ((hF.ev rfl).trans hv48) (hF.ev rfl) (by omega) (by first | omega | (simp at hm48; omega))) ?_; clear hF a; intro a hF
        refine wq_take hF rfl rfl rfl rfl ?_
        refine wq hF rfl rfl rfl (fun w_ hB_ => r_load1 sc3 (hF.ev rfl) (cellB hB_ (hc48 0 _ rfl))) ?_; clear hF a; intro a hF
        refine wq_take hF rfl rfl rfl rfl ?_
        refine wq hF rfl rfl rfl (fun w_ hB_ => r_neq (hF.ev rfl) ec) ?_; clear hF a; intro a hF
        refine wq_take hF rfl rfl rfl rfl ?_
        refine wq hF rfl rfl rfl (fun w_ hB_ => r_pick_t (hF.ev rfl) (hF.ev rfl)) ?_; clear hF a; intro a hF
        exact wpQuiet_nil ((Fr.pre (A := [_, _, _, _, _, _, _]) hF rfl).keep hF (t := 51) rfl)
      ·
        intro hg44 a hF; try simp only [zb1, zb2, zb3, zb4, zb5, zb6, zb7, zb8] at hg44
        refine wq_mvs (A := [_, _, _, _, _, _]) hF rfl ?_; clear hF a; intro a hF
        refine wq_take hF rfl rfl rfl rfl ?_
        refine wq hF rfl rfl rfl (fun w_ hB_ => r_pick_f (hF.ev rfl) ec) ?_; clear hF a; intro a hF
        exact wpQuiet_nil ((Fr.pre (A := [_, _, _, _, _, _, _]) hF rfl).keep hF (t := 51) rfl)
      intro a hF
      refine wq hF rfl rfl rfl (fun w_ hB_ => r_pick_f (hF.ev rfl) (hF.ev rfl)) ?_; clear hF a; intro a hF
      exact wpQuiet_nil ((Fr.pre (A := [_, _, _, _, _, _, _, _, _, _, _, _, _]) hF rfl).keep hF (t := 52) rfl)
    ·
      intro hg33 a hF; try simp only [zb1, zb2, zb3, zb4, zb5, zb6, zb7, zb8] at hg33
      refine wq_mvs (A := [_, _, _, _, _, _, _, _, _, _, _, _, _, _, _, _, _, _]) hF rfl ?_; clear hF a; intro a hF
      refine wq hF rfl rfl rfl (fun w_ hB_ => r_pick_t (hF.ev rfl) ec) ?_; clear hF a; intro a hF
      exact wpQuiet_nil ((Fr.pre (A := [_, _, _, _, _, _, _, _, _, _, _, _, _, _, _, _, _, _, _]) hF rfl).keep hF (t := 52) rfl)
    clear hF a; intro a hF
    refine wpQuiet_nil ?_; intro w9 hB_; replace hS := hS.ext hB_; clear hB_
    refine hK11 _ _ ?_
    refine wc_fx (t := 52) hF rfl ?_ ?_ <;> clear hF <;> intro c52 hF <;> try simp only [zb1, zb2, zb3, zb4, zb5, zb6, zb7, zb8] at c52
    ·
      simp only [hwk] at c52
      have hb1 : badAt (stampsOf s p) k = true := by unfold badAt; simp only [Bool.or_eq_true, Bool.and_eq_true, decide_eq_true_eq]; omega
      refine ws fun K12 hK12 => ?_
      refine wl_mvs (A := [_]) hF rfl ?_; clear hF a; intro a hF
      refine wl_nil (hK12 _ _ ?_)
      refine wp_ret ?_
      try simp only [Exit.then, Exit.inBlock, ↓reduceIte]
      refine ret1 rfl hF rfl ⟨congrArg Value.bool (Eq.symm ?_), hS.old⟩
      first
        | exact ord_bad (by omega) hk hb1
        | (unfold isOrdered ordOk; rw [all_done hn (by rw [List.length_range]; omega), Bool.and_true, ← keyOk_eq, c18.1, decide_eq_true c18.2]; rfl)
        | (unfold isOrdered; rw [← keyOk_eq]; rcases c18 with c | c
           · rw [c]; rfl
           · rw [decide_eq_false c, Bool.and_false]; rfl)
    simp only [hwk] at c52
    have hb1 : badAt (stampsOf s p) k = false := by unfold badAt; simp only [Bool.or_eq_false_iff, Bool.and_eq_false_iff, decide_eq_false_iff_not]; omega
    refine wp_skip ?_
    simp only [Exit.then, Exit.inBlock, ↓reduceIte]
    refine hK10 _ _ ?_
    refine wp_region_lit ?_
    refine wl_mvs (A := [_]) hF rfl ?_; clear hF a; intro a hF
    refine wl hF rfl rfl rfl (r_add (hF.ev rfl) ec) ?_; clear hF a; intro a hF
    refine wl_mvs (A := [_]) hF rfl ?_; clear hF a; intro a hF
    refine wl_nil ?_
    try simp only [Exit.then, Exit.inBlock, ↓reduceIte]
    refine ⟨k + 1, ⟨by omega, all_nxt hn (range_at (by omega)) (by rw [hb1, Bool.not_false, Bool.or_true])⟩, hS, (((hF.nil.keep hF (t := 5) rfl).keep hF (t := 4) rfl).keepE hF (t := 6) rfl (wk (by omega))), by omega⟩
  refine wp_exit ?_
  simp only [Exit.then, Exit.inBlock, ↓reduceIte]
  refine hK6 _ _ ?_
  refine ws fun K13 hK13 => ?_
  refine wl_mvs (A := [_]) hF rfl ?_; clear hF a; intro a hF
  refine wl_nil (hK13 _ _ ?_)
  refine wp_ret ?_
  try simp only [Exit.then, Exit.inBlock, ↓reduceIte]
  refine ret1 rfl hF rfl ⟨congrArg Value.bool (Eq.symm ?_), hS.old⟩
  first
    | exact ord_bad (by omega) hk hb1
    | (unfold isOrdered ordOk; rw [all_done hn (by rw [List.length_range]; omega), Bool.and_true, ← keyOk_eq, c18.1, decide_eq_true c18.2]; rfl)
    | (unfold isOrdered; rw [← keyOk_eq]; rcases c18 with c | c
       · rw [c]; rfl
       · rw [decide_eq_false c, Bool.and_false]; rfl)

set_option maxHeartbeats 4000000 in
set_option maxRecDepth 20000 in
theorem nonzero_c {W : World} {va : Value} {xs : List Int} (ha : intEK.Rd W va xs) (hz : xs.length ≤ 1048576) : Calls Try.prog 85 #[va] W (Ret (Mk W (fun z : Slv => sv z) (fun z => [Own intEK (sv z) (nz xs)]))) := by
  refine calls_fr Try.func85 rfl Try.ntmps85 rfl ?_
  intro a hF
  have hS := Sep.refl W
  obtain ⟨A_a, q_a, rfl, hq_a, hn_a⟩ := ha.sl; unfold maxLen at hn_a
  refine ws fun K1 hK1 => ?_
  refine wl_mvs (A := [_]) hF rfl ?_; clear hF a; intro a hF
  refine wl_nil (hK1 _ _ ?_)
  refine ws fun K2 hK2 => ?_
  refine wl_bslice intEK [] [] rfl hF hS rfl mk24 rfl trivial rfl rfl rfl rfl ?_; clear hF a; intro gl_6 w1 a hS_ hF; replace hS := hS_; clear hS_
  refine wl_mvs (A := [_]) hF rfl ?_; clear hF a; intro a hF
  refine wl_nil (hK2 _ _ ?_)
  refine wp_seq_k fun K3 hK3 => ?_
  refine ws fun K4 hK4 => ?_
  refine wl_mvs (A := [_]) hF rfl ?_; clear hF a; intro a hF
  refine wl hF rfl rfl rfl (r_len ul24 (hF.ev rfl)) ?_; clear hF a; intro a hF
  refine wl_mvs (A := [_]) hF rfl ?_; clear hF a; intro a hF
  refine wl_nil (hK4 _ _ ?_)
  refine wp_block ?_
  replace hS := hS.pull (p := 0) rfl; dsimp only [List.eraseIdx] at hS
  have hL_ := (((hF.nil.keep hF (t := 8) rfl).keep hF (t := 7) rfl).keep hF (t := 2) rfl)
  refine wp_loop_m (σ := Nat × Slv) (fun z L_ => (9, vi z.1) :: (3, sv z.2) :: L_) (fun z l_ => (Own intEK (sv z.2) (nz ((xs.take z.1).drop 0))) :: l_) (fun z => (z.1 ≤ xs.length)) (fun z => xs.length - z.1) (0, (some ⟨gl_6, 0, none⟩, 0, 0)) (hS) ((hL_.keepE hF (t := 3) rfl rfl).keepE hF (t := 9) rfl rfl) ?_ ?_
  · exact Nat.zero_le _
  clear hF hS hL_ a
  rintro ⟨k, q⟩ a w2 hk hS hF; try dsimp only at hF; try dsimp only at hS; try dsimp only at hk
  refine ws fun K5 hK5 => ?_
  refine wl hF rfl rfl rfl (r_lss (hF.ev rfl) (hF.ev rfl)) ?_; clear hF a; intro a hF
  refine wl_nil (hK5 _ _ ?_)
  refine wp_seq_k fun K6 hK6 => ?_
  refine wc_fx (t := 10) hF rfl ?_ ?_ <;> clear hF <;> intro c10 hF <;> try simp only [zb1, zb2, zb3, zb4, zb5, zb6, zb7, zb8] at c10
  ·
    have hlt : k < xs.length := by omega
    have hx := at0_nat hlt
    refine wp_skip ?_
    refine hK6 _ _ ?_
    refine wp_seq_k fun K7 hK7 => ?_
    refine wp_block ?_
    refine ws fun K8 hK8 => ?_
    obtain ⟨g11, o11, m11, q11, hv11, hm11, hl11, hc11⟩ := Rd.atF (ha) (a := a) (X := .tmp 9) (hF.ev rfl) (by omega) (by omega)
    refine wl hF rfl rfl rfl (r_index sl24 ((hF.ev rfl).trans hv11) (hF.ev rfl) (by omega) (by first | omega | (simp at hm11; omega))) ?_; clear hF a; intro a hF
    refine wl hF rfl rfl rfl (r_load1 sc3 (hF.ev rfl) (cellB hS.old (hc11 0 _ rfl))) ?_; clear hF a; intro a hF
    refine wl_mvs (A := [_]) hF rfl ?_; clear hF a; intro a hF
    refine wl_nil (hK8 _ _ ?_)
    refine ws fun K9 hK9 => ?_
    refine wl_mvs (A := [_]) hF rfl ?_; clear hF a; intro a hF
    refine wl hF rfl rfl rfl (r_neq (hF.ev rfl) ec) ?_; clear hF a; intro a hF
    refine wl_nil (hK9 _ _ ?_)
    refine wc_fx (t := 14) hF rfl ?_ ?_ <;> clear hF <;> intro c14 hF <;> try simp only [zb1, zb2, zb3, zb4, zb5, zb6, zb7, zb8] at c14
    ·
      refine wp_region_lit ?_
      refine wl_mvs (A := [_, _]) hF rfl ?_; clear hF a; intro a hF
      refine wl_bslice intEK [vi (at0 xs (k : Int))] [at0 xs (k : Int)] rfl hF hS rfl mk24 rfl ⟨rfl, (hF.ev rfl), trivial⟩ rfl rfl rfl rfl ?_; clear hF a; intro gl_17 w3 a hS_ hF; replace hS := hS_; clear hS_
      refine wl_append (q := 1) hF hS rfl rfl (hS.own_rd (i := 0) rfl) mk24 rfl (hF.ev rfl) (hF.ev rfl) (by have := nz_len (xs := xs) (i := 0) (k := k); simp only [List.length_cons, List.length_nil]; omega) (by have := nz_len (xs := xs) (i := 0) (k := k); unfold maxLen; simp only [List.length_cons, List.length_nil]; omega) ?_; clear hF a; intro A_18 c_18 w4 a hS_ hF; replace hS := hS_; clear hS_; dsimp only [List.set, List.length_cons, List.length_nil] at hS hF
      refine wl_mvs (A := [_]) hF rfl ?_; clear hF a; intro a hF
      refine wl_nil ?_
      simp only [Exit.then, Exit.inBlock, ↓reduceIte]
      refine hK7 _ _ ?_
      refine wp_region_lit ?_
      refine wl hF rfl rfl rfl (r_add (hF.ev rfl) ec) ?_; clear hF a; intro a hF
      refine wl_mvs (A := [_]) hF rfl ?_; clear hF a; intro a hF
      refine wl_nil ?_
      try simp only [Exit.then, Exit.inBlock, ↓reduceIte]
      first | rw [nz_yes hx (Nat.zero_le _) c14] at hS | rw [nz_no hx (Nat.zero_le _) c14] at hS
      refine ⟨(k + 1, (_, _, _)), (by dsimp only; omega), (hS.pick [1] (by decide) rfl), (((((hF.nil.keep hF (t := 8) rfl).keep hF (t := 7) rfl).keep hF (t := 2) rfl).keepE hF (t := 3) rfl rfl).keepE hF (t := 9) rfl (wk (by omega))), by dsimp only; omega⟩
    refine wp_skip ?_
    simp only [Exit.then, Exit.inBlock, ↓reduceIte]
    refine hK7 _ _ ?_
    refine wp_region_lit ?_
    refine wl hF rfl rfl rfl (r_add (hF.ev rfl) ec) ?_; clear hF a; intro a hF
    refine wl_mvs (A := [_]) hF rfl ?_; clear hF a; intro a hF
    refine wl_nil ?_
    try simp only [Exit.then, Exit.inBlock, ↓reduceIte]
    first | rw [nz_yes hx (Nat.zero_le _) c14] at hS | rw [nz_no hx (Nat.zero_le _) c14] at hS
    refine ⟨(k + 1, (_, _, _)), (by dsimp only; omega), hS, (((((hF.nil.keep hF (t := 8) rfl).keep hF (t := 7) rfl).keep hF (t := 2) rfl).keepE hF (t := 3) rfl rfl).keepE hF (t := 9) rfl (wk (by omega))), by dsimp only; omega⟩
  refine wp_exit ?_
  simp only [Exit.then, Exit.inBlock, ↓reduceIte]
  refine hK3 _ _ ?_
  refine ws fun K10 hK10 => ?_
  refine wl_mvs (A := [_, _]) hF rfl ?_; clear hF a; intro a hF
  refine wl_nil (hK10 _ _ ?_)
  refine wp_ret ?_
  try simp only [Exit.then, Exit.inBlock, ↓reduceIte]
  obtain rfl : k = xs.length := by omega
  rw [List.take_length, List.drop_zero] at hS
  exact ret1 rfl hF rfl ⟨q, rfl, hS.pick [0] (by decide) rfl⟩

set_option maxHeartbeats 4000000 in
set_option maxRecDepth 20000 in
theorem specAnnounced_c {W : World} {s : Sl.State} {cs : List Value} (hm : stateEK.K W s cs) (hw : s.wf) (hz : (s.size : Int) ≤ 1048576) : Calls Try.prog 33 #[.agg cs.toArray] W (Ret (Mk W (fun z : Slv => sv z) (fun z => [Own intEK (sv z) (announced s)]))) := by
  refine calls_fr Try.func33 rfl Try.ntmps33 rfl ?_
  intro a hF
  have hS := Sep.refl W
  obtain ⟨v0, v1, v2, rfl, r0, r1, r2⟩ := hm
  have hm : stateEK.K W s (s.encv v0 v1 v2) := ⟨_, _, _, rfl, r0, r1, r2⟩
  obtain ⟨A_a, q_a, rfl, hq_a, hn_a⟩ := r0.sl; unfold maxLen at hn_a
  obtain ⟨A_b, q_b, rfl, hq_b, hn_b⟩ := r1.sl; unfold maxLen at hn_b
  obtain ⟨A_c, q_c, rfl, hq_c, hn_c⟩ := r2.sl; unfold maxLen at hn_c
  refine ws fun K1 hK1 => ?_
  refine wl_box (cs := [_, _, _, _, _, _, _, _, _, _, _, _, _]) hF hS rfl (hF.ev rfl) rfl ?_; clear hF a; intro g1 w1 a hS_ hB_ hF; replace hS := hS_; clear hS_ hB_
  refine wl_mvs (A := [_]) hF rfl ?_; clear hF a; intro a hF
  refine wl_nil (hK1 _ _ ?_)
  refine ws fun K2 hK2 => ?_
  refine wl_bslice intEK [] [] rfl hF hS rfl mk24 rfl trivial rfl rfl rfl rfl ?_; clear hF a; intro gl_6 w2 a hS_ hF; replace hS := hS_; clear hS_
  refine wl_mvs (A := [_]) hF rfl ?_; clear hF a; intro a hF
  refine wl_nil (hK2 _ _ ?_)
  refine wp_seq_k fun K3 hK3 => ?_
  refine ws fun K4 hK4 => ?_
  refine wl_mvs (A := [_]) hF rfl ?_; clear hF a; intro a hF
  refine wl_nil (hK4 _ _ ?_)
  refine wp_block ?_
  have h0_ : nz ((s.cells.take (2 + 0)).drop 2) = [] := by rw [List.drop_of_length_le (by simp; omega)]; rfl
  replace hS := hS.pull (p := 0) rfl; dsimp only [List.eraseIdx] at hS
  have hL_ := ((hF.nil.keep hF (t := 2) rfl).keep hF (t := 1) rfl)
  refine wp_loop_m (σ := Nat × Slv) (fun z L_ => (4, vi z.1) :: (3, sv z.2) :: L_) (fun z l_ => (Own intEK (sv z.2) (nz ((s.cells.take (2 + z.1)).drop 2))) :: l_) (fun z => (z.1 ≤ s.threads.length) ∧ (stateOk s = true ∨ z.1 = 0)) (fun z => s.threads.length - z.1) (0, (some ⟨gl_6, 0, none⟩, 0, 0)) ((by rw [h0_]; exact hS)) ((hL_.keepE hF (t := 3) rfl rfl).keepE hF (t := 4) rfl rfl) ?_ ?_
  · exact ⟨Nat.zero_le _, .inr rfl⟩
  clear hF hS hL_ a
  rintro ⟨k, q⟩ a w3 ⟨hk, hz2⟩ hS hF; try dsimp only at hF; try dsimp only at hS; try dsimp only at hk; try dsimp only at hz2
  refine wp_seq_k fun K5 hK5 => ?_
  refine ws fun K6 hK6 => ?_
  refine wl_mvs (A := [_]) hF rfl ?_; clear hF a; intro a hF
  refine wl hF rfl rfl rfl (r_field fo37_3 (hF.ev rfl)) ?_; clear hF a; intro a hF
  refine wl hF rfl rfl rfl (r_load1 sc35 (hF.ev rfl) (hS.box (i := 1) rfl rfl)) ?_; clear hF a; intro a hF
  refine wl hF rfl rfl rfl (r_len ul35 (hF.ev rfl)) ?_; clear hF a; intro a hF
  refine wl hF rfl rfl rfl (r_lss (hF.ev rfl) (hF.ev rfl)) ?_; clear hF a; intro a hF
  refine wl_mvs (A := [_]) hF rfl ?_; clear hF a; intro a hF
  apply wl_and (A := [_, _, _]) (pk := 15) hF hS (tc := 12) rfl
  ·
    intro hg12 a hF; try simp only [zb1, zb2, zb3, zb4, zb5, zb6, zb7, zb8] at hg12
    refine wl_take hF rfl rfl rfl rfl ?_
    refine wl hF rfl rfl rfl (r_loadn ag37 (hF.ev rfl) (hS.box_rd (i := 1) rfl) sz37) ?_; clear hF a; intro a hF
    refine wl_take hF rfl rfl rfl rfl ?_
    refine wl_call hF rfl rfl rfl (r_call1 en81 (hF.ev rfl)) (specIsState_c (hS.k hm) hw (by omega)) ?_; clear hF a; rintro v w4 a ⟨rfl, hB_⟩ hF; replace hS := hS.ext hB_; clear hB_
    refine wl hF rfl rfl rfl (r_pick_t (hF.ev rfl) (hF.ev rfl)) ?_; clear hF a; intro a hF
    exact wl_nil ⟨rfl, (Fr.pre (A := [_, _, _]) hF rfl).keep hF (t := 15) rfl, hS⟩
  ·
    intro hg12 a hF; try simp only [zb1, zb2, zb3, zb4, zb5, zb6, zb7, zb8] at hg12
    refine wl_mvs (A := [_, _]) hF rfl ?_; clear hF a; intro a hF
    refine wl hF rfl rfl rfl (r_pick_f (hF.ev rfl) ec) ?_; clear hF a; intro a hF
    exact wl_nil ⟨rfl, (Fr.pre (A := [_, _, _]) hF rfl).keep hF (t := 15) rfl, hS⟩
  clear hF a hS; intro a w5 hF hS
  refine wl_nil (hK6 _ _ ?_)
  refine wc_fx (t := 15) hF rfl ?_ ?_ <;> clear hF <;> intro c15 hF <;> try simp only [zb1, zb2, zb3, zb4, zb5, zb6, zb7, zb8] at c15
  ·
    obtain ⟨hlt, hst⟩ := c15
    obtain ⟨hok, hl1, hl2, hl3⟩ := stateOk_shape (hst)
    have hb := hok; unfold Config.ok at hb
    have hcc := cellCount_eq hok
    have hac := announceCell_eq hok (p := (k : Int)) (by omega) (by omega)
    have hx := cell_at (xs := s.cells) (k := 2 + k) (q := announceCell s.config (k : Int)) (by omega) (by omega)
    refine wp_skip ?_
    refine hK5 _ _ ?_
    refine wp_seq_k fun K7 hK7 => ?_
    refine wp_block ?_
    refine wp_seq_k fun K8 hK8 => ?_
    refine wp_region_calm (by kernel_rfl) (by kernel_rfl) ?_
    refine wq hF rfl rfl rfl (fun w_ hB_ => r_field fo37_1 (hF.ev rfl)) ?_; clear hF a; intro a hF
    refine wq hF rfl rfl rfl (fun w_ hB_ => r_load1 sc24 (hF.ev rfl) ((hS.ext hB_).box (i := 1) rfl rfl)) ?_; clear hF a; intro a hF
    refine wq hF rfl rfl rfl (fun w_ hB_ => r_field fo37_0 (hF.ev rfl)) ?_; clear hF a; intro a hF
    refine wq hF rfl rfl rfl (fun w_ hB_ => r_loadn ag34 (hF.ev rfl) ((hS.ext hB_).boxn (vs := [_, _, _, _, _, _]) (i := 1) (m := 6) rfl rfl) sz34) ?_; clear hF a; intro a hF
    refine wq_mvs (A := [_]) hF rfl ?_; clear hF a; intro a hF
    refine wq_call hF rfl rfl rfl (fun w_ hB_ => r_call2 en84 (hF.ev rfl) (hF.ev rfl)) (fun w_ hB_ => specAnnounceCell_c _ _) ?_; clear hF a; intro a hF
    obtain ⟨g24, o24, m24, q24, hv24, hm24, hl24, hc24⟩ := Rd.atF (r0) (a := a) (X := .tmp 23) (hF.ev rfl) (by omega) (by omega)
    refine wq hF rfl rfl rfl (fun w_ hB_ => r_index sl24 ((hF.ev rfl).trans hv24) (hF.ev rfl) (by omega) (by first | omega | (simp at hm24; omega))) ?_; clear hF a; intro a hF
    refine wq hF rfl rfl rfl (fun w_ hB_ => r_load1 sc3 (hF.ev rfl) (cellB (hS.ext hB_).old (hc24 0 _ rfl))) ?_; clear hF a; intro a hF
    refine wq_mvs (A := [_]) hF rfl ?_; clear hF a; intro a hF
    refine wpQuiet_nil ?_; intro w6 hB_; replace hS := hS.ext hB_; clear hB_
    refine hK8 _ _ ?_
    refine ws fun K9 hK9 => ?_
    refine wl_mvs (A := [_]) hF rfl ?_; clear hF a; intro a hF
    refine wl hF rfl rfl rfl (r_neq (hF.ev rfl) ec) ?_; clear hF a; intro a hF
    refine wl_nil (hK9 _ _ ?_)
    refine wc_fx (t := 27) hF rfl ?_ ?_ <;> clear hF <;> intro c27 hF <;> try simp only [zb1, zb2, zb3, zb4, zb5, zb6, zb7, zb8] at c27
    ·
      refine wp_region_lit ?_
      refine wl_mvs (A := [_, _]) hF rfl ?_; clear hF a; intro a hF
      refine wl_bslice intEK [vi (at0 s.cells (announceCell s.config (k : Int)))] [at0 s.cells (announceCell s.config (k : Int))] rfl hF hS rfl mk24 rfl ⟨rfl, (hF.ev rfl), trivial⟩ rfl rfl rfl rfl ?_; clear hF a; intro gl_30 w7 a hS_ hF; replace hS := hS_; clear hS_
      refine wl_append (q := 1) hF hS rfl rfl (hS.own_rd (i := 0) rfl) mk24 rfl (hF.ev rfl) (hF.ev rfl) (by have := nz_len (xs := s.cells) (i := 2) (k := 2 + k); simp only [List.length_cons, List.length_nil]; omega) (by have := nz_len (xs := s.cells) (i := 2) (k := 2 + k); unfold maxLen; simp only [List.length_cons, List.length_nil]; omega) ?_; clear hF a; intro A_31 c_31 w8 a hS_ hF; replace hS := hS_; clear hS_; dsimp only [List.set, List.length_cons, List.length_nil] at hS hF
      refine wl_mvs (A := [_]) hF rfl ?_; clear hF a; intro a hF
      refine wl_nil ?_
      simp only [Exit.then, Exit.inBlock, ↓reduceIte]
      refine hK7 _ _ ?_
      refine wp_region_lit ?_
      refine wl_mvs (A := [_]) hF rfl ?_; clear hF a; intro a hF
      refine wl hF rfl rfl rfl (r_add (hF.ev rfl) ec) ?_; clear hF a; intro a hF
      refine wl_mvs (A := [_]) hF rfl ?_; clear hF a; intro a hF
      refine wl_nil ?_
      try simp only [Exit.then, Exit.inBlock, ↓reduceIte]
      first | rw [nz_yes hx (by omega) c27, Nat.add_assoc] at hS | rw [nz_no hx (by omega) c27, Nat.add_assoc] at hS
      refine ⟨(k + 1, (_, _, _)), ⟨by dsimp only; omega, .inl hst⟩, (hS.pick [1, 2] (by decide) rfl), ((((hF.nil.keep hF (t := 2) rfl).keep hF (t := 1) rfl).keepE hF (t := 3) rfl rfl).keepE hF (t := 4) rfl (wk (by omega))), by dsimp only; omega⟩
    refine wp_skip ?_
    simp only [Exit.then, Exit.inBlock, ↓reduceIte]
    refine hK7 _ _ ?_
    refine wp_region_lit ?_
    refine wl_mvs (A := [_]) hF rfl ?_; clear hF a; intro a hF
    refine wl hF rfl rfl rfl (r_add (hF.ev rfl) ec) ?_; clear hF a; intro a hF
    refine wl_mvs (A := [_]) hF rfl ?_; clear hF a; intro a hF
    refine wl_nil ?_
    try simp only [Exit.then, Exit.inBlock, ↓reduceIte]
    first | rw [nz_yes hx (by omega) c27, Nat.add_assoc] at hS | rw [nz_no hx (by omega) c27, Nat.add_assoc] at hS
    refine ⟨(k + 1, (_, _, _)), ⟨by dsimp only; omega, .inl hst⟩, hS, ((((hF.nil.keep hF (t := 2) rfl).keep hF (t := 1) rfl).keepE hF (t := 3) rfl rfl).keepE hF (t := 4) rfl (wk (by omega))), by dsimp only; omega⟩
  refine wp_exit ?_
  simp only [Exit.then, Exit.inBlock, ↓reduceIte]
  refine hK3 _ _ ?_
  refine ws fun K10 hK10 => ?_
  refine wl_mvs (A := [_, _]) hF rfl ?_; clear hF a; intro a hF
  refine wl_nil (hK10 _ _ ?_)
  refine wp_ret ?_
  try simp only [Exit.then, Exit.inBlock, ↓reduceIte]
  have e := ann_done hk hz2 c15
  refine ret1 rfl hF rfl ⟨q, rfl, ?_⟩
  rw [e]; exact hS.pick [0] (by decide) rfl

set_option maxHeartbeats 4000000 in
set_option maxRecDepth 20000 in
theorem implAnnounced_c {W : World} {s : Sl.State} {cs : List Value} (hm : stateEK.K W s cs) (hw : s.wf) (hz : (s.size : Int) ≤ 1048576) : Calls Try.prog 34 #[.agg cs.toArray] W (Ret (Mk W (fun z : Slv => sv z) (fun z => [Own intEK (sv z) (announced s)]))) := by
  refine calls_fr Try.func34 rfl Try.ntmps34 rfl ?_
  intro a hF
  have hS := Sep.refl W
  obtain ⟨v0, v1, v2, rfl, r0, r1, r2⟩ := hm
  have hm : stateEK.K W s (s.encv v0 v1 v2) := ⟨_, _, _, rfl, r0, r1, r2⟩
  obtain ⟨A_a, q_a, rfl, hq_a, hn_a⟩ := r0.sl; unfold maxLen at hn_a
  obtain ⟨A_b, q_b, rfl, hq_b, hn_b⟩ := r1.sl; unfold maxLen at hn_b
  obtain ⟨A_c, q_c, rfl, hq_c, hn_c⟩ := r2.sl; unfold maxLen at hn_c
  refine ws fun K1 hK1 => ?_
  refine wl_box (cs := [_, _, _, _, _, _, _, _, _, _, _, _, _]) hF hS rfl (hF.ev rfl) rfl ?_; clear hF a; intro g1 w1 a hS_ hB_ hF; replace hS := hS_; clear hS_ hB_
  refine wl_mvs (A := [_]) hF rfl ?_; clear hF a; intro a hF
  refine wl_nil (hK1 _ _ ?_)
  refine wp_seq_k fun K2 hK2 => ?_
  refine ws fun K3 hK3 => ?_
  refine wl hF rfl rfl rfl (r_loadn ag37 (hF.ev rfl) (hS.box_rd (i := 0) rfl) sz37) ?_; clear hF a; intro a hF
  refine wl_call hF rfl rfl rfl (r_call1 en76 (hF.ev rfl)) (implIsState_c (hS.k hm) hw (by omega)) ?_; clear hF a; rintro v w2 a ⟨rfl, hB_⟩ hF; replace hS := hS.ext hB_; clear hB_
  refine wl hF rfl rfl rfl (r_not (hF.ev rfl)) ?_; clear hF a; intro a hF
  refine wl_nil (hK3 _ _ ?_)
  refine wc_fx (t := 5) hF rfl ?_ ?_ <;> clear hF <;> intro c5 hF <;> try simp only [zb1, zb2, zb3, zb4, zb5, zb6, zb7, zb8] at c5
  ·
    refine ws fun K4 hK4 => ?_
    refine wl_mvs (A := [_]) hF rfl ?_; clear hF a; intro a hF
    refine wl_nil (hK4 _ _ ?_)
    refine wp_ret ?_
    try simp only [Exit.then, Exit.inBlock, ↓reduceIte]
    first
      | (refine ret1 rfl hF rfl ⟨(none, 0, 0), rfl, ?_⟩; rw [show announced s = [] from if_neg (by rw [c5]; decide)]; exact (hS.own_nil intEK).pick [0] (by decide) rfl)
      | (refine ret1 rfl hF rfl ⟨s13, rfl, ?_⟩; rw [show announced s = _ from if_pos c5]; exact hS.pick [99] (by decide) rfl)
  obtain ⟨hok, hl1, hl2, hl3⟩ := stateOk_shape (c5)
  have hb := hok; unfold Config.ok at hb
  have hcc := cellCount_eq hok
  have hwt : IntKind.i64.wrap (2 + s.config.threads) = 2 + s.config.threads := w64_id (by omega) (by omega)
  refine wp_skip ?_
  refine hK2 _ _ ?_
  refine ws fun K5 hK5 => ?_
  refine wl hF rfl rfl rfl (r_field fo37_1 (hF.ev rfl)) ?_; clear hF a; intro a hF
  refine wl hF rfl rfl rfl (r_load1 sc24 (hF.ev rfl) (hS.box (i := 0) rfl rfl)) ?_; clear hF a; intro a hF
  refine wl hF rfl rfl rfl (r_field fo37_0 (hF.ev rfl)) ?_; clear hF a; intro a hF
  refine wl hF rfl rfl rfl (r_field fo34_0 (hF.ev rfl)) ?_; clear hF a; intro a hF
  refine wl hF rfl rfl rfl (r_load1 sc3 (hF.ev rfl) (hS.box (i := 0) rfl rfl)) ?_; clear hF a; intro a hF
  refine wl hF rfl rfl rfl (r_add ec (hF.ev rfl)) ?_; clear hF a; intro a hF
  refine wl hF rfl rfl rfl (r_cut (i := 2) (j := 2 + s.config.threads.toNat) sl24 (hF.ev rfl) (ec.trans (by first | rfl | (congr 1; omega))) ((hF.ev rfl).trans (by first | rfl | (congr 1; omega))) (by omega) (by omega)) ?_; clear hF a; intro a hF
  have hcut12 := Rd.cut (i := 2) (j := 2 + s.config.threads.toNat) r0 (by omega) (by omega)
  refine wl_mk hF hS rfl rfl rfl (r_call1 en85 (hF.ev rfl)) (nonzero_c (hS.rd hcut12) (by simp; omega)) ?_; clear hF a; rintro s13 w3 a hS_ hF; replace hS := hS_; clear hS_; dsimp only [List.cons_append, List.nil_append] at hS
  have hln13 := hS.own_len (q := 0) rfl
  refine wl_mvs (A := [_]) hF rfl ?_; clear hF a; intro a hF
  refine wl_nil (hK5 _ _ ?_)
  refine wp_ret ?_
  try simp only [Exit.then, Exit.inBlock, ↓reduceIte]
  first
    | (refine ret1 rfl hF rfl ⟨(none, 0, 0), rfl, ?_⟩; rw [show announced s = [] from if_neg (by rw [c5]; decide)]; exact (hS.own_nil intEK).pick [0] (by decide) rfl)
    | (refine ret1 rfl hF rfl ⟨s13, rfl, ?_⟩; rw [show announced s = _ from if_pos c5]; exact hS.pick [0] (by decide) rfl)

set_option maxHeartbeats 4000000 in
set_option maxRecDepth 20000 in
theorem specHazards_c {W : World} {s : Sl.State} {cs : List Value} (hm : stateEK.K W s cs) (hw : s.wf) (hz : (s.size : Int) ≤ 1048576) : Calls Try.prog 39 #[.agg cs.toArray] W (Ret (Mk W (fun z : Slv => sv z) (fun z => [Own intEK (sv z) (hazards s)]))) := by
  refine calls_fr Try.func39 rfl Try.ntmps39 rfl ?_
  intro a hF
  have hS := Sep.refl W
  obtain ⟨v0, v1, v2, rfl, r0, r1, r2⟩ := hm
  have hm : stateEK.K W s (s.encv v0 v1 v2) := ⟨_, _, _, rfl, r0, r1, r2⟩
  obtain ⟨A_a, q_a, rfl, hq_a, hn_a⟩ := r0.sl; unfold maxLen at hn_a
  obtain ⟨A_b, q_b, rfl, hq_b, hn_b⟩ := r1.sl; unfold maxLen at hn_b
  obtain ⟨A_c, q_c, rfl, hq_c, hn_c⟩ := r2.sl; unfold maxLen at hn_c
  have hz1 := hz; unfold Sl.State.size at hz1
  have hw2 : IntKind.i64.wrap (2 * (s.threads.length : Int)) = 2 * (s.threads.length : Int) := w64_id (by omega) (by omega)
  refine ws fun K1 hK1 => ?_
  refine wl_box (cs := [_, _, _, _, _, _, _, _, _, _, _, _, _]) hF hS rfl (hF.ev rfl) rfl ?_; clear hF a; intro g1 w1 a hS_ hB_ hF; replace hS := hS_; clear hS_ hB_
  refine wl_mvs (A := [_]) hF rfl ?_; clear hF a; intro a hF
  refine wl_nil (hK1 _ _ ?_)
  refine ws fun K2 hK2 => ?_
  refine wl_bslice intEK [] [] rfl hF hS rfl mk24 rfl trivial rfl rfl rfl rfl ?_; clear hF a; intro gl_6 w2 a hS_ hF; replace hS := hS_; clear hS_
  refine wl_mvs (A := [_]) hF rfl ?_; clear hF a; intro a hF
  refine wl_nil (hK2 _ _ ?_)
  refine wp_seq_k fun K3 hK3 => ?_
  refine ws fun K4 hK4 => ?_
  refine wl_mvs (A := [_]) hF rfl ?_; clear hF a; intro a hF
  refine wl_nil (hK4 _ _ ?_)
  refine wp_block ?_
  have h0_ : nz ((s.cells.take (2 + s.config.threads.toNat + 0)).drop (2 + s.config.threads.toNat)) = [] := by rw [List.drop_of_length_le (by simp; omega)]; rfl
  replace hS := hS.pull (p := 0) rfl; dsimp only [List.eraseIdx] at hS
  have hL_ := ((hF.nil.keep hF (t := 2) rfl).keep hF (t := 1) rfl)
  refine wp_loop_m (σ := Nat × Slv) (fun z L_ => (4, vi z.1) :: (3, sv z.2) :: L_) (fun z l_ => (Own intEK (sv z.2) (nz ((s.cells.take (2 + s.config.threads.toNat + z.1)).drop (2 + s.config.threads.toNat)))) :: l_) (fun z => (z.1 ≤ 2 * s.threads.length) ∧ (stateOk s = true ∨ z.1 = 0)) (fun z => 2 * s.threads.length - z.1) (0, (some ⟨gl_6, 0, none⟩, 0, 0)) ((by rw [h0_]; exact hS)) ((hL_.keepE hF (t := 3) rfl rfl).keepE hF (t := 4) rfl rfl) ?_ ?_
  · exact ⟨Nat.zero_le _, .inr rfl⟩
  clear hF hS hL_ a
  rintro ⟨k, q⟩ a w3 ⟨hk, hz2⟩ hS hF; try dsimp only at hF; try dsimp only at hS; try dsimp only at hk; try dsimp only at hz2
  refine wp_seq_k fun K5 hK5 => ?_
  refine ws fun K6 hK6 => ?_
  refine wl_mvs (A := [_]) hF rfl ?_; clear hF a; intro a hF
  refine wl hF rfl rfl rfl (r_field fo37_3 (hF.ev rfl)) ?_; clear hF a; intro a hF
  refine wl hF rfl rfl rfl (r_load1 sc35 (hF.ev rfl) (hS.box (i := 1) rfl rfl)) ?_; clear hF a; intro a hF
  refine wl hF rfl rfl rfl (r_len ul35 (hF.ev rfl)) ?_; clear hF a; intro a hF
  refine wl hF rfl rfl rfl (r_mul ec (hF.ev rfl)) ?_; clear hF a; intro a hF
  refine wl hF rfl rfl rfl (r_lss (hF.ev rfl) (hF.ev rfl)) ?_; clear hF a; intro a hF
  refine wl_mvs (A := [_]) hF rfl ?_; clear hF a; intro a hF
  apply wl_and (A := [_, _, _]) (pk := 16) hF hS (tc := 13) rfl
  ·
    intro hg13 a hF; try simp only [zb1, zb2, zb3, zb4, zb5, zb6, zb7, zb8] at hg13
    refine wl_take hF rfl rfl rfl rfl ?_
    refine wl hF rfl rfl rfl (r_loadn ag37 (hF.ev rfl) (hS.box_rd (i := 1) rfl) sz37) ?_; clear hF a; intro a hF
    refine wl_take hF rfl rfl rfl rfl ?_
    refine wl_call hF rfl rfl rfl (r_call1 en81 (hF.ev rfl)) (specIsState_c (hS.k hm) hw (by omega)) ?_; clear hF a; rintro v w4 a ⟨rfl, hB_⟩ hF; replace hS := hS.ext hB_; clear hB_
    refine wl hF rfl rfl rfl (r_pick_t (hF.ev rfl) (hF.ev rfl)) ?_; clear hF a; intro a hF
    exact wl_nil ⟨rfl, (Fr.pre (A := [_, _, _]) hF rfl).keep hF (t := 16) rfl, hS⟩
  ·
    intro hg13 a hF; try simp only [zb1, zb2, zb3, zb4, zb5, zb6, zb7, zb8] at hg13
    refine wl_mvs (A := [_, _]) hF rfl ?_; clear hF a; intro a hF
    refine wl hF rfl rfl rfl (r_pick_f (hF.ev rfl) ec) ?_; clear hF a; intro a hF
    exact wl_nil ⟨rfl, (Fr.pre (A := [_, _, _]) hF rfl).keep hF (t := 16) rfl, hS⟩
  clear hF a hS; intro a w5 hF hS
  refine wl_nil (hK6 _ _ ?_)
  refine wc_fx (t := 16) hF rfl ?_ ?_ <;> clear hF <;> intro c16 hF <;> try simp only [zb1, zb2, zb3, zb4, zb5, zb6, zb7, zb8] at c16
  ·
    rw [hw2] at c16
    obtain ⟨hlt, hst⟩ := c16
    obtain ⟨hok, hl1, hl2, hl3⟩ := stateOk_shape (hst)
    have hb := hok; unfold Config.ok at hb
    have hcc := cellCount_eq hok
    have e1 : IntKind.i64.wrap ((k : Int).tdiv 2) = (k : Int) / 2 := half_pos (by omega) (by unfold int64; omega)
    have e2 : (k : Int).tmod 2 = (k : Int) % 2 := rem_pos 2 (by omega)
    have hac : hazardCell s.config (IntKind.i64.wrap ((k : Int).tdiv 2)) ((k : Int).tmod 2) = 2 + s.config.threads + 2 * ((k : Int) / 2) + (k : Int) % 2 := by rw [e1, e2]; exact hazardCell_eq hok (by omega) (by omega) (by omega) (by omega)
    have hx := cell_at (xs := s.cells) (k := 2 + s.config.threads.toNat + k) (q := hazardCell s.config (IntKind.i64.wrap ((k : Int).tdiv 2)) ((k : Int).tmod 2)) (by omega) (by omega)
    refine wp_skip ?_
    refine hK5 _ _ ?_
    refine wp_seq_k fun K7 hK7 => ?_
    refine wp_block ?_
    refine wp_seq_k fun K8 hK8 => ?_
    refine wp_region_calm (by kernel_rfl) (by kernel_rfl) ?_
    refine wq hF rfl rfl rfl (fun w_ hB_ => r_field fo37_1 (hF.ev rfl)) ?_; clear hF a; intro a hF
    refine wq hF rfl rfl rfl (fun w_ hB_ => r_load1 sc24 (hF.ev rfl) ((hS.ext hB_).box (i := 1) rfl rfl)) ?_; clear hF a; intro a hF
    refine wq hF rfl rfl rfl (fun w_ hB_ => r_field fo37_0 (hF.ev rfl)) ?_; clear hF a; intro a hF
    refine wq hF rfl rfl rfl (fun w_ hB_ => r_loadn ag34 (hF.ev rfl) ((hS.ext hB_).boxn (vs := [_, _, _, _, _, _]) (i := 1) (m := 6) rfl rfl) sz34) ?_; clear hF a; intro a hF
    refine wq_mvs (A := [_]) hF rfl ?_; clear hF a; intro a hF
    refine wq hF rfl rfl rfl (fun w_ hB_ => r_quo (by first | decide | omega) (hF.ev rfl) ec) ?_; clear hF a; intro a hF
    refine wq_mvs (A := [_]) hF rfl ?_; clear hF a; intro a hF
    refine wq hF rfl rfl rfl (fun w_ hB_ => r_rem (by first | decide | omega) (hF.ev rfl) ec) ?_; clear hF a; intro a hF
    refine wq_call hF rfl rfl rfl (fun w_ hB_ => r_call3 en87 (hF.ev rfl) (hF.ev rfl) (hF.ev rfl)) (fun w_ hB_ => specHazardCell_c _ _ _) ?_; clear hF a; intro a hF
    obtain ⟨g28, o28, m28, q28, hv28, hm28, hl28, hc28⟩ := Rd.atF (r0) (a := a) (X := .tmp 27) (hF.ev rfl) (by omega) (by omega)
    refine wq hF rfl rfl rfl (fun w_ hB_ => r_index sl24 ((hF.ev rfl).trans hv28) (hF.ev rfl) (by omega) (by first | omega | (simp at hm28; omega))) ?_; clear hF a; intro a hF
    refine wq hF rfl rfl rfl (fun w_ hB_ => r_load1 sc3 (hF.ev rfl) (cellB (hS.ext hB_).old (hc28 0 _ rfl))) ?_; clear hF a; intro a hF
    refine wq_mvs (A := [_]) hF rfl ?_; clear hF a; intro a hF
    refine wpQuiet_nil ?_; intro w6 hB_; replace hS := hS.ext hB_; clear hB_
    refine hK8 _ _ ?_
    refine ws fun K9 hK9 => ?_
    refine wl_mvs (A := [_]) hF rfl ?_; clear hF a; intro a hF
    refine wl hF rfl rfl rfl (r_neq (hF.ev rfl) ec) ?_; clear hF a; intro a hF
    refine wl_nil (hK9 _ _ ?_)
    refine wc_fx (t := 31) hF rfl ?_ ?_ <;> clear hF <;> intro c31 hF <;> try simp only [zb1, zb2, zb3, zb4, zb5, zb6, zb7, zb8] at c31
    ·
      refine wp_region_lit ?_
      refine wl_mvs (A := [_, _]) hF rfl ?_; clear hF a; intro a hF
      refine wl_bslice intEK [vi (at0 s.cells (hazardCell s.config (IntKind.i64.wrap ((k : Int).tdiv 2)) ((k : Int).tmod 2)))] [at0 s.cells (hazardCell s.config (IntKind.i64.wrap ((k : Int).tdiv 2)) ((k : Int).tmod 2))] rfl hF hS rfl mk24 rfl ⟨rfl, (hF.ev rfl), trivial⟩ rfl rfl rfl rfl ?_; clear hF a; intro gl_34 w7 a hS_ hF; replace hS := hS_; clear hS_
      refine wl_append (q := 1) hF hS rfl rfl (hS.own_rd (i := 0) rfl) mk24 rfl (hF.ev rfl) (hF.ev rfl) (by have := nz_len (xs := s.cells) (i := 2 + s.config.threads.toNat) (k := 2 + s.config.threads.toNat + k); simp only [List.length_cons, List.length_nil]; omega) (by have := nz_len (xs := s.cells) (i := 2 + s.config.threads.toNat) (k := 2 + s.config.threads.toNat + k); unfold maxLen; simp only [List.length_cons, List.length_nil]; omega) ?_; clear hF a; intro A_35 c_35 w8 a hS_ hF; replace hS := hS_; clear hS_; dsimp only [List.set, List.length_cons, List.length_nil] at hS hF
      refine wl_mvs (A := [_]) hF rfl ?_; clear hF a; intro a hF
      refine wl_nil ?_
      simp only [Exit.then, Exit.inBlock, ↓reduceIte]
      refine hK7 _ _ ?_
      refine wp_region_lit ?_
      refine wl_mvs (A := [_]) hF rfl ?_; clear hF a; intro a hF
      refine wl hF rfl rfl rfl (r_add (hF.ev rfl) ec) ?_; clear hF a; intro a hF
      refine wl_mvs (A := [_]) hF rfl ?_; clear hF a; intro a hF
      refine wl_nil ?_
      try simp only [Exit.then, Exit.inBlock, ↓reduceIte]
      first | rw [nz_yes hx (by omega) c31, Nat.add_assoc (2 + s.config.threads.toNat) k 1] at hS | rw [nz_no hx (by omega) c31, Nat.add_assoc (2 + s.config.threads.toNat) k 1] at hS
      refine ⟨(k + 1, (_, _, _)), ⟨by dsimp only; omega, .inl hst⟩, (hS.pick [1, 2] (by decide) rfl), ((((hF.nil.keep hF (t := 2) rfl).keep hF (t := 1) rfl).keepE hF (t := 3) rfl rfl).keepE hF (t := 4) rfl (wk (by omega))), by dsimp only; omega⟩
    refine wp_skip ?_
    simp only [Exit.then, Exit.inBlock, ↓reduceIte]
    refine hK7 _ _ ?_
    refine wp_region_lit ?_
    refine wl_mvs (A := [_]) hF rfl ?_; clear hF a; intro a hF
    refine wl hF rfl rfl rfl (r_add (hF.ev rfl) ec) ?_; clear hF a; intro a hF
    refine wl_mvs (A := [_]) hF rfl ?_; clear hF a; intro a hF
    refine wl_nil ?_
    try simp only [Exit.then, Exit.inBlock, ↓reduceIte]
    first | rw [nz_yes hx (by omega) c31, Nat.add_assoc (2 + s.config.threads.toNat) k 1] at hS | rw [nz_no hx (by omega) c31, Nat.add_assoc (2 + s.config.threads.toNat) k 1] at hS
    refine ⟨(k + 1, (_, _, _)), ⟨by dsimp only; omega, .inl hst⟩, hS, ((((hF.nil.keep hF (t := 2) rfl).keep hF (t := 1) rfl).keepE hF (t := 3) rfl rfl).keepE hF (t := 4) rfl (wk (by omega))), by dsimp only; omega⟩
  rw [hw2] at c16
  refine wp_exit ?_
  simp only [Exit.then, Exit.inBlock, ↓reduceIte]
  refine hK3 _ _ ?_
  refine ws fun K10 hK10 => ?_
  refine wl_mvs (A := [_, _]) hF rfl ?_; clear hF a; intro a hF
  refine wl_nil (hK10 _ _ ?_)
  refine wp_ret ?_
  try simp only [Exit.then, Exit.inBlock, ↓reduceIte]
  have e := haz_done hk hz2 c16
  refine ret1 rfl hF rfl ⟨q, rfl, ?_⟩
  rw [e]; exact hS.pick [0] (by decide) rfl

set_option maxHeartbeats 4000000 in
set_option maxRecDepth 20000 in
theorem implHazards_c {W : World} {s : Sl.State} {cs : List Value} (hm : stateEK.K W s cs) (hw : s.wf) (hz : (s.size : Int) ≤ 1048576) : Calls Try.prog 40 #[.agg cs.toArray] W (Ret (Mk W (fun z : Slv => sv z) (fun z => [Own intEK (sv z) (hazards s)]))) := by
  refine calls_fr Try.func40 rfl Try.ntmps40 rfl ?_
  intro a hF
  have hS := Sep.refl W
  obtain ⟨v0, v1, v2, rfl, r0, r1, r2⟩ := hm
  have hm : stateEK.K W s (s.encv v0 v1 v2) := ⟨_, _, _, rfl, r0, r1, r2⟩
  obtain ⟨A_a, q_a, rfl, hq_a, hn_a⟩ := r0.sl; unfold maxLen at hn_a
  obtain ⟨A_b, q_b, rfl, hq_b, hn_b⟩ := r1.sl; unfold maxLen at hn_b
  obtain ⟨A_c, q_c, rfl, hq_c, hn_c⟩ := r2.sl; unfold maxLen at hn_c
  refine ws fun K1 hK1 => ?_
  refine wl_box (cs := [_, _, _, _, _, _, _, _, _, _, _, _, _]) hF hS rfl (hF.ev rfl) rfl ?_; clear hF a; intro g1 w1 a hS_ hB_ hF; replace hS := hS_; clear hS_ hB_
  refine wl_mvs (A := [_]) hF rfl ?_; clear hF a; intro a hF
  refine wl_nil (hK1 _ _ ?_)
  refine wp_seq_k fun K2 hK2 => ?_
  refine ws fun K3 hK3 => ?_
  refine wl hF rfl rfl rfl (r_loadn ag37 (hF.ev rfl) (hS.box_rd (i := 0) rfl) sz37) ?_; clear hF a; intro a hF
  refine wl_call hF rfl rfl rfl (r_call1 en76 (hF.ev rfl)) (implIsState_c (hS.k hm) hw (by omega)) ?_; clear hF a; rintro v w2 a ⟨rfl, hB_⟩ hF; replace hS := hS.ext hB_; clear hB_
  refine wl hF rfl rfl rfl (r_not (hF.ev rfl)) ?_; clear hF a; intro a hF
  refine wl_nil (hK3 _ _ ?_)
  refine wc_fx (t := 5) hF rfl ?_ ?_ <;> clear hF <;> intro c5 hF <;> try simp only [zb1, zb2, zb3, zb4, zb5, zb6, zb7, zb8] at c5
  ·
    refine ws fun K4 hK4 => ?_
    refine wl_mvs (A := [_]) hF rfl ?_; clear hF a; intro a hF
    refine wl_nil (hK4 _ _ ?_)
    refine wp_ret ?_
    try simp only [Exit.then, Exit.inBlock, ↓reduceIte]
    first
      | (refine ret1 rfl hF rfl ⟨(none, 0, 0), rfl, ?_⟩; rw [show hazards s = [] from if_neg (by rw [c5]; decide)]; exact (hS.own_nil intEK).pick [0] (by decide) rfl)
      | (refine ret1 rfl hF rfl ⟨s18, rfl, ?_⟩; rw [show hazards s = _ from if_pos c5]; exact hS.pick [99] (by decide) rfl)
  obtain ⟨hok, hl1, hl2, hl3⟩ := stateOk_shape (c5)
  have hb := hok; unfold Config.ok at hb
  have hcc := cellCount_eq hok
  have hwt : IntKind.i64.wrap (2 + s.config.threads) = 2 + s.config.threads := w64_id (by omega) (by omega)
  have hwt3 : IntKind.i64.wrap (3 * s.config.threads) = 3 * s.config.threads := w64_id (by omega) (by omega)
  have hwt5 : IntKind.i64.wrap (2 + IntKind.i64.wrap (3 * s.config.threads)) = 2 + 3 * s.config.threads := by rw [hwt3]; exact w64_id (by omega) (by omega)
  refine wp_skip ?_
  refine hK2 _ _ ?_
  refine ws fun K5 hK5 => ?_
  refine wl hF rfl rfl rfl (r_field fo37_1 (hF.ev rfl)) ?_; clear hF a; intro a hF
  refine wl hF rfl rfl rfl (r_load1 sc24 (hF.ev rfl) (hS.box (i := 0) rfl rfl)) ?_; clear hF a; intro a hF
  refine wl hF rfl rfl rfl (r_field fo37_0 (hF.ev rfl)) ?_; clear hF a; intro a hF
  refine wl hF rfl rfl rfl (r_field fo34_0 (hF.ev rfl)) ?_; clear hF a; intro a hF
  refine wl hF rfl rfl rfl (r_load1 sc3 (hF.ev rfl) (hS.box (i := 0) rfl rfl)) ?_; clear hF a; intro a hF
  refine wl hF rfl rfl rfl (r_add ec (hF.ev rfl)) ?_; clear hF a; intro a hF
  refine wl hF rfl rfl rfl (r_field fo37_0 (hF.ev rfl)) ?_; clear hF a; intro a hF
  refine wl hF rfl rfl rfl (r_field fo34_0 (hF.ev rfl)) ?_; clear hF a; intro a hF
  refine wl hF rfl rfl rfl (r_load1 sc3 (hF.ev rfl) (hS.box (i := 0) rfl rfl)) ?_; clear hF a; intro a hF
  refine wl hF rfl rfl rfl (r_mul ec (hF.ev rfl)) ?_; clear hF a; intro a hF
  refine wl hF rfl rfl rfl (r_add ec (hF.ev rfl)) ?_; clear hF a; intro a hF
  refine wl hF rfl rfl rfl (r_cut (i := 2 + s.config.threads.toNat) (j := 2 + 3 * s.config.threads.toNat) sl24 (hF.ev rfl) ((hF.ev rfl).trans (by first | rfl | (congr 1; omega))) ((hF.ev rfl).trans (by first | rfl | (congr 1; omega))) (by omega) (by omega)) ?_; clear hF a; intro a hF
  have hcut17 := Rd.cut (i := 2 + s.config.threads.toNat) (j := 2 + 3 * s.config.threads.toNat) r0 (by omega) (by omega)
  refine wl_mk hF hS rfl rfl rfl (r_call1 en85 (hF.ev rfl)) (nonzero_c (hS.rd hcut17) (by simp; omega)) ?_; clear hF a; rintro s18 w3 a hS_ hF; replace hS := hS_; clear hS_; dsimp only [List.cons_append, List.nil_append] at hS
  have hln18 := hS.own_len (q := 0) rfl
  refine wl_mvs (A := [_]) hF rfl ?_; clear hF a; intro a hF
  refine wl_nil (hK5 _ _ ?_)
  refine wp_ret ?_
  try simp only [Exit.then, Exit.inBlock, ↓reduceIte]
  first
    | (refine ret1 rfl hF rfl ⟨(none, 0, 0), rfl, ?_⟩; rw [show hazards s = [] from if_neg (by rw [c5]; decide)]; exact (hS.own_nil intEK).pick [0] (by decide) rfl)
    | (refine ret1 rfl hF rfl ⟨s18, rfl, ?_⟩; rw [show hazards s = _ from if_pos c5]; exact hS.pick [0] (by decide) rfl)

end Go.Proofs.Ytjloiphocdaahaa.Wk
