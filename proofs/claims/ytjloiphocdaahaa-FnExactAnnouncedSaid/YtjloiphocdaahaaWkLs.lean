/- Walks: lists of versions and their stamps. -/
import Derived.Test.YtjloiphocdaahaaChecked
import Derived.Test.YtjloiphocdaahaaWkR2
import Derived.Test.YtjloiphocdaahaaFactsB
namespace Go.Proofs.Ytjloiphocdaahaa.Wk
open Go Go.RowKit Sl
set_option linter.unusedVariables false
set_option linter.unusedSimpArgs false
set_option maxRecDepth 20000

def chain (s : State) : Nat → Int → List Int
  | 0, _ => []
  | n + 1, h => if isCurrent s h = true then h :: chain s n (unmarked (loadField s h 2).1) else []
def listOf (s : State) (k : Int) : List Int := chain s s.config.capacity.toNat (headOf s k)
def stampOf (s : State) (h : Int) : Int := (loadField s h 0).1
def stampsOf (s : State) (k : Int) : List Int := (listOf s k).map (stampOf s)
def visP (s : State) (st h : Int) : Bool := decide (0 < stampOf s h) && decide (stampOf s h ≤ st)
def visibleAt (s : State) (k st : Int) : Int × Bool := match (listOf s k).find? (visP s st) with
  | some h => ((loadField s h 1).1, true)
  | none => (0, false)
theorem at0_int64 {xs : List Int} {i : Int} (hx : ∀ x ∈ xs, int64 x) : int64 (at0 xs i) := by
  unfold at0
  cases e : xs[i.toNat]? with
  | none => show int64 0; unfold int64; omega
  | some x => exact hx x (List.mem_of_getElem? e)
section
variable {s : State} {h k f : Int} {n : Nat}
theorem loadField_int64 (hw : s.wf) : int64 (loadField s h f).1 := by
  unfold loadField
  split
  · exact at0_int64 hw.2.1
  · show int64 0; unfold int64; omega
theorem headOf_int64 (hw : s.wf) : int64 (headOf s k) := by
  unfold headOf
  split
  · exact at0_int64 hw.2.1
  · show int64 0; unfold int64; omega
theorem loadField_eq (hc : isCurrent s h = true) (h0 : 0 ≤ f) (h1 : f ≤ 2) : loadField s h f = (at0 s.cells (nodeCell s.config (indexOf h) f), true) := if_pos ⟨hc, h0, h1⟩
theorem chain_go (hn : 0 < n) (hc : isCurrent s h = true) : chain s n h = h :: chain s (n - 1) (unmarked (loadField s h 2).1) := by
  cases n with
  | zero => omega
  | succ n => simp only [chain, if_pos hc, Nat.add_sub_cancel]
theorem chain_end (hn : n = 0 ∨ isCurrent s h = false) : chain s n h = [] := by
  cases n with
  | zero => rfl
  | succ n =>
    rcases hn with hn | hn
    · omega
    · simp [chain, hn]
theorem chain_mem (hw : s.wf) {x : Int} : ∀ {n : Nat} {h : Int}, int64 h → x ∈ chain s n h → isCurrent s x = true ∧ int64 x
  | 0, _, _, hx => by simp [chain] at hx
  | n + 1, h, h1, hx => by
    simp only [chain] at hx
    split at hx
    · rename_i hc
      rcases List.mem_cons.1 hx with e | hx
      · subst e; exact ⟨hc, h1⟩
      · exact chain_mem hw (int64_unmarked (loadField_int64 hw)) hx
    · simp at hx
theorem chain_len : ∀ {n : Nat} {h : Int}, (chain s n h).length ≤ n
  | 0, _ => Nat.le_refl _
  | n + 1, h => by
    simp only [chain]
    split
    · have := chain_len (n := n) (h := unmarked (loadField s h 2).1); simp only [List.length_cons]; omega
    · simp
theorem isCurrent_state (hc : isCurrent s h = true) : stateOk s = true := by
  unfold isCurrent at hc; simp only [Bool.and_eq_true] at hc; exact hc.1.1
theorem isCurrent_node (hc : isCurrent s h = true) : 0 ≤ indexOf h ∧ indexOf h < s.config.capacity := by
  unfold isCurrent at hc; simp only [Bool.and_eq_true, decide_eq_true_eq] at hc; exact ⟨indexOf_pos hc.1.2.1, hc.1.2.2⟩
theorem isCurrent_of (hs : stateOk s = true) : (isNode s.config h && decide (at0 s.generations (indexOf h) = genOf h)) = isCurrent s h := by
  unfold isCurrent isNode; rw [hs, Bool.true_and]
theorem isCurrent_0 : isCurrent s 0 = false := by
  unfold isCurrent
  rw [show isHandle 0 = false from by decide]; simp
theorem listOf_len : (listOf s k).length ≤ 24 := by
  unfold listOf
  by_cases hs : stateOk s = true
  · have := chain_len (s := s) (n := s.config.capacity.toNat) (h := headOf s k)
    have hok := (stateOk_shape hs).1
    unfold Config.ok at hok
    omega
  · have : chain s s.config.capacity.toNat (headOf s k) = [] := chain_end (.inr (by cases hc : isCurrent s (headOf s k) with | false => rfl | true => exact absurd (isCurrent_state hc) hs))
    rw [this]; simp
theorem listOf_mem (hw : s.wf) {x : Int} (hx : x ∈ listOf s k) : isCurrent s x = true ∧ int64 x := chain_mem hw (headOf_int64 hw) hx
theorem listOf_bad (hs : stateOk s = false) : listOf s k = [] := chain_end (.inr (by
  cases hc : isCurrent s (headOf s k) with
  | false => rfl
  | true => rw [isCurrent_state hc] at hs; cases hs))
theorem listOf_no (h : headCell s.config k < 0) (hs : stateOk s = true) : listOf s k = [] := by
  have hok := (stateOk_shape hs).1
  have e : headOf s k = 0 := by
    unfold headOf
    refine if_neg fun hp => ?_
    have := headCell_eq hok (k := k) (by omega) (by omega)
    unfold Config.ok at hok
    omega
  unfold listOf
  rw [e]
  exact chain_end (.inr isCurrent_0)
theorem head_unmarked (hs : stateOk s = true) (h0 : 0 ≤ k) (h1 : k ≤ s.config.keys - 1) : unmarked (at0 s.cells (headCell s.config k)) = headOf s k := by
  have hd := hs
  unfold stateOk at hd
  simp only [Bool.and_eq_true] at hd
  have hl := List.all_eq_true.1 hd.1.1.2 k.toNat (by simp; omega)
  rw [show ((k.toNat : Nat) : Int) = k by omega, isLink_zero] at hl
  simp only [Bool.and_eq_true, Bool.not_eq_true'] at hl
  unfold headOf
  rw [if_pos ⟨hs, h0, h1⟩]
  unfold unmarked
  rw [hl.2]; rfl
theorem stamp_pos (hc : isCurrent s h = true) : 0 ≤ stampOf s h := by
  have hs := isCurrent_state hc
  obtain ⟨h0, h1⟩ := isCurrent_node hc
  have hd := hs
  unfold stateOk at hd
  simp only [Bool.and_eq_true] at hd
  have hl := List.all_eq_true.1 hd.1.2 (indexOf h).toNat (by simp; omega)
  rw [show (((indexOf h).toNat : Nat) : Int) = indexOf h by omega] at hl
  simp only [Bool.and_eq_true, decide_eq_true_eq] at hl
  unfold stampOf
  rw [loadField_eq hc (by omega) (by omega)]
  exact hl.2.1
end
theorem map_next {α β : Type} [Inhabited α] {xs : List α} {f : α → β} {k : Nat} (h : (k : Int) < xs.length) : (xs.take k).map f ++ [f (at0 xs (k : Int))] = (xs.take (k + 1)).map f := by
  rw [take_at0 h, List.map_append]; rfl
theorem find_next {α : Type} {p : α → Bool} {xs : List α} {x : α} {k : Nat} (h : (xs.take k).find? p = none) (hx : xs[k]? = some x) (hp : p x = false) : (xs.take (k + 1)).find? p = none := by
  rw [List.take_add_one, hx, List.find?_append, h]; simp [hp]
theorem find_hit {α : Type} {p : α → Bool} {xs : List α} {x : α} {k : Nat} (h : (xs.take k).find? p = none) (hx : xs[k]? = some x) (hp : p x = true) : xs.find? p = some x := by
  have h2 : (xs.take (k + 1)).find? p = some x := by rw [List.take_add_one, hx, List.find?_append, h]; simp [hp]
  rw [← List.take_append_drop (k + 1) xs, List.find?_append, h2]; rfl
theorem find_done {α : Type} {p : α → Bool} {xs : List α} {k : Nat} (h : (xs.take k).find? p = none) (hk : xs.length ≤ k) : xs.find? p = none := by
  rwa [List.take_of_length_le hk] at h
/-- the stamps of a list, held against each other -/
def badAt (l : List Int) (i : Nat) : Bool := decide (at0 l (i : Int) = 0) || (decide (0 < at0 l ((i : Int) - 1)) && decide (at0 l ((i : Int) - 1) < at0 l (i : Int)))
def ordOk (l : List Int) : Bool := (List.range l.length).all fun i => decide (i = 0) || !badAt l i
def isOrdered (s : State) (k : Int) : Bool := (stateOk s && decide (0 ≤ k ∧ k ≤ s.config.keys - 1)) && ordOk (stampsOf s k)
theorem stampsOf_len {s : State} {k : Int} : (stampsOf s k).length = (listOf s k).length := by simp [stampsOf]
theorem stamps_at {s : State} {k : Int} {i : Nat} (h : i < (listOf s k).length) : at0 (stampsOf s k) (i : Int) = stampOf s (at0 (listOf s k) (i : Int)) := by
  have := at0_nat h
  refine at0_of ?_
  unfold stampsOf
  rw [List.getElem?_map, this]; rfl
theorem ord_init {l : List Int} : ((List.range l.length).take 1).all (fun i => decide (i = 0) || !badAt l i) = true := by
  cases hn : l.length with
  | zero => rfl
  | succ n => rw [show (List.range (n + 1)).take 1 = [0] from by rw [List.take_range]; simp [List.range_succ]]; rfl
theorem stampsOf_key {s : State} {k : Int} (h : 0 < (stampsOf s k).length) (hw : s.wf) : stateOk s = true ∧ (0 ≤ k ∧ k ≤ s.config.keys - 1) := by
  rw [stampsOf_len] at h
  have hm := (listOf_mem hw (List.getElem_mem h)).1
  have hs := isCurrent_state hm
  refine ⟨hs, ?_⟩
  by_cases hk : 0 ≤ k ∧ k ≤ s.config.keys - 1
  · exact hk
  · exfalso
    have e : headOf s k = 0 := by unfold headOf; exact if_neg fun hp => hk hp.2
    have : listOf s k = [] := by unfold listOf; rw [e]; exact chain_end (.inr isCurrent_0)
    rw [this] at h; simp at h

set_option maxHeartbeats 4000000 in
set_option maxRecDepth 20000 in
theorem specListOf_c {W : World} {s : Sl.State} {cs : List Value} (hm : stateEK.K W s cs) (hw : s.wf) (hz : (s.size : Int) ≤ 1048576) {p : Int} (hp : int64 p) : Calls Try.prog 41 #[.agg cs.toArray, vi p] W (Ret (Mk W (fun z : Slv => sv z) (fun z => [Own intEK (sv z) (listOf s p)]))) := by
  refine calls_fr Try.func41 rfl Try.ntmps41 rfl ?_
  intro a hF
  have hS := Sep.refl W
  obtain ⟨v0, v1, v2, rfl, r0, r1, r2⟩ := hm
  have hm : stateEK.K W s (s.encv v0 v1 v2) := ⟨_, _, _, rfl, r0, r1, r2⟩
  obtain ⟨A_a, q_a, rfl, hq_a, hn_a⟩ := r0.sl; unfold maxLen at hn_a
  obtain ⟨A_b, q_b, rfl, hq_b, hn_b⟩ := r1.sl; unfold maxLen at hn_b
  obtain ⟨A_c, q_c, rfl, hq_c, hn_c⟩ := r2.sl; unfold maxLen at hn_c
  refine ws fun K1 hK1 => ?_
  refine wl_box (cs := [_, _, _, _, _, _, _, _, _, _, _, _, _]) hF hS rfl (hF.ev rfl) rfl ?_; clear hF a; intro g1 w1 a hS_ hB_ hF; replace hS := hS_; clear hS_ hB_
  refine wl_mvs (A := [_]) hF rfl ?_; clear hF a; intro a hF
  refine wl_nil (hK1 _ _ ?_)
  refine ws fun K2 hK2 => ?_
  refine wl_bslice intEK [] [] rfl hF hS rfl mk24 rfl trivial rfl rfl rfl rfl ?_; clear hF a; intro gl_10 w2 a hS_ hF; replace hS := hS_; clear hS_
  refine wl_mvs (A := [_]) hF rfl ?_; clear hF a; intro a hF
  refine wl_nil (hK2 _ _ ?_)
  refine ws fun K3 hK3 => ?_
  refine wl hF rfl rfl rfl (r_loadn ag37 (hF.ev rfl) (hS.box_rd (i := 1) rfl) sz37) ?_; clear hF a; intro a hF
  refine wl_mvs (A := [_]) hF rfl ?_; clear hF a; intro a hF
  refine wl_call hF rfl rfl rfl (r_call2 en88 (hF.ev rfl) (hF.ev rfl)) (specHeadOf_c (hS.k hm) hw (by omega) hp) ?_; clear hF a; rintro v w3 a ⟨rfl, hB_⟩ hF; replace hS := hS.ext hB_; clear hB_
  refine wl_mvs (A := [_]) hF rfl ?_; clear hF a; intro a hF
  refine wl_nil (hK3 _ _ ?_)
  refine wp_seq_k fun K4 hK4 => ?_
  refine ws fun K5 hK5 => ?_
  refine wl_mvs (A := [_]) hF rfl ?_; clear hF a; intro a hF
  refine wl_nil (hK5 _ _ ?_)
  refine wp_block ?_
  replace hS := hS.pull (p := 0) rfl; dsimp only [List.eraseIdx] at hS
  have hL_ := ((hF.nil.keep hF (t := 4) rfl).keep hF (t := 2) rfl)
  refine wp_loop_m (σ := Nat × Int × List Int × Slv) (fun z L_ => (7, vi z.1) :: (6, vi z.2.1) :: (5, sv z.2.2.2) :: L_) (fun z l_ => (Own intEK (sv z.2.2.2) z.2.2.1) :: l_) (fun z => (z.2.2.1.length = z.1) ∧ ((z.1 : Int) ≤ s.config.capacity ∨ z.1 = 0) ∧ (int64 z.2.1) ∧ (z.2.2.1 ++ chain s (s.config.capacity.toNat - z.1) z.2.1 = listOf s p)) (fun z => s.config.capacity.toNat - z.1) (0, headOf s p, [], (some ⟨gl_10, 0, none⟩, 0, 0)) (hS) (((hL_.keepE hF (t := 5) rfl rfl).keepE hF (t := 6) rfl rfl).keepE hF (t := 7) rfl rfl) ?_ ?_
  · exact ⟨rfl, .inr rfl, headOf_int64 hw, rfl⟩
  clear hF hS hL_ a
  rintro ⟨k, h, xs, q⟩ a w4 ⟨hk, hk2, hh, hcx⟩ hS hF; try dsimp only at hF; try dsimp only at hS; try dsimp only at hk; try dsimp only at hk2; try dsimp only at hh; try dsimp only at hcx
  refine wp_seq_k fun K6 hK6 => ?_
  refine ws fun K7 hK7 => ?_
  refine wl_mvs (A := [_]) hF rfl ?_; clear hF a; intro a hF
  refine wl hF rfl rfl rfl (r_field fo37_0 (hF.ev rfl)) ?_; clear hF a; intro a hF
  refine wl hF rfl rfl rfl (r_field fo34_2 (hF.ev rfl)) ?_; clear hF a; intro a hF
  refine wl hF rfl rfl rfl (r_load1 sc3 (hF.ev rfl) (hS.box (i := 1) rfl rfl)) ?_; clear hF a; intro a hF
  refine wl hF rfl rfl rfl (r_lss (hF.ev rfl) (hF.ev rfl)) ?_; clear hF a; intro a hF
  refine wl_mvs (A := [_]) hF rfl ?_; clear hF a; intro a hF
  apply wl_and (A := [_, _, _, _]) (pk := 23) hF hS (tc := 19) rfl
  ·
    intro hg19 a hF; try simp only [zb1, zb2, zb3, zb4, zb5, zb6, zb7, zb8] at hg19
    refine wl_take hF rfl rfl rfl rfl ?_
    refine wl hF rfl rfl rfl (r_loadn ag37 (hF.ev rfl) (hS.box_rd (i := 1) rfl) sz37) ?_; clear hF a; intro a hF
    refine wl_mvs (A := [_]) hF rfl ?_; clear hF a; intro a hF
    refine wl_take hF rfl rfl rfl rfl ?_
    refine wl_call hF rfl rfl rfl (r_call2 en89 (hF.ev rfl) (hF.ev rfl)) (specIsCurrent_c (hS.k hm) hw (by omega) hh) ?_; clear hF a; rintro v w5 a ⟨rfl, hB_⟩ hF; replace hS := hS.ext hB_; clear hB_
    refine wl hF rfl rfl rfl (r_pick_t (hF.ev rfl) (hF.ev rfl)) ?_; clear hF a; intro a hF
    exact wl_nil ⟨rfl, (Fr.pre (A := [_, _, _, _]) hF rfl).keep hF (t := 23) rfl, hS⟩
  ·
    intro hg19 a hF; try simp only [zb1, zb2, zb3, zb4, zb5, zb6, zb7, zb8] at hg19
    refine wl_mvs (A := [_, _, _]) hF rfl ?_; clear hF a; intro a hF
    refine wl hF rfl rfl rfl (r_pick_f (hF.ev rfl) ec) ?_; clear hF a; intro a hF
    exact wl_nil ⟨rfl, (Fr.pre (A := [_, _, _, _]) hF rfl).keep hF (t := 23) rfl, hS⟩
  clear hF a hS; intro a w6 hF hS
  refine wl_nil (hK7 _ _ ?_)
  refine wc_fx (t := 23) hF rfl ?_ ?_ <;> clear hF <;> intro c23 hF <;> try simp only [zb1, zb2, zb3, zb4, zb5, zb6, zb7, zb8] at c23
  ·
    obtain ⟨hlt, hcu⟩ := c23
    have hst := isCurrent_state hcu
    obtain ⟨hok, hl1, hl2, hl3⟩ := stateOk_shape (hst)
    have hb := hok; unfold Config.ok at hb
    have hcc := cellCount_eq hok
    refine wp_skip ?_
    refine hK6 _ _ ?_
    refine wp_seq_k fun K8 hK8 => ?_
    refine wp_block ?_
    refine ws fun K9 hK9 => ?_
    refine wl_mvs (A := [_, _]) hF rfl ?_; clear hF a; intro a hF
    refine wl_bslice intEK [vi h] [h] rfl hF hS rfl mk24 rfl ⟨rfl, (hF.ev rfl), trivial⟩ rfl rfl rfl rfl ?_; clear hF a; intro gl_28 w7 a hS_ hF; replace hS := hS_; clear hS_
    refine wl_append (q := 1) hF hS rfl rfl (hS.own_rd (i := 0) rfl) mk24 rfl (hF.ev rfl) (hF.ev rfl) (by simp; omega) (by first | (simp; omega) | (unfold maxLen; simp; omega)) ?_; clear hF a; intro A_29 c_29 w8 a hS_ hF; replace hS := hS_; clear hS_; dsimp only [List.set, List.length_cons, List.length_nil] at hS hF
    refine wl_mvs (A := [_]) hF rfl ?_; clear hF a; intro a hF
    refine wl_nil (hK9 _ _ ?_)
    refine ws fun K10 hK10 => ?_
    refine wl hF rfl rfl rfl (r_loadn ag37 (hF.ev rfl) (hS.box_rd (i := 2) rfl) sz37) ?_; clear hF a; intro a hF
    refine wl_mvs (A := [_]) hF rfl ?_; clear hF a; intro a hF
    refine wl_call hF rfl rfl rfl (r_call3 en74 (hF.ev rfl) (hF.ev rfl) ec) (specLoadField_c (hS.k hm) hw (by omega) hh (by unfold int64; omega)) ?_; clear hF a; rintro v w9 a ⟨rfl, hB_⟩ hF; replace hS := hS.ext hB_; clear hB_
    refine wl_mvs (A := [_]) hF rfl ?_; clear hF a; intro a hF
    refine wl hF rfl rfl rfl (r_extract (hF.ev rfl) rfl) ?_; clear hF a; intro a hF
    refine wl hF rfl rfl rfl (r_extract (hF.ev rfl) rfl) ?_; clear hF a; intro a hF
    refine wl_mvs (A := [_, _]) hF rfl ?_; clear hF a; intro a hF
    refine wl_nil (hK10 _ _ ?_)
    refine wp_region_lit ?_
    refine wl_mvs (A := [_]) hF rfl ?_; clear hF a; intro a hF
    refine wl_call hF rfl rfl rfl (r_call1 en90 (hF.ev rfl)) (specUnmarked_c (loadField_int64 hw)) ?_; clear hF a; rintro v w10 a ⟨rfl, hB_⟩ hF; replace hS := hS.ext hB_; clear hB_
    refine wl_mvs (A := [_]) hF rfl ?_; clear hF a; intro a hF
    refine wl_nil ?_
    simp only [Exit.then, Exit.inBlock, ↓reduceIte]
    refine hK8 _ _ ?_
    refine wp_region_lit ?_
    refine wl_mvs (A := [_]) hF rfl ?_; clear hF a; intro a hF
    refine wl hF rfl rfl rfl (r_add (hF.ev rfl) ec) ?_; clear hF a; intro a hF
    refine wl_mvs (A := [_]) hF rfl ?_; clear hF a; intro a hF
    refine wl_nil ?_
    try simp only [Exit.then, Exit.inBlock, ↓reduceIte]
    refine ⟨(k + 1, unmarked (loadField s h 2).1, xs ++ [h], (A_29, _, c_29)), ⟨by simp only [List.length_append, List.length_cons, List.length_nil]; omega, .inl (by dsimp only; omega), int64_unmarked (loadField_int64 hw), (by dsimp only; rw [← hcx, chain_go (h := h) (by omega) hcu, List.append_assoc, List.singleton_append]; rfl)⟩, (hS.pick [1, 2] (by decide) rfl), (((((hF.nil.keep hF (t := 4) rfl).keep hF (t := 2) rfl).keepE hF (t := 5) rfl rfl).keepE hF (t := 6) rfl rfl).keepE hF (t := 7) rfl (wk (by omega))), by dsimp only; omega⟩
  refine wp_exit ?_
  simp only [Exit.then, Exit.inBlock, ↓reduceIte]
  refine hK4 _ _ ?_
  refine ws fun K11 hK11 => ?_
  refine wl_mvs (A := [_, _]) hF rfl ?_; clear hF a; intro a hF
  refine wl_nil (hK11 _ _ ?_)
  refine wp_ret ?_
  try simp only [Exit.then, Exit.inBlock, ↓reduceIte]
  have e : xs = listOf s p := by
    rw [← hcx, chain_end (by rcases c23 with c | c
                             · exact .inl (by omega)
                             · exact .inr c), List.append_nil]
  subst e
  exact ret1 rfl hF rfl ⟨q, rfl, hS.pick [0] (by decide) rfl⟩

theorem currentC_c {W : World} {s : Sl.State} {cs : List Value} (hm : stateEK.K W s cs) {g : Nat} (hc : ∀ j u, cs[j]? = some u → W.cell? ⟨g, 0 + j, none⟩ = some u) (hs : stateOk s = true) {p : Int} (hp : int64 p) : Calls Try.prog 137 #[.pointer (some ⟨g, 0, none⟩), vi p] W (Ret fun v w' => v = .bool (isCurrent s p) ∧ Below W.heap.size W w') := by
  have := current_c hm hc hs hp
  rwa [isCurrent_of hs] at this

set_option maxHeartbeats 4000000 in
set_option maxRecDepth 20000 in
theorem listOf_c {W : World} {s : Sl.State} {cs : List Value} (hm : stateEK.K W s cs) {g : Nat} (hc : ∀ j u, cs[j]? = some u → W.cell? ⟨g, 0 + j, none⟩ = some u) (hw : s.wf) (hs : stateOk s = true) {p : Int} (hp : int64 p) : Calls Try.prog 91 #[.pointer (some ⟨g, 0, none⟩), vi p] W (Ret (Mk W (fun z : Slv => sv z) (fun z => [Own intEK (sv z) (listOf s p)]))) := by
  refine calls_fr Try.func91 rfl Try.ntmps91 rfl ?_
  intro a hF
  have hS := Sep.refl W
  obtain ⟨v0, v1, v2, rfl, r0, r1, r2⟩ := hm
  have hm : stateEK.K W s (s.encv v0 v1 v2) := ⟨_, _, _, rfl, r0, r1, r2⟩
  obtain ⟨A_a, q_a, rfl, hq_a, hn_a⟩ := r0.sl; unfold maxLen at hn_a
  obtain ⟨A_b, q_b, rfl, hq_b, hn_b⟩ := r1.sl; unfold maxLen at hn_b
  obtain ⟨A_c, q_c, rfl, hq_c, hn_c⟩ := r2.sl; unfold maxLen at hn_c
  obtain ⟨hok, hl1, hl2, hl3⟩ := stateOk_shape (hs)
  have hb := hok; unfold Config.ok at hb
  have hcc := cellCount_eq hok
  refine ws fun K1 hK1 => ?_
  refine wl_mvs (A := [_]) hF rfl ?_; clear hF a; intro a hF
  refine wl_nil (hK1 _ _ ?_)
  refine ws fun K2 hK2 => ?_
  refine wl_bslice intEK [] [] rfl hF hS rfl mk24 rfl trivial rfl rfl rfl rfl ?_; clear hF a; intro gl_8 w1 a hS_ hF; replace hS := hS_; clear hS_
  refine wl_mvs (A := [_]) hF rfl ?_; clear hF a; intro a hF
  refine wl_nil (hK2 _ _ ?_)
  refine ws fun K3 hK3 => ?_
  refine wl_mvs (A := [_]) hF rfl ?_; clear hF a; intro a hF
  refine wl hF rfl rfl rfl (r_nilCheck (hF.ev rfl)) ?_; clear hF a; intro a hF
  refine wl hF rfl rfl rfl (r_field fo37_0 (hF.ev rfl)) ?_; clear hF a; intro a hF
  refine wl hF rfl rfl rfl (r_loadn ag34 (hF.ev rfl) (fun j_ u_ hu_ => cellB hS.old ((subcells (vs := [_, _, _, _, _, _]) hc 0 6 rfl) j_ u_ hu_)) sz34) ?_; clear hF a; intro a hF
  refine wl_mvs (A := [_]) hF rfl ?_; clear hF a; intro a hF
  refine wl_call hF rfl rfl rfl (r_call2 en121 (hF.ev rfl) (hF.ev rfl)) (implHeadCell_c _ _) ?_; clear hF a; rintro v w2 a ⟨rfl, hB_⟩ hF; replace hS := hS.ext hB_; clear hB_
  refine wl_mvs (A := [_]) hF rfl ?_; clear hF a; intro a hF
  refine wl_nil (hK3 _ _ ?_)
  refine wp_seq_k fun K4 hK4 => ?_
  refine ws fun K5 hK5 => ?_
  refine wl_mvs (A := [_]) hF rfl ?_; clear hF a; intro a hF
  refine wl hF rfl rfl rfl (r_lss (hF.ev rfl) ec) ?_; clear hF a; intro a hF
  refine wl_nil (hK5 _ _ ?_)
  refine wc_fx (t := 16) hF rfl ?_ ?_ <;> clear hF <;> intro c16 hF <;> try simp only [zb1, zb2, zb3, zb4, zb5, zb6, zb7, zb8] at c16
  ·
    refine ws fun K6 hK6 => ?_
    refine wl_mvs (A := [_, _]) hF rfl ?_; clear hF a; intro a hF
    refine wl_nil (hK6 _ _ ?_)
    refine wp_ret ?_
    try simp only [Exit.then, Exit.inBlock, ↓reduceIte]
    first
      | (have e := listOf_no c16 hs
         refine ret1 rfl hF rfl ⟨(_, _, _), rfl, ?_⟩
         rw [e]; exact hS.pick [0] (by decide) rfl)
      | (have e : xs = listOf s p := by
           rw [← hcx, chain_end (by rcases c38 with c | c
                                    · exact .inr c
                                    · exact .inl (by omega)), List.append_nil]
         subst e
         exact ret1 rfl hF rfl ⟨q, rfl, hS.pick [0] (by decide) rfl⟩)
  have hp2 := headCell_pos c16
  have hd := headCell_eq hok (k := p) (by omega) (by omega)
  refine wp_skip ?_
  refine hK4 _ _ ?_
  refine wp_seq_k fun K7 hK7 => ?_
  refine ws fun K8 hK8 => ?_
  refine wl_mvs (A := [_]) hF rfl ?_; clear hF a; intro a hF
  refine wl hF rfl rfl rfl (r_nilCheck (hF.ev rfl)) ?_; clear hF a; intro a hF
  refine wl hF rfl rfl rfl (r_field fo37_1 (hF.ev rfl)) ?_; clear hF a; intro a hF
  refine wl hF rfl rfl rfl (r_load1 sc24 (hF.ev rfl) (cellB hS.old (hc 6 _ rfl))) ?_; clear hF a; intro a hF
  refine wl_mvs (A := [_]) hF rfl ?_; clear hF a; intro a hF
  obtain ⟨g23, o23, m23, q23, hv23, hm23, hl23, hc23⟩ := Rd.atF (r0) (a := a) (X := .tmp 22) (hF.ev rfl) (by omega) (by omega)
  refine wl hF rfl rfl rfl (r_index sl24 ((hF.ev rfl).trans hv23) (hF.ev rfl) (by omega) (by first | omega | (simp at hm23; omega))) ?_; clear hF a; intro a hF
  refine wl hF rfl rfl rfl (r_load1 sc3 (hF.ev rfl) (cellB hS.old (hc23 0 _ rfl))) ?_; clear hF a; intro a hF
  refine wl_call hF rfl rfl rfl (r_call1 en123 (hF.ev rfl)) (implUnmarked_c (at0_int64 hw.2.1)) ?_; clear hF a; rintro v w3 a ⟨rfl, hB_⟩ hF; replace hS := hS.ext hB_; clear hB_
  refine wl_mvs (A := [_]) hF rfl ?_; clear hF a; intro a hF
  refine wl_nil (hK8 _ _ ?_)
  refine wp_block ?_
  replace hS := hS.pull (p := 0) rfl; dsimp only [List.eraseIdx] at hS
  have hL_ := ((hF.nil.keep hF (t := 4) rfl).keep hF (t := 0) rfl)
  refine wp_loop_m (σ := Nat × Int × List Int × Slv) (fun z L_ => (7, vi z.2.1) :: (5, sv z.2.2.2) :: L_) (fun z l_ => (Own intEK (sv z.2.2.2) z.2.2.1) :: l_) (fun z => (z.2.2.1.length = z.1) ∧ ((z.1 : Int) ≤ s.config.capacity) ∧ (int64 z.2.1) ∧ (z.2.2.1 ++ chain s (s.config.capacity.toNat - z.1) z.2.1 = listOf s p)) (fun z => s.config.capacity.toNat - z.1) (0, headOf s p, [], (some ⟨gl_8, 0, none⟩, 0, 0)) (hS) ((hL_.keepE hF (t := 5) rfl rfl).keepE hF (t := 7) rfl (congrArg vi (head_unmarked hs (by omega) (by omega)))) ?_ ?_
  · exact ⟨rfl, by dsimp only; omega, headOf_int64 hw, rfl⟩
  clear hF hS hL_ a
  rintro ⟨k, h, xs, q⟩ a w4 ⟨hk, hk2, hh, hcx⟩ hS hF; try dsimp only at hF; try dsimp only at hS; try dsimp only at hk; try dsimp only at hk2; try dsimp only at hh; try dsimp only at hcx
  have hln5 := hS.own_len (q := 0) rfl
  refine wp_seq_k fun K9 hK9 => ?_
  refine ws fun K10 hK10 => ?_
  refine wl_mvs (A := [_, _]) hF rfl ?_; clear hF a; intro a hF
  refine wl_call hF rfl rfl rfl (r_call2 en137 (hF.ev rfl) (hF.ev rfl)) (currentC_c (hS.k hm) (fun j u hu => cellB hS.old (hc j u hu)) hs hh) ?_; clear hF a; rintro v w5 a ⟨rfl, hB_⟩ hF; replace hS := hS.ext hB_; clear hB_
  refine wl_mvs (A := [_]) hF rfl ?_; clear hF a; intro a hF
  apply wl_and (A := [_, _, _, _, _, _, _, _, _]) (pk := 38) hF hS (tc := 29) rfl
  ·
    intro hg29 a hF; try simp only [zb1, zb2, zb3, zb4, zb5, zb6, zb7, zb8] at hg29
    refine wl_mvs (A := [_]) hF rfl ?_; clear hF a; intro a hF
    refine wl_take hF rfl rfl rfl rfl ?_
    refine wl hF rfl rfl rfl (r_len ul24 (hF.ev rfl)) ?_; clear hF a; intro a hF
    refine wl_mvs (A := [_]) hF rfl ?_; clear hF a; intro a hF
    refine wl_take hF rfl rfl rfl rfl ?_
    refine wl hF rfl rfl rfl (r_nilCheck (hF.ev rfl)) ?_; clear hF a; intro a hF
    refine wl_take hF rfl rfl rfl rfl ?_
    refine wl hF rfl rfl rfl (r_field fo37_0 (hF.ev rfl)) ?_; clear hF a; intro a hF
    refine wl_take hF rfl rfl rfl rfl ?_
    refine wl hF rfl rfl rfl (r_field fo34_2 (hF.ev rfl)) ?_; clear hF a; intro a hF
    refine wl_take hF rfl rfl rfl rfl ?_
    refine wl hF rfl rfl rfl (r_load1 sc3 (hF.ev rfl) (cellB hS.old (hc 2 _ rfl))) ?_; clear hF a; intro a hF
    refine wl_take hF rfl rfl rfl rfl ?_
    refine wl hF rfl rfl rfl (r_lss (hF.ev rfl) (hF.ev rfl)) ?_; clear hF a; intro a hF
    refine wl hF rfl rfl rfl (r_pick_t (hF.ev rfl) (hF.ev rfl)) ?_; clear hF a; intro a hF
    exact wl_nil ⟨rfl, (Fr.pre (A := [_, _, _, _, _, _, _, _, _]) hF rfl).keep hF (t := 38) rfl, hS⟩
  ·
    intro hg29 a hF; try simp only [zb1, zb2, zb3, zb4, zb5, zb6, zb7, zb8] at hg29
    refine wl_mvs (A := [_, _, _, _, _, _, _, _]) hF rfl ?_; clear hF a; intro a hF
    refine wl hF rfl rfl rfl (r_pick_f (hF.ev rfl) ec) ?_; clear hF a; intro a hF
    exact wl_nil ⟨rfl, (Fr.pre (A := [_, _, _, _, _, _, _, _, _]) hF rfl).keep hF (t := 38) rfl, hS⟩
  clear hF a hS; intro a w6 hF hS
  refine wl_nil (hK10 _ _ ?_)
  refine wc_fx (t := 38) hF rfl ?_ ?_ <;> clear hF <;> intro c38 hF <;> try simp only [zb1, zb2, zb3, zb4, zb5, zb6, zb7, zb8] at c38
  ·
    obtain ⟨hcu, hlt⟩ := c38
    have hi01 := isCurrent_node hcu
    have hnc := nodeCell_eq hok (i := indexOf h) (f := 2) (by omega) (by omega) (by omega) (by omega)
    refine wp_skip ?_
    refine hK9 _ _ ?_
    refine wp_block ?_
    refine ws fun K11 hK11 => ?_
    refine wl_mvs (A := [_, _]) hF rfl ?_; clear hF a; intro a hF
    refine wl_bslice intEK [vi h] [h] rfl hF hS rfl mk24 rfl ⟨rfl, (hF.ev rfl), trivial⟩ rfl rfl rfl rfl ?_; clear hF a; intro gl_41 w7 a hS_ hF; replace hS := hS_; clear hS_
    refine wl_append (q := 1) hF hS rfl rfl (hS.own_rd (i := 0) rfl) mk24 rfl (hF.ev rfl) (hF.ev rfl) (by simp; omega) (by first | (simp; omega) | (unfold maxLen; simp; omega)) ?_; clear hF a; intro A_42 c_42 w8 a hS_ hF; replace hS := hS_; clear hS_; dsimp only [List.set, List.length_cons, List.length_nil] at hS hF
    refine wl_mvs (A := [_]) hF rfl ?_; clear hF a; intro a hF
    refine wl_nil (hK11 _ _ ?_)
    refine wp_region_calm (by kernel_rfl) (by kernel_rfl) ?_
    refine wq_mvs (A := [_]) hF rfl ?_; clear hF a; intro a hF
    refine wq hF rfl rfl rfl (fun w_ hB_ => r_nilCheck (hF.ev rfl)) ?_; clear hF a; intro a hF
    refine wq hF rfl rfl rfl (fun w_ hB_ => r_field fo37_1 (hF.ev rfl)) ?_; clear hF a; intro a hF
    refine wq hF rfl rfl rfl (fun w_ hB_ => r_load1 sc24 (hF.ev rfl) (cellB (hS.ext hB_).old (hc 6 _ rfl))) ?_; clear hF a; intro a hF
    refine wq_mvs (A := [_]) hF rfl ?_; clear hF a; intro a hF
    refine wq hF rfl rfl rfl (fun w_ hB_ => r_nilCheck (hF.ev rfl)) ?_; clear hF a; intro a hF
    refine wq hF rfl rfl rfl (fun w_ hB_ => r_field fo37_0 (hF.ev rfl)) ?_; clear hF a; intro a hF
    refine wq hF rfl rfl rfl (fun w_ hB_ => r_loadn ag34 (hF.ev rfl) (fun j_ u_ hu_ => cellB (hS.ext hB_).old ((subcells (vs := [_, _, _, _, _, _]) hc 0 6 rfl) j_ u_ hu_)) sz34) ?_; clear hF a; intro a hF
    refine wq_mvs (A := [_]) hF rfl ?_; clear hF a; intro a hF
    refine wq_call hF rfl rfl rfl (fun w_ hB_ => r_call1 en127 (hF.ev rfl)) (fun w_ hB_ => implIndexOf_c hh) ?_; clear hF a; intro a hF
    refine wq_call hF rfl rfl rfl (fun w_ hB_ => r_call3 en122 (hF.ev rfl) (hF.ev rfl) ec) (fun w_ hB_ => implNodeCell_c _ _ _) ?_; clear hF a; intro a hF
    obtain ⟨g54, o54, m54, q54, hv54, hm54, hl54, hc54⟩ := Rd.atF (r0) (a := a) (X := .tmp 53) (hF.ev rfl) (by omega) (by omega)
    refine wq hF rfl rfl rfl (fun w_ hB_ => r_index sl24 ((hF.ev rfl).trans hv54) (hF.ev rfl) (by omega) (by first | omega | (simp at hm54; omega))) ?_; clear hF a; intro a hF
    refine wq hF rfl rfl rfl (fun w_ hB_ => r_load1 sc3 (hF.ev rfl) (cellB (hS.ext hB_).old (hc54 0 _ rfl))) ?_; clear hF a; intro a hF
    refine wq_call hF rfl rfl rfl (fun w_ hB_ => r_call1 en123 (hF.ev rfl)) (fun w_ hB_ => implUnmarked_c (at0_int64 hw.2.1)) ?_; clear hF a; intro a hF
    refine wq_mvs (A := [_]) hF rfl ?_; clear hF a; intro a hF
    refine wpQuiet_nil ?_; intro w9 hB_; replace hS := hS.ext hB_; clear hB_
    try simp only [Exit.then, Exit.inBlock, ↓reduceIte]
    refine ⟨(k + 1, unmarked (loadField s h 2).1, xs ++ [h], (A_42, _, c_42)), ⟨by simp only [List.length_append, List.length_cons, List.length_nil]; omega, by dsimp only; omega, int64_unmarked (loadField_int64 hw), (by dsimp only; rw [← hcx, chain_go (h := h) (by omega) hcu, List.append_assoc, List.singleton_append]; rfl)⟩, (hS.pick [1] (by decide) rfl), ((((hF.nil.keep hF (t := 4) rfl).keep hF (t := 0) rfl).keepE hF (t := 5) rfl rfl).keepE hF (t := 7) rfl (by rw [loadField_eq hcu (by omega) (by omega)])), by dsimp only; omega⟩
  refine wp_exit ?_
  simp only [Exit.then, Exit.inBlock, ↓reduceIte]
  refine hK7 _ _ ?_
  refine ws fun K12 hK12 => ?_
  refine wl_mvs (A := [_, _]) hF rfl ?_; clear hF a; intro a hF
  refine wl_nil (hK12 _ _ ?_)
  refine wp_ret ?_
  try simp only [Exit.then, Exit.inBlock, ↓reduceIte]
  first
    | (have e := listOf_no c16 hs
       refine ret1 rfl hF rfl ⟨(_, _, _), rfl, ?_⟩
       rw [e]; exact hS.pick [0] (by decide) rfl)
    | (have e : xs = listOf s p := by
         rw [← hcx, chain_end (by rcases c38 with c | c
                                  · exact .inr c
                                  · exact .inl (by omega)), List.append_nil]
       subst e
       exact ret1 rfl hF rfl ⟨q, rfl, hS.pick [0] (by decide) rfl⟩)

set_option maxHeartbeats 4000000 in
set_option maxRecDepth 20000 in
theorem implListOf_c {W : World} {s : Sl.State} {cs : List Value} (hm : stateEK.K W s cs) (hw : s.wf) (hz : (s.size : Int) ≤ 1048576) {p : Int} (hp : int64 p) : Calls Try.prog 42 #[.agg cs.toArray, vi p] W (Ret (Mk W (fun z : Slv => sv z) (fun z => [Own intEK (sv z) (listOf s p)]))) := by
  refine calls_fr Try.func42 rfl Try.ntmps42 rfl ?_
  intro a hF
  have hS := Sep.refl W
  obtain ⟨v0, v1, v2, rfl, r0, r1, r2⟩ := hm
  have hm : stateEK.K W s (s.encv v0 v1 v2) := ⟨_, _, _, rfl, r0, r1, r2⟩
  obtain ⟨A_a, q_a, rfl, hq_a, hn_a⟩ := r0.sl; unfold maxLen at hn_a
  obtain ⟨A_b, q_b, rfl, hq_b, hn_b⟩ := r1.sl; unfold maxLen at hn_b
  obtain ⟨A_c, q_c, rfl, hq_c, hn_c⟩ := r2.sl; unfold maxLen at hn_c
  refine ws fun K1 hK1 => ?_
  refine wl_box (cs := [_, _, _, _, _, _, _, _, _, _, _, _, _]) hF hS rfl (hF.ev rfl) rfl ?_; clear hF a; intro g1 w1 a hS_ hB_ hF; replace hS := hS_; clear hS_ hB_
  refine wl_mvs (A := [_]) hF rfl ?_; clear hF a; intro a hF
  refine wl_nil (hK1 _ _ ?_)
  refine wp_seq_k fun K2 hK2 => ?_
  refine ws fun K3 hK3 => ?_
  refine wl hF rfl rfl rfl (r_loadn ag37 (hF.ev rfl) (hS.box_rd (i := 0) rfl) sz37) ?_; clear hF a; intro a hF
  refine wl_call hF rfl rfl rfl (r_call1 en76 (hF.ev rfl)) (implIsState_c (hS.k hm) hw (by omega)) ?_; clear hF a; rintro v w2 a ⟨rfl, hB_⟩ hF; replace hS := hS.ext hB_; clear hB_
  refine wl hF rfl rfl rfl (r_not (hF.ev rfl)) ?_; clear hF a; intro a hF
  refine wl_nil (hK3 _ _ ?_)
  refine wc_fx (t := 7) hF rfl ?_ ?_ <;> clear hF <;> intro c7 hF <;> try simp only [zb1, zb2, zb3, zb4, zb5, zb6, zb7, zb8] at c7
  ·
    refine ws fun K4 hK4 => ?_
    refine wl_mvs (A := [_]) hF rfl ?_; clear hF a; intro a hF
    refine wl_nil (hK4 _ _ ?_)
    refine wp_ret ?_
    try simp only [Exit.then, Exit.inBlock, ↓reduceIte]
    first
      | (refine ret1 rfl hF rfl ⟨(none, 0, 0), rfl, ?_⟩; rw [listOf_bad c7]; exact (hS.own_nil intEK).pick [0] (by decide) rfl)
      | exact ret1 rfl hF rfl ⟨s9, rfl, hS.pick [99] (by decide) rfl⟩
  refine wp_skip ?_
  refine hK2 _ _ ?_
  refine ws fun K5 hK5 => ?_
  refine wl_mvs (A := [_]) hF rfl ?_; clear hF a; intro a hF
  refine wl_mk hF hS rfl rfl rfl (r_call2 en91 (hF.ev rfl) (hF.ev rfl)) (listOf_c (hS.k hm) (fun j u hu => hS.box_rd (i := 0) rfl j u hu) hw c7 hp) ?_; clear hF a; rintro s9 w3 a hS_ hF; replace hS := hS_; clear hS_; dsimp only [List.cons_append, List.nil_append] at hS
  have hln9 := hS.own_len (q := 0) rfl
  refine wl_mvs (A := [_]) hF rfl ?_; clear hF a; intro a hF
  refine wl_nil (hK5 _ _ ?_)
  refine wp_ret ?_
  try simp only [Exit.then, Exit.inBlock, ↓reduceIte]
  first
    | (refine ret1 rfl hF rfl ⟨(none, 0, 0), rfl, ?_⟩; rw [listOf_bad c7]; exact (hS.own_nil intEK).pick [0] (by decide) rfl)
    | exact ret1 rfl hF rfl ⟨s9, rfl, hS.pick [0] (by decide) rfl⟩

set_option maxHeartbeats 4000000 in
set_option maxRecDepth 20000 in
theorem cell_c {W : World} {s : Sl.State} {cs : List Value} (hm : stateEK.K W s cs) {g : Nat} (hc : ∀ j u, cs[j]? = some u → W.cell? ⟨g, 0 + j, none⟩ = some u) (hw : s.wf) {p f : Int} (hp : int64 p) (hcu : isCurrent s p = true) (hf0 : 0 ≤ f) (hf1 : f ≤ 2) : Calls Try.prog 78 #[.pointer (some ⟨g, 0, none⟩), vi p, vi f] W (Ret fun v w' => v = vi (loadField s p f).1 ∧ Below W.heap.size W w') := by
  refine calls_fr Try.func78 rfl Try.ntmps78 rfl ?_
  intro a hF
  have hS := Sep.refl W
  obtain ⟨v0, v1, v2, rfl, r0, r1, r2⟩ := hm
  have hm : stateEK.K W s (s.encv v0 v1 v2) := ⟨_, _, _, rfl, r0, r1, r2⟩
  obtain ⟨A_a, q_a, rfl, hq_a, hn_a⟩ := r0.sl; unfold maxLen at hn_a
  obtain ⟨A_b, q_b, rfl, hq_b, hn_b⟩ := r1.sl; unfold maxLen at hn_b
  obtain ⟨A_c, q_c, rfl, hq_c, hn_c⟩ := r2.sl; unfold maxLen at hn_c
  obtain ⟨hok, hl1, hl2, hl3⟩ := stateOk_shape ((isCurrent_state hcu))
  have hb := hok; unfold Config.ok at hb
  have hcc := cellCount_eq hok
  have hi01 := isCurrent_node hcu
  have hnc := nodeCell_eq hok (i := indexOf p) (f := f) (by omega) (by omega) (by omega) (by omega)
  refine ws fun K1 hK1 => ?_
  refine wl_mvs (A := [_]) hF rfl ?_; clear hF a; intro a hF
  refine wl_nil (hK1 _ _ ?_)
  refine wp_seq_k fun K2 hK2 => ?_
  refine wp_region_calm (by kernel_rfl) (by kernel_rfl) ?_
  refine wq_mvs (A := [_]) hF rfl ?_; clear hF a; intro a hF
  refine wq hF rfl rfl rfl (fun w_ hB_ => r_nilCheck (hF.ev rfl)) ?_; clear hF a; intro a hF
  refine wq hF rfl rfl rfl (fun w_ hB_ => r_field fo37_1 (hF.ev rfl)) ?_; clear hF a; intro a hF
  refine wq hF rfl rfl rfl (fun w_ hB_ => r_load1 sc24 (hF.ev rfl) (cellB (hS.ext hB_).old (hc 6 _ rfl))) ?_; clear hF a; intro a hF
  refine wq_mvs (A := [_]) hF rfl ?_; clear hF a; intro a hF
  refine wq hF rfl rfl rfl (fun w_ hB_ => r_nilCheck (hF.ev rfl)) ?_; clear hF a; intro a hF
  refine wq hF rfl rfl rfl (fun w_ hB_ => r_field fo37_0 (hF.ev rfl)) ?_; clear hF a; intro a hF
  refine wq hF rfl rfl rfl (fun w_ hB_ => r_loadn ag34 (hF.ev rfl) (fun j_ u_ hu_ => cellB (hS.ext hB_).old ((subcells (vs := [_, _, _, _, _, _]) hc 0 6 rfl) j_ u_ hu_)) sz34) ?_; clear hF a; intro a hF
  refine wq_mvs (A := [_]) hF rfl ?_; clear hF a; intro a hF
  refine wq_call hF rfl rfl rfl (fun w_ hB_ => r_call1 en127 (hF.ev rfl)) (fun w_ hB_ => implIndexOf_c hp) ?_; clear hF a; intro a hF
  refine wq_mvs (A := [_]) hF rfl ?_; clear hF a; intro a hF
  refine wq_call hF rfl rfl rfl (fun w_ hB_ => r_call3 en122 (hF.ev rfl) (hF.ev rfl) (hF.ev rfl)) (fun w_ hB_ => implNodeCell_c _ _ _) ?_; clear hF a; intro a hF
  obtain ⟨g19, o19, m19, q19, hv19, hm19, hl19, hc19⟩ := Rd.atF (r0) (a := a) (X := .tmp 18) (hF.ev rfl) (by omega) (by omega)
  refine wq hF rfl rfl rfl (fun w_ hB_ => r_index sl24 ((hF.ev rfl).trans hv19) (hF.ev rfl) (by omega) (by first | omega | (simp at hm19; omega))) ?_; clear hF a; intro a hF
  refine wq hF rfl rfl rfl (fun w_ hB_ => r_load1 sc3 (hF.ev rfl) (cellB (hS.ext hB_).old (hc19 0 _ rfl))) ?_; clear hF a; intro a hF
  refine wq_mvs (A := [_]) hF rfl ?_; clear hF a; intro a hF
  refine wpQuiet_nil ?_; intro w1 hB_; replace hS := hS.ext hB_; clear hB_
  refine hK2 _ _ ?_
  refine wp_ret ?_
  try simp only [Exit.then, Exit.inBlock, ↓reduceIte]
  refine ret1 rfl hF rfl ⟨congrArg vi ?_, hS.old⟩
  rw [loadField_eq hcu hf0 hf1]

set_option maxHeartbeats 4000000 in
set_option maxRecDepth 20000 in
theorem specStampsOf_c {W : World} {s : Sl.State} {cs : List Value} (hm : stateEK.K W s cs) (hw : s.wf) (hz : (s.size : Int) ≤ 1048576) {p : Int} (hp : int64 p) : Calls Try.prog 43 #[.agg cs.toArray, vi p] W (Ret (Mk W (fun z : Slv => sv z) (fun z => [Own intEK (sv z) (stampsOf s p)]))) := by
  refine calls_fr Try.func43 rfl Try.ntmps43 rfl ?_
  intro a hF
  have hS := Sep.refl W
  obtain ⟨v0, v1, v2, rfl, r0, r1, r2⟩ := hm
  have hm : stateEK.K W s (s.encv v0 v1 v2) := ⟨_, _, _, rfl, r0, r1, r2⟩
  obtain ⟨A_a, q_a, rfl, hq_a, hn_a⟩ := r0.sl; unfold maxLen at hn_a
  obtain ⟨A_b, q_b, rfl, hq_b, hn_b⟩ := r1.sl; unfold maxLen at hn_b
  obtain ⟨A_c, q_c, rfl, hq_c, hn_c⟩ := r2.sl; unfold maxLen at hn_c
  have hll := listOf_len (s := s) (k := p)
  refine ws fun K1 hK1 => ?_
  refine wl_box (cs := [_, _, _, _, _, _, _, _, _, _, _, _, _]) hF hS rfl (hF.ev rfl) rfl ?_; clear hF a; intro g1 w1 a hS_ hB_ hF; replace hS := hS_; clear hS_ hB_
  refine wl_mvs (A := [_]) hF rfl ?_; clear hF a; intro a hF
  refine wl_nil (hK1 _ _ ?_)
  refine ws fun K2 hK2 => ?_
  refine wl_bslice intEK [] [] rfl hF hS rfl mk24 rfl trivial rfl rfl rfl rfl ?_; clear hF a; intro gl_10 w2 a hS_ hF; replace hS := hS_; clear hS_
  refine wl_mvs (A := [_]) hF rfl ?_; clear hF a; intro a hF
  refine wl_nil (hK2 _ _ ?_)
  refine ws fun K3 hK3 => ?_
  refine wl hF rfl rfl rfl (r_loadn ag37 (hF.ev rfl) (hS.box_rd (i := 1) rfl) sz37) ?_; clear hF a; intro a hF
  refine wl_mvs (A := [_]) hF rfl ?_; clear hF a; intro a hF
  refine wl_mk hF hS rfl rfl rfl (r_call2 en41 (hF.ev rfl) (hF.ev rfl)) (specListOf_c (hS.k hm) hw (by omega) hp) ?_; clear hF a; rintro s13 w3 a hS_ hF; replace hS := hS_; clear hS_; dsimp only [List.cons_append, List.nil_append] at hS
  have hln13 := hS.own_len (q := 0) rfl
  refine wl_mvs (A := [_]) hF rfl ?_; clear hF a; intro a hF
  refine wl_nil (hK3 _ _ ?_)
  refine wp_seq_k fun K4 hK4 => ?_
  refine ws fun K5 hK5 => ?_
  refine wl_mvs (A := [_]) hF rfl ?_; clear hF a; intro a hF
  refine wl_nil (hK5 _ _ ?_)
  refine wp_block ?_
  replace hS := hS.pull (p := 1) rfl; dsimp only [List.eraseIdx] at hS
  have hL_ := (((hF.nil.keep hF (t := 6) rfl).keep hF (t := 4) rfl).keep hF (t := 2) rfl)
  refine wp_loop_m (σ := Nat × Slv) (fun z L_ => (7, vi z.1) :: (5, sv z.2) :: L_) (fun z l_ => (Own intEK (sv z.2) (((listOf s p).take z.1).map (stampOf s))) :: l_) (fun z => (z.1 ≤ (listOf s p).length)) (fun z => (listOf s p).length - z.1) (0, (some ⟨gl_10, 0, none⟩, 0, 0)) (hS) ((hL_.keepE hF (t := 5) rfl rfl).keepE hF (t := 7) rfl rfl) ?_ ?_
  · exact Nat.zero_le _
  clear hF hS hL_ a
  rintro ⟨k, q⟩ a w4 hk hS hF; try dsimp only at hF; try dsimp only at hS; try dsimp only at hk
  refine wp_seq_k fun K6 hK6 => ?_
  refine ws fun K7 hK7 => ?_
  refine wl_mvs (A := [_, _]) hF rfl ?_; clear hF a; intro a hF
  refine wl hF rfl rfl rfl (r_len ul24 (hF.ev rfl)) ?_; clear hF a; intro a hF
  refine wl hF rfl rfl rfl (r_lss (hF.ev rfl) (hF.ev rfl)) ?_; clear hF a; intro a hF
  refine wl_nil (hK7 _ _ ?_)
  refine wc_fx (t := 17) hF rfl ?_ ?_ <;> clear hF <;> intro c17 hF <;> try simp only [zb1, zb2, zb3, zb4, zb5, zb6, zb7, zb8] at c17
  ·
    have hmem := listOf_mem hw (at0_mem (xs := listOf s p) (i := (k : Int)) (by omega) (by omega))
    obtain ⟨hcu, hh⟩ := hmem
    refine wp_skip ?_
    refine hK6 _ _ ?_
    refine wp_seq_k fun K8 hK8 => ?_
    refine wp_block ?_
    refine wp_seq_k fun K9 hK9 => ?_
    refine wp_region_calm (by kernel_rfl) (by kernel_rfl) ?_
    refine wq hF rfl rfl rfl (fun w_ hB_ => r_loadn ag37 (hF.ev rfl) ((hS.ext hB_).box_rd (i := 2) rfl) sz37) ?_; clear hF a; intro a hF
    refine wq_mvs (A := [_, _]) hF rfl ?_; clear hF a; intro a hF
    obtain ⟨g24, o24, m24, q24, hv24, hm24, hl24, hc24⟩ := Rd.atF ((hS.own_rd (i := 1) rfl)) (a := a) (X := .tmp 23) (hF.ev rfl) (by omega) (by omega)
    refine wq hF rfl rfl rfl (fun w_ hB_ => r_index sl24 ((hF.ev rfl).trans hv24) (hF.ev rfl) (by omega) (by first | omega | (simp at hm24; omega))) ?_; clear hF a; intro a hF
    refine wq hF rfl rfl rfl (fun w_ hB_ => r_load1 sc3 (hF.ev rfl) (cellB hB_ (hc24 0 _ rfl))) ?_; clear hF a; intro a hF
    refine wq_call hF rfl rfl rfl (fun w_ hB_ => r_call3 en74 (hF.ev rfl) (hF.ev rfl) ec) (fun w_ hB_ => specLoadField_c ((hS.ext hB_).k hm) hw (by omega) hh (by unfold int64; omega)) ?_; clear hF a; intro a hF
    refine wq_mvs (A := [_]) hF rfl ?_; clear hF a; intro a hF
    refine wq hF rfl rfl rfl (fun w_ hB_ => r_extract (hF.ev rfl) rfl) ?_; clear hF a; intro a hF
    refine wq hF rfl rfl rfl (fun w_ hB_ => r_extract (hF.ev rfl) rfl) ?_; clear hF a; intro a hF
    refine wq_mvs (A := [_, _]) hF rfl ?_; clear hF a; intro a hF
    refine wpQuiet_nil ?_; intro w5 hB_; replace hS := hS.ext hB_; clear hB_
    refine hK9 _ _ ?_
    refine wp_region_lit ?_
    refine wl_mvs (A := [_, _]) hF rfl ?_; clear hF a; intro a hF
    refine wl_bslice intEK [vi (stampOf s (at0 (listOf s p) (k : Int)))] [stampOf s (at0 (listOf s p) (k : Int))] rfl hF hS rfl mk24 rfl ⟨rfl, (hF.ev rfl), trivial⟩ rfl rfl rfl rfl ?_; clear hF a; intro gl_31 w6 a hS_ hF; replace hS := hS_; clear hS_
    refine wl_append (q := 1) hF hS rfl rfl (hS.own_rd (i := 0) rfl) mk24 rfl (hF.ev rfl) (hF.ev rfl) (by simp; omega) (by first | (simp; omega) | (unfold maxLen; simp; omega)) ?_; clear hF a; intro A_32 c_32 w7 a hS_ hF; replace hS := hS_; clear hS_; dsimp only [List.set, List.length_cons, List.length_nil] at hS hF
    refine wl_mvs (A := [_]) hF rfl ?_; clear hF a; intro a hF
    refine wl_nil ?_
    simp only [Exit.then, Exit.inBlock, ↓reduceIte]
    refine hK8 _ _ ?_
    refine wp_region_lit ?_
    refine wl_mvs (A := [_]) hF rfl ?_; clear hF a; intro a hF
    refine wl hF rfl rfl rfl (r_add (hF.ev rfl) ec) ?_; clear hF a; intro a hF
    refine wl_mvs (A := [_]) hF rfl ?_; clear hF a; intro a hF
    refine wl_nil ?_
    try simp only [Exit.then, Exit.inBlock, ↓reduceIte]
    rw [map_next (by omega)] at hS
    refine ⟨(k + 1, (_, _, _)), (by dsimp only; omega), (hS.pick [1, 2, 3] (by decide) rfl), (((((hF.nil.keep hF (t := 6) rfl).keep hF (t := 4) rfl).keep hF (t := 2) rfl).keepE hF (t := 5) rfl rfl).keepE hF (t := 7) rfl (wk (by omega))), by dsimp only; omega⟩
  refine wp_exit ?_
  simp only [Exit.then, Exit.inBlock, ↓reduceIte]
  refine hK4 _ _ ?_
  refine ws fun K10 hK10 => ?_
  refine wl_mvs (A := [_, _]) hF rfl ?_; clear hF a; intro a hF
  refine wl_nil (hK10 _ _ ?_)
  refine wp_ret ?_
  try simp only [Exit.then, Exit.inBlock, ↓reduceIte]
  obtain rfl : k = (listOf s p).length := by omega
  rw [List.take_length] at hS
  exact ret1 rfl hF rfl ⟨q, rfl, hS.pick [0] (by decide) rfl⟩

set_option maxHeartbeats 4000000 in
set_option maxRecDepth 20000 in
theorem implStampsOf_c {W : World} {s : Sl.State} {cs : List Value} (hm : stateEK.K W s cs) (hw : s.wf) (hz : (s.size : Int) ≤ 1048576) {p : Int} (hp : int64 p) : Calls Try.prog 44 #[.agg cs.toArray, vi p] W (Ret (Mk W (fun z : Slv => sv z) (fun z => [Own intEK (sv z) (stampsOf s p)]))) := by
  refine calls_fr Try.func44 rfl Try.ntmps44 rfl ?_
  intro a hF
  have hS := Sep.refl W
  obtain ⟨v0, v1, v2, rfl, r0, r1, r2⟩ := hm
  have hm : stateEK.K W s (s.encv v0 v1 v2) := ⟨_, _, _, rfl, r0, r1, r2⟩
  obtain ⟨A_a, q_a, rfl, hq_a, hn_a⟩ := r0.sl; unfold maxLen at hn_a
  obtain ⟨A_b, q_b, rfl, hq_b, hn_b⟩ := r1.sl; unfold maxLen at hn_b
  obtain ⟨A_c, q_c, rfl, hq_c, hn_c⟩ := r2.sl; unfold maxLen at hn_c
  have hll := listOf_len (s := s) (k := p)
  refine ws fun K1 hK1 => ?_
  refine wl_box (cs := [_, _, _, _, _, _, _, _, _, _, _, _, _]) hF hS rfl (hF.ev rfl) rfl ?_; clear hF a; intro g1 w1 a hS_ hB_ hF; replace hS := hS_; clear hS_ hB_
  refine wl_mvs (A := [_]) hF rfl ?_; clear hF a; intro a hF
  refine wl_nil (hK1 _ _ ?_)
  refine ws fun K2 hK2 => ?_
  refine wl_bslice intEK [] [] rfl hF hS rfl mk24 rfl trivial rfl rfl rfl rfl ?_; clear hF a; intro gl_8 w2 a hS_ hF; replace hS := hS_; clear hS_
  refine wl_mvs (A := [_]) hF rfl ?_; clear hF a; intro a hF
  refine wl_nil (hK2 _ _ ?_)
  refine wp_seq_k fun K3 hK3 => ?_
  refine ws fun K4 hK4 => ?_
  refine wl hF rfl rfl rfl (r_loadn ag37 (hF.ev rfl) (hS.box_rd (i := 1) rfl) sz37) ?_; clear hF a; intro a hF
  refine wl_mvs (A := [_]) hF rfl ?_; clear hF a; intro a hF
  refine wl_mk hF hS rfl rfl rfl (r_call2 en42 (hF.ev rfl) (hF.ev rfl)) (implListOf_c (hS.k hm) hw (by omega) hp) ?_; clear hF a; rintro s11 w3 a hS_ hF; replace hS := hS_; clear hS_; dsimp only [List.cons_append, List.nil_append] at hS
  have hln11 := hS.own_len (q := 0) rfl
  refine wl hF rfl rfl rfl (r_len ul24 (hF.ev rfl)) ?_; clear hF a; intro a hF
  refine wl_mvs (A := [_]) hF rfl ?_; clear hF a; intro a hF
  refine wl_nil (hK4 _ _ ?_)
  refine wp_block ?_
  replace hS := hS.pull (p := 1) rfl; dsimp only [List.eraseIdx] at hS
  have hL_ := ((((hF.nil.keep hF (t := 12) rfl).keep hF (t := 11) rfl).keep hF (t := 4) rfl).keep hF (t := 2) rfl)
  refine wp_loop_m (σ := Nat × Slv) (fun z L_ => (13, vi z.1) :: (5, sv z.2) :: L_) (fun z l_ => (Own intEK (sv z.2) (((listOf s p).take z.1).map (stampOf s))) :: l_) (fun z => (z.1 ≤ (listOf s p).length)) (fun z => (listOf s p).length - z.1) (0, (some ⟨gl_8, 0, none⟩, 0, 0)) (hS) ((hL_.keepE hF (t := 5) rfl rfl).keepE hF (t := 13) rfl rfl) ?_ ?_
  · exact Nat.zero_le _
  clear hF hS hL_ a
  rintro ⟨k, q⟩ a w4 hk hS hF; try dsimp only at hF; try dsimp only at hS; try dsimp only at hk
  refine ws fun K5 hK5 => ?_
  refine wl hF rfl rfl rfl (r_lss (hF.ev rfl) (hF.ev rfl)) ?_; clear hF a; intro a hF
  refine wl_nil (hK5 _ _ ?_)
  refine wp_seq_k fun K6 hK6 => ?_
  refine wc_fx (t := 14) hF rfl ?_ ?_ <;> clear hF <;> intro c14 hF <;> try simp only [zb1, zb2, zb3, zb4, zb5, zb6, zb7, zb8] at c14
  ·
    have hmem := listOf_mem hw (at0_mem (xs := listOf s p) (i := (k : Int)) (by omega) (by omega))
    obtain ⟨hcu, hh⟩ := hmem
    refine wp_skip ?_
    refine hK6 _ _ ?_
    refine wp_seq_k fun K7 hK7 => ?_
    refine wp_block ?_
    refine ws fun K8 hK8 => ?_
    obtain ⟨g15, o15, m15, q15, hv15, hm15, hl15, hc15⟩ := Rd.atF ((hS.own_rd (i := 1) rfl)) (a := a) (X := .tmp 13) (hF.ev rfl) (by omega) (by omega)
    refine wl hF rfl rfl rfl (r_index sl24 ((hF.ev rfl).trans hv15) (hF.ev rfl) (by omega) (by first | omega | (simp at hm15; omega))) ?_; clear hF a; intro a hF
    refine wl hF rfl rfl rfl (r_load1 sc3 (hF.ev rfl) (hc15 0 _ rfl)) ?_; clear hF a; intro a hF
    refine wl_mvs (A := [_]) hF rfl ?_; clear hF a; intro a hF
    refine wl_nil (hK8 _ _ ?_)
    refine wp_region_lit ?_
    refine wl_mvs (A := [_, _]) hF rfl ?_; clear hF a; intro a hF
    refine wl_call hF rfl rfl rfl (r_call3 en78 (hF.ev rfl) (hF.ev rfl) ec) (cell_c (hS.k hm) (fun j u hu => hS.box_rd (i := 2) rfl j u hu) hw hh hcu (by omega) (by omega)) ?_; clear hF a; rintro v w5 a ⟨rfl, hB_⟩ hF; replace hS := hS.ext hB_; clear hB_
    refine wl_bslice intEK [vi (stampOf s (at0 (listOf s p) (k : Int)))] [stampOf s (at0 (listOf s p) (k : Int))] rfl hF hS rfl mk24 rfl ⟨rfl, (hF.ev rfl), trivial⟩ rfl rfl rfl rfl ?_; clear hF a; intro gl_20 w6 a hS_ hF; replace hS := hS_; clear hS_
    refine wl_append (q := 1) hF hS rfl rfl (hS.own_rd (i := 0) rfl) mk24 rfl (hF.ev rfl) (hF.ev rfl) (by simp; omega) (by first | (simp; omega) | (unfold maxLen; simp; omega)) ?_; clear hF a; intro A_21 c_21 w7 a hS_ hF; replace hS := hS_; clear hS_; dsimp only [List.set, List.length_cons, List.length_nil] at hS hF
    refine wl_mvs (A := [_]) hF rfl ?_; clear hF a; intro a hF
    refine wl_nil ?_
    simp only [Exit.then, Exit.inBlock, ↓reduceIte]
    refine hK7 _ _ ?_
    refine wp_region_lit ?_
    refine wl hF rfl rfl rfl (r_add (hF.ev rfl) ec) ?_; clear hF a; intro a hF
    refine wl_mvs (A := [_]) hF rfl ?_; clear hF a; intro a hF
    refine wl_nil ?_
    try simp only [Exit.then, Exit.inBlock, ↓reduceIte]
    rw [map_next (by omega)] at hS
    refine ⟨(k + 1, (_, _, _)), (by dsimp only; omega), (hS.pick [1, 2, 3] (by decide) rfl), ((((((hF.nil.keep hF (t := 12) rfl).keep hF (t := 11) rfl).keep hF (t := 4) rfl).keep hF (t := 2) rfl).keepE hF (t := 5) rfl rfl).keepE hF (t := 13) rfl (wk (by omega))), by dsimp only; omega⟩
  refine wp_exit ?_
  simp only [Exit.then, Exit.inBlock, ↓reduceIte]
  refine hK3 _ _ ?_
  refine ws fun K9 hK9 => ?_
  refine wl_mvs (A := [_, _]) hF rfl ?_; clear hF a; intro a hF
  refine wl_nil (hK9 _ _ ?_)
  refine wp_ret ?_
  try simp only [Exit.then, Exit.inBlock, ↓reduceIte]
  obtain rfl : k = (listOf s p).length := by omega
  rw [List.take_length] at hS
  exact ret1 rfl hF rfl ⟨q, rfl, hS.pick [0] (by decide) rfl⟩

end Go.Proofs.Ytjloiphocdaahaa.Wk
