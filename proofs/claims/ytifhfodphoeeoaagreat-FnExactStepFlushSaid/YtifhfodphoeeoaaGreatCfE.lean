/- Lemmas for the row of RwLf. -/
import Derived.Test.YtifhfodphoeeoaaGreatCfD
namespace Go.Proofs.YtifhfodphoeeoaaGreat.Wk
open Go Go.RowKit Sl
set_option linter.unusedVariables false
set_option linter.unusedSimpArgs false
set_option maxRecDepth 20000
def marked (h : Int) : Int := if h = 0 ∨ isHandle h = true ∧ h.tmod 2 = 0 then IntKind.i64.wrap (h + 1) else h
def isNeeded (e : Entry) (ns : List Int) : Bool := ns.any fun n => decide (e.low ≤ n) && decide (n < e.high)
def isPast (e : Entry) (ns : List Int) : Bool := !ns.any fun n => decide (n < e.high)
def dropB (pol key : Int) (ns : List Int) (e : Entry) : Bool := if pol = 1 then isPast e ns else if pol = 2 then !isNeeded e ns && (decide (key < 0) || decide (e.key = key)) else !isNeeded e ns
def splitK (pol key : Int) (es : List Entry) (ns : List Int) : List Entry := es.filter fun e => !dropB pol key ns e
def splitD (pol key : Int) (es : List Entry) (ns : List Int) : List Entry := es.filter fun e => dropB pol key ns e
section
variable {α : Type} {xs : List α} {x : α} {k : Nat} {q : α → Bool}
theorem any_nxt (h : (xs.take k).any q = false) (hx : xs[k]? = some x) (hp : q x = false) : (xs.take (k + 1)).any q = false := by
  rw [List.take_add_one, hx, List.any_append, h]; simp [hp]
theorem any_yes (hx : xs[k]? = some x) (hp : q x = true) : xs.any q = true := List.any_eq_true.2 ⟨x, List.mem_of_getElem? hx, hp⟩
theorem any_done (h : (xs.take k).any q = false) (hk : xs.length ≤ k) : xs.any q = false := by rwa [List.take_of_length_le hk] at h
theorem flt_yes (hx : xs[k]? = some x) (hp : q x = true) : (xs.take (k + 1)).filter q = (xs.take k).filter q ++ [x] := by
  rw [List.take_add_one, hx, List.filter_append]; simp [hp]
theorem flt_no (hx : xs[k]? = some x) (hp : q x = false) : (xs.take (k + 1)).filter q = (xs.take k).filter q := by
  rw [List.take_add_one, hx, List.filter_append]; simp [hp]
theorem flt_le (xs : List α) (q : α → Bool) (k : Nat) : ((xs.take k).filter q).length ≤ xs.length := Nat.le_trans (List.length_filter_le _ _) (by simp; omega)
end
theorem splitE_len (pol key : Int) (es : List Entry) (ns : List Int) : (splitK pol key es ns).length + (splitD pol key es ns).length = es.length := by
  unfold splitK splitD
  induction es with
  | nil => rfl
  | cons x xs ih =>
    simp only [List.filter_cons]
    cases h : dropB pol key ns x <;> simp <;> omega
set_option maxHeartbeats 4000000 in
set_option maxRecDepth 20000 in
theorem specMarked_c {W : World} {h : Int} (h1 : int64 h) : Calls Tryz.prog 109 #[vi h] W (Ret fun v w' => v = vi (marked h) ∧ Below W.heap.size W w') := by
  refine calls_fr Tryz.func109 rfl Tryz.ntmps109 rfl ?_
  intro a hF
  have hS := Sep.refl W
  refine ws fun K1 hK1 => ?_
  refine wl_mvs (A := [_]) hF rfl ?_; clear hF a; intro a hF
  refine wl_nil (hK1 _ _ ?_)
  refine wp_seq_k fun K2 hK2 => ?_
  refine ws fun K3 hK3 => ?_
  refine wl_mvs (A := [_]) hF rfl ?_; clear hF a; intro a hF
  refine wl hF rfl rfl rfl (r_eql (hF.ev rfl) ec) ?_; clear hF a; intro a hF
  refine wl_mvs (A := [_]) hF rfl ?_; clear hF a; intro a hF
  apply wl_or (A := [_, _, _, _, _, _, _, _]) (pk := 13) hF hS (tc := 5) rfl
  ·
    intro hg5 a hF; try simp only [zb1, zb2, zb3, zb4, zb5, zb6, zb7, zb8] at hg5
    refine wl_mvs (A := [_]) hF rfl ?_; clear hF a; intro a hF
    refine wl_take hF rfl rfl rfl rfl ?_
    refine wl_call hF rfl rfl rfl (r_call1 en143 (hF.ev rfl)) (specIsHandle_c h1) ?_; clear hF a; rintro v w1 a ⟨rfl, hB_⟩ hF; replace hS := hS.ext hB_; clear hB_
    refine wl_mvs (A := [_]) hF rfl ?_; clear hF a; intro a hF
    apply wl_and (A := [_, _, _, _]) (pk := 12) hF hS (tc := 8) rfl
    ·
      intro hg8 a hF; try simp only [zb1, zb2, zb3, zb4, zb5, zb6, zb7, zb8] at hg8
      refine wl_mvs (A := [_]) hF rfl ?_; clear hF a; intro a hF
      refine wl_take hF rfl rfl rfl rfl ?_
      refine wl hF rfl rfl rfl (r_rem (by first | decide | omega) (hF.ev rfl) ec) ?_; clear hF a; intro a hF
      refine wl_take hF rfl rfl rfl rfl ?_
      refine wl hF rfl rfl rfl (r_eql (hF.ev rfl) ec) ?_; clear hF a; intro a hF
      refine wl_take hF rfl rfl rfl rfl ?_
      refine wl hF rfl rfl rfl (r_pick_t (hF.ev rfl) (hF.ev rfl)) ?_; clear hF a; intro a hF
      exact wl_nil ⟨rfl, (Fr.pre (A := [_, _, _, _]) hF rfl).keep hF (t := 12) rfl, hS⟩
    ·
      intro hg8 a hF; try simp only [zb1, zb2, zb3, zb4, zb5, zb6, zb7, zb8] at hg8
      refine wl_mvs (A := [_, _, _]) hF rfl ?_; clear hF a; intro a hF
      refine wl_take hF rfl rfl rfl rfl ?_
      refine wl hF rfl rfl rfl (r_pick_f (hF.ev rfl) ec) ?_; clear hF a; intro a hF
      exact wl_nil ⟨rfl, (Fr.pre (A := [_, _, _, _]) hF rfl).keep hF (t := 12) rfl, hS⟩
    intro a w2 hF hS
    refine wl hF rfl rfl rfl (r_pick_f (hF.ev rfl) (hF.ev rfl)) ?_; clear hF a; intro a hF
    exact wl_nil ⟨rfl, (Fr.pre (A := [_, _, _, _, _]) hF rfl).keep hF (t := 13) rfl, hS⟩
  ·
    intro hg5 a hF; try simp only [zb1, zb2, zb3, zb4, zb5, zb6, zb7, zb8] at hg5
    refine wl_mvs (A := [_, _, _, _, _, _, _]) hF rfl ?_; clear hF a; intro a hF
    refine wl hF rfl rfl rfl (r_pick_t (hF.ev rfl) ec) ?_; clear hF a; intro a hF
    exact wl_nil ⟨rfl, (Fr.pre (A := [_, _, _, _, _, _, _, _]) hF rfl).keep hF (t := 13) rfl, hS⟩
  clear hF a hS; intro a w3 hF hS
  refine wl_nil (hK3 _ _ ?_)
  refine wc_fx (t := 13) hF rfl ?_ ?_ <;> clear hF <;> intro c13 hF <;> try simp only [zb1, zb2, zb3, zb4, zb5, zb6, zb7, zb8] at c13
  ·
    refine ws fun K4 hK4 => ?_
    refine wl_mvs (A := [_]) hF rfl ?_; clear hF a; intro a hF
    refine wl hF rfl rfl rfl (r_add (hF.ev rfl) ec) ?_; clear hF a; intro a hF
    refine wl_mvs (A := [_]) hF rfl ?_; clear hF a; intro a hF
    refine wl_nil (hK4 _ _ ?_)
    refine wp_ret ?_
    try simp only [Exit.then, Exit.inBlock, ↓reduceIte]
    refine ret1 rfl hF rfl ⟨congrArg vi (Eq.symm ?_), hS.old⟩
    unfold marked
    first | exact if_pos c13 | exact if_neg (by rintro (a | ⟨a, b⟩); exact c13.1 a; rcases c13.2 with c | c; (rw [c] at a; cases a); exact c b)
  refine wp_skip ?_
  refine hK2 _ _ ?_
  refine ws fun K5 hK5 => ?_
  refine wl_mvs (A := [_, _]) hF rfl ?_; clear hF a; intro a hF
  refine wl_nil (hK5 _ _ ?_)
  refine wp_ret ?_
  try simp only [Exit.then, Exit.inBlock, ↓reduceIte]
  refine ret1 rfl hF rfl ⟨congrArg vi (Eq.symm ?_), hS.old⟩
  unfold marked
  first | exact if_pos c13 | exact if_neg (by rintro (a | ⟨a, b⟩); exact c13.1 a; rcases c13.2 with c | c; (rw [c] at a; cases a); exact c b)
set_option maxHeartbeats 4000000 in
set_option maxRecDepth 20000 in
theorem implMarked_c {W : World} {h : Int} (h1 : int64 h) : Calls Tryz.prog 113 #[vi h] W (Ret fun v w' => v = vi (marked h) ∧ Below W.heap.size W w') := by
  refine calls_fr Tryz.func113 rfl Tryz.ntmps113 rfl ?_
  intro a hF
  have hS := Sep.refl W
  refine ws fun K1 hK1 => ?_
  refine wl_mvs (A := [_]) hF rfl ?_; clear hF a; intro a hF
  refine wl_nil (hK1 _ _ ?_)
  refine wp_seq_k fun K2 hK2 => ?_
  refine ws fun K3 hK3 => ?_
  refine wl_mvs (A := [_]) hF rfl ?_; clear hF a; intro a hF
  refine wl hF rfl rfl rfl (r_eql (hF.ev rfl) ec) ?_; clear hF a; intro a hF
  refine wl_mvs (A := [_]) hF rfl ?_; clear hF a; intro a hF
  apply wl_or (A := [_, _, _, _, _, _, _, _]) (pk := 13) hF hS (tc := 5) rfl
  ·
    intro hg5 a hF; try simp only [zb1, zb2, zb3, zb4, zb5, zb6, zb7, zb8] at hg5
    refine wl_mvs (A := [_]) hF rfl ?_; clear hF a; intro a hF
    refine wl_take hF rfl rfl rfl rfl ?_
    refine wl_call hF rfl rfl rfl (r_call1 en146 (hF.ev rfl)) (implIsHandle_c h1) ?_; clear hF a; rintro v w1 a ⟨rfl, hB_⟩ hF; replace hS := hS.ext hB_; clear hB_
    refine wl_mvs (A := [_]) hF rfl ?_; clear hF a; intro a hF
    apply wl_and (A := [_, _, _, _]) (pk := 12) hF hS (tc := 8) rfl
    ·
      intro hg8 a hF; try simp only [zb1, zb2, zb3, zb4, zb5, zb6, zb7, zb8] at hg8
      refine wl_mvs (A := [_]) hF rfl ?_; clear hF a; intro a hF
      refine wl_take hF rfl rfl rfl rfl ?_
      refine wl hF rfl rfl rfl (r_rem (by first | decide | omega) (hF.ev rfl) ec) ?_; clear hF a; intro a hF
      refine wl_take hF rfl rfl rfl rfl ?_
      refine wl hF rfl rfl rfl (r_eql (hF.ev rfl) ec) ?_; clear hF a; intro a hF
      refine wl_take hF rfl rfl rfl rfl ?_
      refine wl hF rfl rfl rfl (r_pick_t (hF.ev rfl) (hF.ev rfl)) ?_; clear hF a; intro a hF
      exact wl_nil ⟨rfl, (Fr.pre (A := [_, _, _, _]) hF rfl).keep hF (t := 12) rfl, hS⟩
    ·
      intro hg8 a hF; try simp only [zb1, zb2, zb3, zb4, zb5, zb6, zb7, zb8] at hg8
      refine wl_mvs (A := [_, _, _]) hF rfl ?_; clear hF a; intro a hF
      refine wl_take hF rfl rfl rfl rfl ?_
      refine wl hF rfl rfl rfl (r_pick_f (hF.ev rfl) ec) ?_; clear hF a; intro a hF
      exact wl_nil ⟨rfl, (Fr.pre (A := [_, _, _, _]) hF rfl).keep hF (t := 12) rfl, hS⟩
    intro a w2 hF hS
    refine wl hF rfl rfl rfl (r_pick_f (hF.ev rfl) (hF.ev rfl)) ?_; clear hF a; intro a hF
    exact wl_nil ⟨rfl, (Fr.pre (A := [_, _, _, _, _]) hF rfl).keep hF (t := 13) rfl, hS⟩
  ·
    intro hg5 a hF; try simp only [zb1, zb2, zb3, zb4, zb5, zb6, zb7, zb8] at hg5
    refine wl_mvs (A := [_, _, _, _, _, _, _]) hF rfl ?_; clear hF a; intro a hF
    refine wl hF rfl rfl rfl (r_pick_t (hF.ev rfl) ec) ?_; clear hF a; intro a hF
    exact wl_nil ⟨rfl, (Fr.pre (A := [_, _, _, _, _, _, _, _]) hF rfl).keep hF (t := 13) rfl, hS⟩
  clear hF a hS; intro a w3 hF hS
  refine wl_nil (hK3 _ _ ?_)
  refine wc_fx (t := 13) hF rfl ?_ ?_ <;> clear hF <;> intro c13 hF <;> try simp only [zb1, zb2, zb3, zb4, zb5, zb6, zb7, zb8] at c13
  ·
    refine ws fun K4 hK4 => ?_
    refine wl_mvs (A := [_]) hF rfl ?_; clear hF a; intro a hF
    refine wl hF rfl rfl rfl (r_add (hF.ev rfl) ec) ?_; clear hF a; intro a hF
    refine wl_mvs (A := [_]) hF rfl ?_; clear hF a; intro a hF
    refine wl_nil (hK4 _ _ ?_)
    refine wp_ret ?_
    try simp only [Exit.then, Exit.inBlock, ↓reduceIte]
    refine ret1 rfl hF rfl ⟨congrArg vi (Eq.symm ?_), hS.old⟩
    unfold marked
    first | exact if_pos c13 | exact if_neg (by rintro (a | ⟨a, b⟩); exact c13.1 a; rcases c13.2 with c | c; (rw [c] at a; cases a); exact c b)
  refine wp_skip ?_
  refine hK2 _ _ ?_
  refine ws fun K5 hK5 => ?_
  refine wl_mvs (A := [_, _]) hF rfl ?_; clear hF a; intro a hF
  refine wl_nil (hK5 _ _ ?_)
  refine wp_ret ?_
  try simp only [Exit.then, Exit.inBlock, ↓reduceIte]
  refine ret1 rfl hF rfl ⟨congrArg vi (Eq.symm ?_), hS.old⟩
  unfold marked
  first | exact if_pos c13 | exact if_neg (by rintro (a | ⟨a, b⟩); exact c13.1 a; rcases c13.2 with c | c; (rw [c] at a; cases a); exact c b)
set_option maxHeartbeats 4000000 in
set_option maxRecDepth 20000 in
theorem specNeeded_c {W : World} {e : Entry} {va : Value} {xs : List Int} (ha : intEK.Rd W va xs) : Calls Tryz.prog 182 #[.agg e.enc.toArray, va] W (Ret fun v w' => v = .bool (isNeeded e xs) ∧ Below W.heap.size W w') := by
  refine calls_fr Tryz.func182 rfl Tryz.ntmps182 rfl ?_
  intro a hF
  have hS := Sep.refl W
  obtain ⟨A_a, q_a, rfl, hq_a, hn_a⟩ := ha.sl; unfold maxLen at hn_a
  refine ws fun K1 hK1 => ?_
  refine wl_box (cs := [_, _, _, _]) hF hS rfl (hF.ev rfl) rfl ?_; clear hF a; intro g1 w1 a hS_ hB_ hF; replace hS := hS_; clear hS_ hB_
  refine wl_mvs (A := [_]) hF rfl ?_; clear hF a; intro a hF
  refine wl_nil (hK1 _ _ ?_)
  refine wp_seq_k fun K2 hK2 => ?_
  refine ws fun K3 hK3 => ?_
  refine wl_mvs (A := [_]) hF rfl ?_; clear hF a; intro a hF
  refine wl_nil (hK3 _ _ ?_)
  refine wp_block ?_
  have hL_ := (((hF.nil.keep hF (t := 4) rfl).keep hF (t := 2) rfl).keep hF (t := 1) rfl)
  refine wp_loop_r (σ := Nat) (fun k L_ => (5, vi k) :: L_) (fun k => (k ≤ xs.length) ∧ ((xs.take k).any (fun n => decide (e.low ≤ n) && decide (n < e.high)) = false)) (fun k => xs.length - k) 0 hS (hL_.keepE hF (t := 5) rfl rfl) ?_ ?_
  · exact ⟨Nat.zero_le _, rfl⟩
  clear hF hS hL_ a
  rintro k a w2 ⟨hk, hn⟩ hS hF; try dsimp only at hF; try dsimp only at hS
  refine wp_seq_k fun K4 hK4 => ?_
  refine ws fun K5 hK5 => ?_
  refine wl_mvs (A := [_, _]) hF rfl ?_; clear hF a; intro a hF
  refine wl hF rfl rfl rfl (r_len ul24 (hF.ev rfl)) ?_; clear hF a; intro a hF
  refine wl hF rfl rfl rfl (r_lss (hF.ev rfl) (hF.ev rfl)) ?_; clear hF a; intro a hF
  refine wl_nil (hK5 _ _ ?_)
  refine wc_fx (t := 9) hF rfl ?_ ?_ <;> clear hF <;> intro c9 hF <;> try simp only [zb1, zb2, zb3, zb4, zb5, zb6, zb7, zb8] at c9
  ·
    have hlt : k < xs.length := by omega
    have hx := at0_nat hlt
    refine wp_skip ?_
    refine hK4 _ _ ?_
    refine wp_seq_k fun K6 hK6 => ?_
    refine wp_block ?_
    refine wp_seq_k fun K7 hK7 => ?_
    refine wp_region_calm (by kernel_rfl) (by kernel_rfl) ?_
    refine wq hF rfl rfl rfl (fun w_ hB_ => r_field fo100_2 (hF.ev rfl)) ?_; clear hF a; intro a hF
    refine wq hF rfl rfl rfl (fun w_ hB_ => r_load1 sc3 (hF.ev rfl) ((hS.ext hB_).box (i := 0) rfl rfl)) ?_; clear hF a; intro a hF
    refine wq_mvs (A := [_, _]) hF rfl ?_; clear hF a; intro a hF
    obtain ⟨g16, o16, m16, q16, hv16, hm16, hl16, hc16⟩ := Rd.atF (ha) (a := a) (X := .tmp 15) (hF.ev rfl) (by omega) (by omega)
    refine wq hF rfl rfl rfl (fun w_ hB_ => r_index sl24 ((hF.ev rfl).trans hv16) (hF.ev rfl) (by omega) (by first | omega | (simp at hm16; omega))) ?_; clear hF a; intro a hF
    refine wq hF rfl rfl rfl (fun w_ hB_ => r_load1 sc3 (hF.ev rfl) (cellB (hS.ext hB_).old (hc16 0 _ rfl))) ?_; clear hF a; intro a hF
    refine wq hF rfl rfl rfl (fun w_ hB_ => r_leq (hF.ev rfl) (hF.ev rfl)) ?_; clear hF a; intro a hF
    refine wq_mvs (A := [_]) hF rfl ?_; clear hF a; intro a hF
    apply wq_and (A := [_, _, _, _, _, _, _, _]) (pk := 27) hF (tc := 19) rfl
    ·
      intro hg19 a hF; try simp only [zb1, zb2, zb3, zb4, zb5, zb6, zb7, zb8] at hg19
      refine wq_mvs (A := [_, _]) hF rfl ?_; clear hF a; intro a hF
      refine wq_take hF rfl rfl rfl rfl ?_
      obtain ⟨g22, o22, m22, q22, hv22, hm22, hl22, hc22⟩ := Rd.atF (ha) (a := a) (X := .tmp 21) (hF.ev rfl) (by omega) (by omega)
      refine wq hF rfl rfl rfl (fun w_ hB_ => r_index sl24 ((hF.ev rfl).trans hv22) (hF.ev rfl) (by omega) (by first | omega | (simp at hm22; omega))) ?_; clear hF a; intro a hF
      refine wq_take hF rfl rfl rfl rfl ?_
      refine wq hF rfl rfl rfl (fun w_ hB_ => r_load1 sc3 (hF.ev rfl) (cellB (hS.ext hB_).old (hc22 0 _ rfl))) ?_; clear hF a; intro a hF
      refine wq_take hF rfl rfl rfl rfl ?_
      refine wq hF rfl rfl rfl (fun w_ hB_ => r_field fo100_3 (hF.ev rfl)) ?_; clear hF a; intro a hF
      refine wq_take hF rfl rfl rfl rfl ?_
      refine wq hF rfl rfl rfl (fun w_ hB_ => r_load1 sc3 (hF.ev rfl) ((hS.ext hB_).box (i := 0) rfl rfl)) ?_; clear hF a; intro a hF
      refine wq_take hF rfl rfl rfl rfl ?_
      refine wq hF rfl rfl rfl (fun w_ hB_ => r_lss (hF.ev rfl) (hF.ev rfl)) ?_; clear hF a; intro a hF
      refine wq hF rfl rfl rfl (fun w_ hB_ => r_pick_t (hF.ev rfl) (hF.ev rfl)) ?_; clear hF a; intro a hF
      exact wpQuiet_nil ((Fr.pre (A := [_, _, _, _, _, _, _, _]) hF rfl).keep hF (t := 27) rfl)
    ·
      intro hg19 a hF; try simp only [zb1, zb2, zb3, zb4, zb5, zb6, zb7, zb8] at hg19
      refine wq_mvs (A := [_, _, _, _, _, _, _]) hF rfl ?_; clear hF a; intro a hF
      refine wq hF rfl rfl rfl (fun w_ hB_ => r_pick_f (hF.ev rfl) ec) ?_; clear hF a; intro a hF
      exact wpQuiet_nil ((Fr.pre (A := [_, _, _, _, _, _, _, _]) hF rfl).keep hF (t := 27) rfl)
    clear hF a; intro a hF
    refine wpQuiet_nil ?_; intro w4 hB_; replace hS := hS.ext hB_; clear hB_
    refine hK7 _ _ ?_
    refine wc_fx (t := 27) hF rfl ?_ ?_ <;> clear hF <;> intro c27 hF <;> try simp only [zb1, zb2, zb3, zb4, zb5, zb6, zb7, zb8] at c27
    ·
      refine ws fun K8 hK8 => ?_
      refine wl_mvs (A := [_]) hF rfl ?_; clear hF a; intro a hF
      refine wl_nil (hK8 _ _ ?_)
      refine wp_ret ?_
      try simp only [Exit.then, Exit.inBlock, ↓reduceIte]
      first
        | (refine ret1 rfl hF rfl ⟨congrArg Value.bool (Eq.symm ?_), hS.old⟩; exact any_yes hx (by simp only [Bool.and_eq_true, decide_eq_true_eq]; exact c27))
        | (refine ret1 rfl hF rfl ⟨congrArg Value.bool (Eq.symm ?_), hS.old⟩; exact any_done hn (by omega))
    refine wp_skip ?_
    simp only [Exit.then, Exit.inBlock, ↓reduceIte]
    refine hK6 _ _ ?_
    refine wp_region_lit ?_
    refine wl_mvs (A := [_]) hF rfl ?_; clear hF a; intro a hF
    refine wl hF rfl rfl rfl (r_add (hF.ev rfl) ec) ?_; clear hF a; intro a hF
    refine wl_mvs (A := [_]) hF rfl ?_; clear hF a; intro a hF
    refine wl_nil ?_
    try simp only [Exit.then, Exit.inBlock, ↓reduceIte]
    refine ⟨k + 1, ⟨by omega, any_nxt hn hx (by rw [Bool.and_eq_false_iff, decide_eq_false_iff_not, decide_eq_false_iff_not]; omega)⟩, hS, ((((hF.nil.keep hF (t := 4) rfl).keep hF (t := 2) rfl).keep hF (t := 1) rfl).keepE hF (t := 5) rfl (wk (by omega))), by omega⟩
  refine wp_exit ?_
  simp only [Exit.then, Exit.inBlock, ↓reduceIte]
  refine hK2 _ _ ?_
  refine ws fun K9 hK9 => ?_
  refine wl_mvs (A := [_]) hF rfl ?_; clear hF a; intro a hF
  refine wl_nil (hK9 _ _ ?_)
  refine wp_ret ?_
  try simp only [Exit.then, Exit.inBlock, ↓reduceIte]
  first
    | (refine ret1 rfl hF rfl ⟨congrArg Value.bool (Eq.symm ?_), hS.old⟩; exact any_yes hx (by simp only [Bool.and_eq_true, decide_eq_true_eq]; exact c27))
    | (refine ret1 rfl hF rfl ⟨congrArg Value.bool (Eq.symm ?_), hS.old⟩; exact any_done hn (by omega))
set_option maxHeartbeats 4000000 in
set_option maxRecDepth 20000 in
theorem specPast_c {W : World} {e : Entry} {va : Value} {xs : List Int} (ha : intEK.Rd W va xs) : Calls Tryz.prog 183 #[.agg e.enc.toArray, va] W (Ret fun v w' => v = .bool (isPast e xs) ∧ Below W.heap.size W w') := by
  refine calls_fr Tryz.func183 rfl Tryz.ntmps183 rfl ?_
  intro a hF
  have hS := Sep.refl W
  obtain ⟨A_a, q_a, rfl, hq_a, hn_a⟩ := ha.sl; unfold maxLen at hn_a
  refine ws fun K1 hK1 => ?_
  refine wl_box (cs := [_, _, _, _]) hF hS rfl (hF.ev rfl) rfl ?_; clear hF a; intro g1 w1 a hS_ hB_ hF; replace hS := hS_; clear hS_ hB_
  refine wl_mvs (A := [_]) hF rfl ?_; clear hF a; intro a hF
  refine wl_nil (hK1 _ _ ?_)
  refine wp_seq_k fun K2 hK2 => ?_
  refine ws fun K3 hK3 => ?_
  refine wl_mvs (A := [_]) hF rfl ?_; clear hF a; intro a hF
  refine wl_nil (hK3 _ _ ?_)
  refine wp_block ?_
  have hL_ := (((hF.nil.keep hF (t := 4) rfl).keep hF (t := 2) rfl).keep hF (t := 1) rfl)
  refine wp_loop_r (σ := Nat) (fun k L_ => (5, vi k) :: L_) (fun k => (k ≤ xs.length) ∧ ((xs.take k).any (fun n => decide (n < e.high)) = false)) (fun k => xs.length - k) 0 hS (hL_.keepE hF (t := 5) rfl rfl) ?_ ?_
  · exact ⟨Nat.zero_le _, rfl⟩
  clear hF hS hL_ a
  rintro k a w2 ⟨hk, hn⟩ hS hF; try dsimp only at hF; try dsimp only at hS
  refine wp_seq_k fun K4 hK4 => ?_
  refine ws fun K5 hK5 => ?_
  refine wl_mvs (A := [_, _]) hF rfl ?_; clear hF a; intro a hF
  refine wl hF rfl rfl rfl (r_len ul24 (hF.ev rfl)) ?_; clear hF a; intro a hF
  refine wl hF rfl rfl rfl (r_lss (hF.ev rfl) (hF.ev rfl)) ?_; clear hF a; intro a hF
  refine wl_nil (hK5 _ _ ?_)
  refine wc_fx (t := 9) hF rfl ?_ ?_ <;> clear hF <;> intro c9 hF <;> try simp only [zb1, zb2, zb3, zb4, zb5, zb6, zb7, zb8] at c9
  ·
    have hlt : k < xs.length := by omega
    have hx := at0_nat hlt
    refine wp_skip ?_
    refine hK4 _ _ ?_
    refine wp_seq_k fun K6 hK6 => ?_
    refine wp_block ?_
    refine wp_seq_k fun K7 hK7 => ?_
    refine wp_region_calm (by kernel_rfl) (by kernel_rfl) ?_
    refine wq_mvs (A := [_, _]) hF rfl ?_; clear hF a; intro a hF
    obtain ⟨g14, o14, m14, q14, hv14, hm14, hl14, hc14⟩ := Rd.atF (ha) (a := a) (X := .tmp 13) (hF.ev rfl) (by omega) (by omega)
    refine wq hF rfl rfl rfl (fun w_ hB_ => r_index sl24 ((hF.ev rfl).trans hv14) (hF.ev rfl) (by omega) (by first | omega | (simp at hm14; omega))) ?_; clear hF a; intro a hF
    refine wq hF rfl rfl rfl (fun w_ hB_ => r_load1 sc3 (hF.ev rfl) (cellB (hS.ext hB_).old (hc14 0 _ rfl))) ?_; clear hF a; intro a hF
    refine wq hF rfl rfl rfl (fun w_ hB_ => r_field fo100_3 (hF.ev rfl)) ?_; clear hF a; intro a hF
    refine wq hF rfl rfl rfl (fun w_ hB_ => r_load1 sc3 (hF.ev rfl) ((hS.ext hB_).box (i := 0) rfl rfl)) ?_; clear hF a; intro a hF
    refine wq hF rfl rfl rfl (fun w_ hB_ => r_lss (hF.ev rfl) (hF.ev rfl)) ?_; clear hF a; intro a hF
    refine wpQuiet_nil ?_; intro w3 hB_; replace hS := hS.ext hB_; clear hB_
    refine hK7 _ _ ?_
    refine wc_fx (t := 18) hF rfl ?_ ?_ <;> clear hF <;> intro c18 hF <;> try simp only [zb1, zb2, zb3, zb4, zb5, zb6, zb7, zb8] at c18
    ·
      refine ws fun K8 hK8 => ?_
      refine wl_mvs (A := [_]) hF rfl ?_; clear hF a; intro a hF
      refine wl_nil (hK8 _ _ ?_)
      refine wp_ret ?_
      try simp only [Exit.then, Exit.inBlock, ↓reduceIte]
      refine ret1 rfl hF rfl ⟨congrArg Value.bool (Eq.symm ?_), hS.old⟩; unfold isPast
      first
        | (rw [any_yes (q := fun n => decide (n < e.high)) hx (decide_eq_true c18)]; rfl)
        | (rw [any_done (q := fun n => decide (n < e.high)) hn (by omega)]; rfl)
    refine wp_skip ?_
    simp only [Exit.then, Exit.inBlock, ↓reduceIte]
    refine hK6 _ _ ?_
    refine wp_region_lit ?_
    refine wl_mvs (A := [_]) hF rfl ?_; clear hF a; intro a hF
    refine wl hF rfl rfl rfl (r_add (hF.ev rfl) ec) ?_; clear hF a; intro a hF
    refine wl_mvs (A := [_]) hF rfl ?_; clear hF a; intro a hF
    refine wl_nil ?_
    try simp only [Exit.then, Exit.inBlock, ↓reduceIte]
    refine ⟨k + 1, ⟨by omega, any_nxt hn hx (decide_eq_false (by omega))⟩, hS, ((((hF.nil.keep hF (t := 4) rfl).keep hF (t := 2) rfl).keep hF (t := 1) rfl).keepE hF (t := 5) rfl (wk (by omega))), by omega⟩
  refine wp_exit ?_
  simp only [Exit.then, Exit.inBlock, ↓reduceIte]
  refine hK2 _ _ ?_
  refine ws fun K9 hK9 => ?_
  refine wl_mvs (A := [_]) hF rfl ?_; clear hF a; intro a hF
  refine wl_nil (hK9 _ _ ?_)
  refine wp_ret ?_
  try simp only [Exit.then, Exit.inBlock, ↓reduceIte]
  refine ret1 rfl hF rfl ⟨congrArg Value.bool (Eq.symm ?_), hS.old⟩; unfold isPast
  first
    | (rw [any_yes (q := fun n => decide (n < e.high)) hx (decide_eq_true c18)]; rfl)
    | (rw [any_done (q := fun n => decide (n < e.high)) hn (by omega)]; rfl)
set_option maxHeartbeats 4000000 in
set_option maxRecDepth 20000 in
theorem needed1_c {W : World} {e : Entry} {g : Nat} {n : Int} (hc : ∀ j u, e.enc[j]? = some u → W.cell? ⟨g, 0 + j, none⟩ = some u) : Calls Tryz.prog 184 #[vi n, .pointer (some ⟨g, 0, none⟩)] W (Ret fun v w' => v = .bool (decide (e.low ≤ n) && decide (n < e.high)) ∧ Below W.heap.size W w') := by
  refine calls_fr Tryz.func184 rfl Tryz.ntmps184 rfl ?_
  intro a hF
  have hS := Sep.refl W
  refine ws fun K1 hK1 => ?_
  refine wl_mvs (A := [_]) hF rfl ?_; clear hF a; intro a hF
  refine wl_nil (hK1 _ _ ?_)
  refine ws fun K2 hK2 => ?_
  refine wl hF rfl rfl rfl (r_field fo100_2 (hF.ev rfl)) ?_; clear hF a; intro a hF
  refine wl hF rfl rfl rfl (r_load1 sc3 (hF.ev rfl) (cellB hS.old (hc 2 _ rfl))) ?_; clear hF a; intro a hF
  refine wl_mvs (A := [_]) hF rfl ?_; clear hF a; intro a hF
  refine wl hF rfl rfl rfl (r_leq (hF.ev rfl) (hF.ev rfl)) ?_; clear hF a; intro a hF
  refine wl_mvs (A := [_]) hF rfl ?_; clear hF a; intro a hF
  apply wl_and (A := [_, _, _, _, _]) (pk := 13) hF hS (tc := 8) rfl
  ·
    intro hg8 a hF; try simp only [zb1, zb2, zb3, zb4, zb5, zb6, zb7, zb8] at hg8
    refine wl_mvs (A := [_]) hF rfl ?_; clear hF a; intro a hF
    refine wl_take hF rfl rfl rfl rfl ?_
    refine wl hF rfl rfl rfl (r_field fo100_3 (hF.ev rfl)) ?_; clear hF a; intro a hF
    refine wl_take hF rfl rfl rfl rfl ?_
    refine wl hF rfl rfl rfl (r_load1 sc3 (hF.ev rfl) (cellB hS.old (hc 3 _ rfl))) ?_; clear hF a; intro a hF
    refine wl_take hF rfl rfl rfl rfl ?_
    refine wl hF rfl rfl rfl (r_lss (hF.ev rfl) (hF.ev rfl)) ?_; clear hF a; intro a hF
    refine wl hF rfl rfl rfl (r_pick_t (hF.ev rfl) (hF.ev rfl)) ?_; clear hF a; intro a hF
    exact wl_nil ⟨rfl, (Fr.pre (A := [_, _, _, _, _]) hF rfl).keep hF (t := 13) rfl, hS⟩
  ·
    intro hg8 a hF; try simp only [zb1, zb2, zb3, zb4, zb5, zb6, zb7, zb8] at hg8
    refine wl_mvs (A := [_, _, _, _]) hF rfl ?_; clear hF a; intro a hF
    refine wl hF rfl rfl rfl (r_pick_f (hF.ev rfl) ec) ?_; clear hF a; intro a hF
    exact wl_nil ⟨rfl, (Fr.pre (A := [_, _, _, _, _]) hF rfl).keep hF (t := 13) rfl, hS⟩
  clear hF a hS; intro a w1 hF hS
  refine wl_mvs (A := [_]) hF rfl ?_; clear hF a; intro a hF
  refine wl_nil (hK2 _ _ ?_)
  refine wp_ret ?_
  try simp only [Exit.then, Exit.inBlock, ↓reduceIte]
  exact ret1 rfl hF rfl ⟨rfl, hS.old⟩
set_option maxHeartbeats 4000000 in
set_option maxRecDepth 20000 in
theorem past1_c {W : World} {e : Entry} {g : Nat} {n : Int} (hc : ∀ j u, e.enc[j]? = some u → W.cell? ⟨g, 0 + j, none⟩ = some u) : Calls Tryz.prog 185 #[vi n, .pointer (some ⟨g, 0, none⟩)] W (Ret fun v w' => v = .bool (decide (n < e.high)) ∧ Below W.heap.size W w') := by
  refine calls_fr Tryz.func185 rfl Tryz.ntmps185 rfl ?_
  intro a hF
  have hS := Sep.refl W
  refine ws fun K1 hK1 => ?_
  refine wl_mvs (A := [_]) hF rfl ?_; clear hF a; intro a hF
  refine wl_nil (hK1 _ _ ?_)
  refine ws fun K2 hK2 => ?_
  refine wl_mvs (A := [_]) hF rfl ?_; clear hF a; intro a hF
  refine wl hF rfl rfl rfl (r_field fo100_3 (hF.ev rfl)) ?_; clear hF a; intro a hF
  refine wl hF rfl rfl rfl (r_load1 sc3 (hF.ev rfl) (cellB hS.old (hc 3 _ rfl))) ?_; clear hF a; intro a hF
  refine wl hF rfl rfl rfl (r_lss (hF.ev rfl) (hF.ev rfl)) ?_; clear hF a; intro a hF
  refine wl_mvs (A := [_]) hF rfl ?_; clear hF a; intro a hF
  refine wl_nil (hK2 _ _ ?_)
  refine wp_ret ?_
  try simp only [Exit.then, Exit.inBlock, ↓reduceIte]
  exact ret1 rfl hF rfl ⟨rfl, hS.old⟩
set_option maxHeartbeats 4000000 in
set_option maxRecDepth 20000 in
theorem implNeeded_c {W : World} {e : Entry} {va : Value} {xs : List Int} (ha : intEK.Rd W va xs) : Calls Tryz.prog 151 #[.agg e.enc.toArray, va] W (Ret fun v w' => v = .bool (isNeeded e xs) ∧ Below W.heap.size W w') := by
  refine calls_fr Tryz.func151 rfl Tryz.ntmps151 rfl ?_
  intro a hF
  have hS := Sep.refl W
  obtain ⟨A_a, q_a, rfl, hq_a, hn_a⟩ := ha.sl; unfold maxLen at hn_a
  refine ws fun K1 hK1 => ?_
  refine wl_box (cs := [_, _, _, _]) hF hS rfl (hF.ev rfl) rfl ?_; clear hF a; intro g1 w1 a hS_ hB_ hF; replace hS := hS_; clear hS_ hB_
  refine wl_mvs (A := [_]) hF rfl ?_; clear hF a; intro a hF
  refine wl_nil (hK1 _ _ ?_)
  refine ws fun K2 hK2 => ?_
  refine wl_mvs (A := [_]) hF rfl ?_; clear hF a; intro a hF
  refine wl hF rfl rfl rfl (r_makeFunc (by simp only [List.map_toArray, List.map_cons, List.map_nil]; rw [hF.ev rfl])) ?_; clear hF a; intro a hF
  refine wl_call hF rfl rfl rfl (r_call2 en163 (hF.ev rfl) (hF.ev rfl)) (containsFuncI_c (p := fun n => decide (e.low ≤ n) && decide (n < e.high)) (cap := #[.pointer (some ⟨g1, 0, none⟩)]) (hS.rd ha) (by kernel_rfl) (fun w_ x hx hB => by rw [app_1]; exact needed1_c (fun j u hu => cellB hB (hS.box_rd (i := 0) rfl j u hu)))) ?_; clear hF a; rintro v w2 a ⟨rfl, hB_⟩ hF; replace hS := hS.ext hB_; clear hB_
  refine wl_mvs (A := [_]) hF rfl ?_; clear hF a; intro a hF
  refine wl_nil (hK2 _ _ ?_)
  refine wp_ret ?_
  try simp only [Exit.then, Exit.inBlock, ↓reduceIte]
  exact ret1 rfl hF rfl ⟨rfl, hS.old⟩
set_option maxHeartbeats 4000000 in
set_option maxRecDepth 20000 in
theorem implPast_c {W : World} {e : Entry} {va : Value} {xs : List Int} (ha : intEK.Rd W va xs) : Calls Tryz.prog 152 #[.agg e.enc.toArray, va] W (Ret fun v w' => v = .bool (isPast e xs) ∧ Below W.heap.size W w') := by
  refine calls_fr Tryz.func152 rfl Tryz.ntmps152 rfl ?_
  intro a hF
  have hS := Sep.refl W
  obtain ⟨A_a, q_a, rfl, hq_a, hn_a⟩ := ha.sl; unfold maxLen at hn_a
  refine ws fun K1 hK1 => ?_
  refine wl_box (cs := [_, _, _, _]) hF hS rfl (hF.ev rfl) rfl ?_; clear hF a; intro g1 w1 a hS_ hB_ hF; replace hS := hS_; clear hS_ hB_
  refine wl_mvs (A := [_]) hF rfl ?_; clear hF a; intro a hF
  refine wl_nil (hK1 _ _ ?_)
  refine ws fun K2 hK2 => ?_
  refine wl_mvs (A := [_]) hF rfl ?_; clear hF a; intro a hF
  refine wl hF rfl rfl rfl (r_makeFunc (by simp only [List.map_toArray, List.map_cons, List.map_nil]; rw [hF.ev rfl])) ?_; clear hF a; intro a hF
  refine wl_call hF rfl rfl rfl (r_call2 en163 (hF.ev rfl) (hF.ev rfl)) (containsFuncI_c (p := fun n => decide (n < e.high)) (cap := #[.pointer (some ⟨g1, 0, none⟩)]) (hS.rd ha) (by kernel_rfl) (fun w_ x hx hB => by rw [app_1]; exact past1_c (fun j u hu => cellB hB (hS.box_rd (i := 0) rfl j u hu)))) ?_; clear hF a; rintro v w2 a ⟨rfl, hB_⟩ hF; replace hS := hS.ext hB_; clear hB_
  refine wl hF rfl rfl rfl (r_not (hF.ev rfl)) ?_; clear hF a; intro a hF
  refine wl_mvs (A := [_]) hF rfl ?_; clear hF a; intro a hF
  refine wl_nil (hK2 _ _ ?_)
  refine wp_ret ?_
  try simp only [Exit.then, Exit.inBlock, ↓reduceIte]
  exact ret1 rfl hF rfl ⟨rfl, hS.old⟩
set_option maxHeartbeats 4000000 in
set_option maxRecDepth 20000 in
theorem specSplitE_c {W : World} {pol key : Int} {va vb : Value} {es : List Entry} {ns : List Int} (ha : entryEK.Rd W va es) (hb : intEK.Rd W vb ns) (hz : es.length ≤ 1048576) : Calls Tryz.prog 149 #[vi pol, vi key, va, vb] W (Ret (Mk W (fun (γ : Slv × Slv) => .tuple #[sv γ.1, sv γ.2]) (fun γ => [Own entryEK (sv γ.1) (splitK pol key es ns), Own entryEK (sv γ.2) (splitD pol key es ns)]))) := by
  refine calls_fr Tryz.func149 rfl Tryz.ntmps149 rfl ?_
  intro a hF
  have hS := Sep.refl W
  obtain ⟨A_a, q_a, rfl, hq_a, hn_a⟩ := ha.sl; unfold maxLen at hn_a
  obtain ⟨A_b, q_b, rfl, hq_b, hn_b⟩ := hb.sl; unfold maxLen at hn_b
  refine ws fun K1 hK1 => ?_
  refine wl_mvs (A := [_, _]) hF rfl ?_; clear hF a; intro a hF
  refine wl_nil (hK1 _ _ ?_)
  refine ws fun K2 hK2 => ?_
  refine wl_bslice entryEK [] [] rfl hF hS rfl mk51 rfl trivial rfl rfl rfl rfl ?_; clear hF a; intro gl_14 w1 a hS_ hF; replace hS := hS_; clear hS_
  refine wl_mvs (A := [_]) hF rfl ?_; clear hF a; intro a hF
  refine wl_nil (hK2 _ _ ?_)
  refine ws fun K3 hK3 => ?_
  refine wl_bslice entryEK [] [] rfl hF hS rfl mk51 rfl trivial rfl rfl rfl rfl ?_; clear hF a; intro gl_15 w2 a hS_ hF; replace hS := hS_; clear hS_
  refine wl_mvs (A := [_]) hF rfl ?_; clear hF a; intro a hF
  refine wl_nil (hK3 _ _ ?_)
  refine wp_seq_k fun K4 hK4 => ?_
  refine ws fun K5 hK5 => ?_
  refine wl_mvs (A := [_]) hF rfl ?_; clear hF a; intro a hF
  refine wl_nil (hK5 _ _ ?_)
  refine wp_block ?_
  replace hS := hS.pull (p := 0) rfl; dsimp only [List.eraseIdx] at hS
  replace hS := hS.pull (p := 1) rfl; dsimp only [List.eraseIdx] at hS
  have hL_ := ((((((hF.nil.keep hF (t := 9) rfl).keep hF (t := 8) rfl).keep hF (t := 3) rfl).keep hF (t := 2) rfl).keep hF (t := 1) rfl).keep hF (t := 0) rfl)
  refine wp_loop_m (σ := Nat × Slv × Slv) (fun z L_ => (12, vi z.1) :: (10, sv z.2.1) :: (11, sv z.2.2) :: L_) (fun z l_ => (Own entryEK (sv z.2.1) ((es.take z.1).filter fun e => !dropB pol key ns e)) :: (Own entryEK (sv z.2.2) ((es.take z.1).filter fun e => dropB pol key ns e)) :: l_) (fun z => (z.1 ≤ es.length)) (fun z => es.length - z.1) (0, (_, _, _), (_, _, _)) (hS) (((hL_.keepE hF (t := 11) rfl rfl).keepE hF (t := 10) rfl rfl).keepE hF (t := 12) rfl rfl) ?_ ?_
  · exact Nat.zero_le _
  clear hF hS hL_ a
  rintro ⟨k, ⟨Ak, nk, ck⟩, ⟨Ad, nd, cd⟩⟩ a w3 hk hS hF; try dsimp only at hF; try dsimp only at hS; try dsimp only at hk
  have hnk := hS.own_len (q := 0) (s := (Ak, nk, ck)) rfl
  have hnd := hS.own_len (q := 1) (s := (Ad, nd, cd)) rfl
  replace hS : Sep W (Own entryEK (.slice Ak nk ck) _ :: Own entryEK (.slice Ad nd cd) _ :: _) _ := hS
  have hk1 := flt_le es (fun e => !dropB pol key ns e) k
  have hd1 := flt_le es (fun e => dropB pol key ns e) k
  refine wp_seq_k fun K6 hK6 => ?_
  refine ws fun K7 hK7 => ?_
  refine wl_mvs (A := [_, _]) hF rfl ?_; clear hF a; intro a hF
  refine wl hF rfl rfl rfl (r_len ul51 (hF.ev rfl)) ?_; clear hF a; intro a hF
  refine wl hF rfl rfl rfl (r_lss (hF.ev rfl) (hF.ev rfl)) ?_; clear hF a; intro a hF
  refine wl_nil (hK7 _ _ ?_)
  refine wc_fx (t := 19) hF rfl ?_ ?_ <;> clear hF <;> intro c19 hF <;> try simp only [zb1, zb2, zb3, zb4, zb5, zb6, zb7, zb8] at c19
  ·
    have hlt : k < es.length := by omega
    have hx := at0_nat hlt
    refine wp_skip ?_
    refine hK6 _ _ ?_
    refine wp_seq_k fun K8 hK8 => ?_
    refine wp_block ?_
    refine ws fun K9 hK9 => ?_
    refine wl_mvs (A := [_, _]) hF rfl ?_; clear hF a; intro a hF
    obtain ⟨g24, o24, m24, q24, hv24, hm24, hl24, hc24⟩ := Rd.atF (ha) (a := a) (X := .tmp 23) (hF.ev rfl) (by omega) (by omega)
    refine wl hF rfl rfl rfl (r_index sl51 ((hF.ev rfl).trans hv24) (hF.ev rfl) (by omega) (by first | omega | (simp at hm24; omega))) ?_; clear hF a; intro a hF
    refine wl hF rfl rfl rfl (r_loadn ag100 (hF.ev rfl) (fun j_ u_ hu_ => cellB hS.old (hc24 j_ u_ hu_)) sz100) ?_; clear hF a; intro a hF
    refine wl_mvs (A := [_]) hF rfl ?_; clear hF a; intro a hF
    refine wl_call hF rfl rfl rfl (r_call2 en182 (hF.ev rfl) (hF.ev rfl)) (specNeeded_c (e := at0 es (k : Int)) (hS.rd hb)) ?_; clear hF a; rintro v w4 a ⟨rfl, hB_⟩ hF; replace hS := hS.ext hB_; clear hB_
    refine wl hF rfl rfl rfl (r_not (hF.ev rfl)) ?_; clear hF a; intro a hF
    refine wl_mvs (A := [_]) hF rfl ?_; clear hF a; intro a hF
    refine wl_nil (hK9 _ _ ?_)
    refine wp_seq_k fun K10 hK10 => ?_
    refine ws fun K11 hK11 => ?_
    refine wl_mvs (A := [_]) hF rfl ?_; clear hF a; intro a hF
    refine wl_nil (hK11 _ _ ?_)
    refine wp_block ?_
    refine ws fun K12 hK12 => ?_
    refine wl hF rfl rfl rfl (r_eql (hF.ev rfl) ec) ?_; clear hF a; intro a hF
    refine wl_mvs (A := [_]) hF rfl ?_; clear hF a; intro a hF
    refine wl_nil (hK12 _ _ ?_)
    refine wc_fx (t := 30) hF rfl ?_ ?_ <;> clear hF <;> intro c30 hF <;> try simp only [zb1, zb2, zb3, zb4, zb5, zb6, zb7, zb8] at c30
    ·
      refine wp_region_lit ?_
      refine wl_mvs (A := [_, _]) hF rfl ?_; clear hF a; intro a hF
      obtain ⟨g34, o34, m34, q34, hv34, hm34, hl34, hc34⟩ := Rd.atF (ha) (a := a) (X := .tmp 33) (hF.ev rfl) (by omega) (by omega)
      refine wl hF rfl rfl rfl (r_index sl51 ((hF.ev rfl).trans hv34) (hF.ev rfl) (by omega) (by first | omega | (simp at hm34; omega))) ?_; clear hF a; intro a hF
      refine wl hF rfl rfl rfl (r_loadn ag100 (hF.ev rfl) (fun j_ u_ hu_ => cellB hS.old (hc34 j_ u_ hu_)) sz100) ?_; clear hF a; intro a hF
      refine wl_mvs (A := [_]) hF rfl ?_; clear hF a; intro a hF
      refine wl_call hF rfl rfl rfl (r_call2 en183 (hF.ev rfl) (hF.ev rfl)) (specPast_c (e := at0 es (k : Int)) (hS.rd hb)) ?_; clear hF a; rintro v w5 a ⟨rfl, hB_⟩ hF; replace hS := hS.ext hB_; clear hB_
      refine wl_mvs (A := [_]) hF rfl ?_; clear hF a; intro a hF
      refine wl_nil ?_
      simp only [Exit.then, Exit.inBlock, ↓reduceIte]
      refine hK10 _ _ ?_
      refine ws fun K13 hK13 => ?_
      refine wl_mvs (A := [_]) hF rfl ?_; clear hF a; intro a hF
      refine wl_nil (hK13 _ _ ?_)
      refine wc_fx (t := 54) hF rfl ?_ ?_ <;> clear hF <;> intro c54 hF <;> try simp only [zb1, zb2, zb3, zb4, zb5, zb6, zb7, zb8] at c54
      ·
        refine wp_region_lit ?_
        refine wl_mvs (A := [_, _, _]) hF rfl ?_; clear hF a; intro a hF
        obtain ⟨g58, o58, m58, q58, hv58, hm58, hl58, hc58⟩ := Rd.atF (ha) (a := a) (X := .tmp 57) (hF.ev rfl) (by omega) (by omega)
        refine wl hF rfl rfl rfl (r_index sl51 ((hF.ev rfl).trans hv58) (hF.ev rfl) (by omega) (by first | omega | (simp at hm58; omega))) ?_; clear hF a; intro a hF
        refine wl hF rfl rfl rfl (r_loadn ag100 (hF.ev rfl) (fun j_ u_ hu_ => cellB hS.old (hc58 j_ u_ hu_)) sz100) ?_; clear hF a; intro a hF
        refine wl_bslice entryEK [.agg (at0 es (k : Int)).enc.toArray] [at0 es (k : Int)] rfl hF hS rfl mk51 rfl ⟨rfl, (hF.ev rfl), trivial⟩ rfl rfl rfl rfl ?_; clear hF a; intro gl_60 w6 a hS_ hF; replace hS := hS_; clear hS_
        refine wl_append (q := 2) hF hS rfl rfl (hS.own_rd (i := 0) rfl) mk51 rfl (hF.ev rfl) (hF.ev rfl) (by simp; omega) (by unfold maxLen; simp; omega) ?_; clear hF a; intro A_61 c_61 w7 a hS_ hF; replace hS := hS_; clear hS_; dsimp only [List.set, List.length_cons, List.length_nil] at hS hF
        refine wl_mvs (A := [_]) hF rfl ?_; clear hF a; intro a hF
        refine wl_nil ?_
        simp only [Exit.then, Exit.inBlock, ↓reduceIte]
        refine hK8 _ _ ?_
        refine wp_region_lit ?_
        refine wl_mvs (A := [_]) hF rfl ?_; clear hF a; intro a hF
        refine wl hF rfl rfl rfl (r_add (hF.ev rfl) ec) ?_; clear hF a; intro a hF
        refine wl_mvs (A := [_]) hF rfl ?_; clear hF a; intro a hF
        refine wl_nil ?_
        try simp only [Exit.then, Exit.inBlock, ↓reduceIte]
        have hd_ : dropB pol key ns (at0 es (k : Int)) = true := by
          unfold dropB
          rw [if_pos c30]; exact c54
        rw [← flt_yes (q := fun e => dropB pol key ns e) hx hd_, ← flt_no (q := fun e => !dropB pol key ns e) hx (by rw [hd_]; rfl)] at hS
        refine ⟨(k + 1, (_, _, _), (_, _, _)), (by dsimp only; omega), (hS.pick [1, 2] (by decide) rfl), (((((((((hF.nil.keep hF (t := 9) rfl).keep hF (t := 8) rfl).keep hF (t := 3) rfl).keep hF (t := 2) rfl).keep hF (t := 1) rfl).keep hF (t := 0) rfl).keepE hF (t := 11) rfl rfl).keepE hF (t := 10) rfl rfl).keepE hF (t := 12) rfl (wk (by omega))), by dsimp only; omega⟩
      refine wp_region_lit ?_
      refine wl_mvs (A := [_, _, _]) hF rfl ?_; clear hF a; intro a hF
      obtain ⟨g65, o65, m65, q65, hv65, hm65, hl65, hc65⟩ := Rd.atF (ha) (a := a) (X := .tmp 64) (hF.ev rfl) (by omega) (by omega)
      refine wl hF rfl rfl rfl (r_index sl51 ((hF.ev rfl).trans hv65) (hF.ev rfl) (by omega) (by first | omega | (simp at hm65; omega))) ?_; clear hF a; intro a hF
      refine wl hF rfl rfl rfl (r_loadn ag100 (hF.ev rfl) (fun j_ u_ hu_ => cellB hS.old (hc65 j_ u_ hu_)) sz100) ?_; clear hF a; intro a hF
      refine wl_bslice entryEK [.agg (at0 es (k : Int)).enc.toArray] [at0 es (k : Int)] rfl hF hS rfl mk51 rfl ⟨rfl, (hF.ev rfl), trivial⟩ rfl rfl rfl rfl ?_; clear hF a; intro gl_67 w8 a hS_ hF; replace hS := hS_; clear hS_
      refine wl_append (q := 1) hF hS rfl rfl (hS.own_rd (i := 0) rfl) mk51 rfl (hF.ev rfl) (hF.ev rfl) (by simp; omega) (by unfold maxLen; simp; omega) ?_; clear hF a; intro A_68 c_68 w9 a hS_ hF; replace hS := hS_; clear hS_; dsimp only [List.set, List.length_cons, List.length_nil] at hS hF
      refine wl_mvs (A := [_]) hF rfl ?_; clear hF a; intro a hF
      refine wl_nil ?_
      simp only [Exit.then, Exit.inBlock, ↓reduceIte]
      refine hK8 _ _ ?_
      refine wp_region_lit ?_
      refine wl_mvs (A := [_]) hF rfl ?_; clear hF a; intro a hF
      refine wl hF rfl rfl rfl (r_add (hF.ev rfl) ec) ?_; clear hF a; intro a hF
      refine wl_mvs (A := [_]) hF rfl ?_; clear hF a; intro a hF
      refine wl_nil ?_
      try simp only [Exit.then, Exit.inBlock, ↓reduceIte]
      have hd_ : dropB pol key ns (at0 es (k : Int)) = false := by
        unfold dropB
        rw [if_pos c30]; exact c54
      rw [← flt_no (q := fun e => dropB pol key ns e) hx hd_, ← flt_yes (q := fun e => !dropB pol key ns e) hx (by rw [hd_]; rfl)] at hS
      refine ⟨(k + 1, (_, _, _), (_, _, _)), (by dsimp only; omega), (hS.pick [1, 2] (by decide) rfl), (((((((((hF.nil.keep hF (t := 9) rfl).keep hF (t := 8) rfl).keep hF (t := 3) rfl).keep hF (t := 2) rfl).keep hF (t := 1) rfl).keep hF (t := 0) rfl).keepE hF (t := 11) rfl rfl).keepE hF (t := 10) rfl rfl).keepE hF (t := 12) rfl (wk (by omega))), by dsimp only; omega⟩
    refine ws fun K14 hK14 => ?_
    refine wl hF rfl rfl rfl (r_eql (hF.ev rfl) ec) ?_; clear hF a; intro a hF
    refine wl_mvs (A := [_]) hF rfl ?_; clear hF a; intro a hF
    refine wl_nil (hK14 _ _ ?_)
    refine wc_fx (t := 38) hF rfl ?_ ?_ <;> clear hF <;> intro c38 hF <;> try simp only [zb1, zb2, zb3, zb4, zb5, zb6, zb7, zb8] at c38
    ·
      refine wp_region_lit ?_
      refine wl_mvs (A := [_, _]) hF rfl ?_; clear hF a; intro a hF
      apply wl_and (A := [_, _, _, _, _, _, _, _, _, _, _, _]) (pk := 53) hF hS (tc := 41) rfl
      ·
        intro hg41 a hF; try simp only [zb1, zb2, zb3, zb4, zb5, zb6, zb7, zb8] at hg41
        refine wl_mvs (A := [_]) hF rfl ?_; clear hF a; intro a hF
        refine wl_take hF rfl rfl rfl rfl ?_
        refine wl hF rfl rfl rfl (r_lss (hF.ev rfl) ec) ?_; clear hF a; intro a hF
        refine wl_mvs (A := [_]) hF rfl ?_; clear hF a; intro a hF
        apply wl_or (A := [_, _, _, _, _, _, _, _]) (pk := 52) hF hS (tc := 44) rfl
        ·
          intro hg44 a hF; try simp only [zb1, zb2, zb3, zb4, zb5, zb6, zb7, zb8] at hg44
          refine wl_mvs (A := [_, _]) hF rfl ?_; clear hF a; intro a hF
          refine wl_take hF rfl rfl rfl rfl ?_
          obtain ⟨g47, o47, m47, q47, hv47, hm47, hl47, hc47⟩ := Rd.atF (ha) (a := a) (X := .tmp 46) (hF.ev rfl) (by omega) (by omega)
          refine wl hF rfl rfl rfl (r_index sl51 ((hF.ev rfl).trans hv47) (hF.ev rfl) (by omega) (by first | omega | (simp at hm47; omega))) ?_; clear hF a; intro a hF
          refine wl_take hF rfl rfl rfl rfl ?_
          refine wl hF rfl rfl rfl (r_field fo100_1 (hF.ev rfl)) ?_; clear hF a; intro a hF
          refine wl_take hF rfl rfl rfl rfl ?_
          refine wl hF rfl rfl rfl (r_load1 sc3 (hF.ev rfl) (cellB hS.old (hc47 1 _ rfl))) ?_; clear hF a; intro a hF
          refine wl_mvs (A := [_]) hF rfl ?_; clear hF a; intro a hF
          refine wl_take hF rfl rfl rfl rfl ?_
          refine wl hF rfl rfl rfl (r_eql (hF.ev rfl) (hF.ev rfl)) ?_; clear hF a; intro a hF
          refine wl_take hF rfl rfl rfl rfl ?_
          refine wl hF rfl rfl rfl (r_pick_f (hF.ev rfl) (hF.ev rfl)) ?_; clear hF a; intro a hF
          exact wl_nil ⟨rfl, (Fr.pre (A := [_, _, _, _, _, _, _, _]) hF rfl).keep hF (t := 52) rfl, hS⟩
        ·
          intro hg44 a hF; try simp only [zb1, zb2, zb3, zb4, zb5, zb6, zb7, zb8] at hg44
          refine wl_mvs (A := [_, _, _, _, _, _, _]) hF rfl ?_; clear hF a; intro a hF
          refine wl_take hF rfl rfl rfl rfl ?_
          refine wl hF rfl rfl rfl (r_pick_t (hF.ev rfl) ec) ?_; clear hF a; intro a hF
          exact wl_nil ⟨rfl, (Fr.pre (A := [_, _, _, _, _, _, _, _]) hF rfl).keep hF (t := 52) rfl, hS⟩
        intro a w10 hF hS
        refine wl hF rfl rfl rfl (r_pick_t (hF.ev rfl) (hF.ev rfl)) ?_; clear hF a; intro a hF
        exact wl_nil ⟨rfl, (Fr.pre (A := [_, _, _, _, _]) hF rfl).keep hF (t := 53) rfl, hS⟩
      ·
        intro hg41 a hF; try simp only [zb1, zb2, zb3, zb4, zb5, zb6, zb7, zb8] at hg41
        refine wl_mvs (A := [_, _, _, _, _, _, _, _, _, _, _]) hF rfl ?_; clear hF a; intro a hF
        refine wl hF rfl rfl rfl (r_pick_f (hF.ev rfl) ec) ?_; clear hF a; intro a hF
        exact wl_nil ⟨rfl, (Fr.pre (A := [_, _, _, _, _, _, _, _, _, _, _, _]) hF rfl).keep hF (t := 53) rfl, hS⟩
      clear hF a hS; intro a w11 hF hS
      refine wl_mvs (A := [_]) hF rfl ?_; clear hF a; intro a hF
      refine wl_nil ?_
      simp only [Exit.then, Exit.inBlock, ↓reduceIte]
      refine hK10 _ _ ?_
      refine ws fun K15 hK15 => ?_
      refine wl_mvs (A := [_]) hF rfl ?_; clear hF a; intro a hF
      refine wl_nil (hK15 _ _ ?_)
      refine wc_fx (t := 54) hF rfl ?_ ?_ <;> clear hF <;> intro c54 hF <;> try simp only [zb1, zb2, zb3, zb4, zb5, zb6, zb7, zb8] at c54
      ·
        refine wp_region_lit ?_
        refine wl_mvs (A := [_, _, _]) hF rfl ?_; clear hF a; intro a hF
        obtain ⟨g58, o58, m58, q58, hv58, hm58, hl58, hc58⟩ := Rd.atF (ha) (a := a) (X := .tmp 57) (hF.ev rfl) (by omega) (by omega)
        refine wl hF rfl rfl rfl (r_index sl51 ((hF.ev rfl).trans hv58) (hF.ev rfl) (by omega) (by first | omega | (simp at hm58; omega))) ?_; clear hF a; intro a hF
        refine wl hF rfl rfl rfl (r_loadn ag100 (hF.ev rfl) (fun j_ u_ hu_ => cellB hS.old (hc58 j_ u_ hu_)) sz100) ?_; clear hF a; intro a hF
        refine wl_bslice entryEK [.agg (at0 es (k : Int)).enc.toArray] [at0 es (k : Int)] rfl hF hS rfl mk51 rfl ⟨rfl, (hF.ev rfl), trivial⟩ rfl rfl rfl rfl ?_; clear hF a; intro gl_60 w12 a hS_ hF; replace hS := hS_; clear hS_
        refine wl_append (q := 2) hF hS rfl rfl (hS.own_rd (i := 0) rfl) mk51 rfl (hF.ev rfl) (hF.ev rfl) (by simp; omega) (by unfold maxLen; simp; omega) ?_; clear hF a; intro A_61 c_61 w13 a hS_ hF; replace hS := hS_; clear hS_; dsimp only [List.set, List.length_cons, List.length_nil] at hS hF
        refine wl_mvs (A := [_]) hF rfl ?_; clear hF a; intro a hF
        refine wl_nil ?_
        simp only [Exit.then, Exit.inBlock, ↓reduceIte]
        refine hK8 _ _ ?_
        refine wp_region_lit ?_
        refine wl_mvs (A := [_]) hF rfl ?_; clear hF a; intro a hF
        refine wl hF rfl rfl rfl (r_add (hF.ev rfl) ec) ?_; clear hF a; intro a hF
        refine wl_mvs (A := [_]) hF rfl ?_; clear hF a; intro a hF
        refine wl_nil ?_
        try simp only [Exit.then, Exit.inBlock, ↓reduceIte]
        have hd_ : dropB pol key ns (at0 es (k : Int)) = true := by
          unfold dropB
          rw [if_neg c30, if_pos c38]; simpa using c54
        rw [← flt_yes (q := fun e => dropB pol key ns e) hx hd_, ← flt_no (q := fun e => !dropB pol key ns e) hx (by rw [hd_]; rfl)] at hS
        refine ⟨(k + 1, (_, _, _), (_, _, _)), (by dsimp only; omega), (hS.pick [1, 2] (by decide) rfl), (((((((((hF.nil.keep hF (t := 9) rfl).keep hF (t := 8) rfl).keep hF (t := 3) rfl).keep hF (t := 2) rfl).keep hF (t := 1) rfl).keep hF (t := 0) rfl).keepE hF (t := 11) rfl rfl).keepE hF (t := 10) rfl rfl).keepE hF (t := 12) rfl (wk (by omega))), by dsimp only; omega⟩
      refine wp_region_lit ?_
      refine wl_mvs (A := [_, _, _]) hF rfl ?_; clear hF a; intro a hF
      obtain ⟨g65, o65, m65, q65, hv65, hm65, hl65, hc65⟩ := Rd.atF (ha) (a := a) (X := .tmp 64) (hF.ev rfl) (by omega) (by omega)
      refine wl hF rfl rfl rfl (r_index sl51 ((hF.ev rfl).trans hv65) (hF.ev rfl) (by omega) (by first | omega | (simp at hm65; omega))) ?_; clear hF a; intro a hF
      refine wl hF rfl rfl rfl (r_loadn ag100 (hF.ev rfl) (fun j_ u_ hu_ => cellB hS.old (hc65 j_ u_ hu_)) sz100) ?_; clear hF a; intro a hF
      refine wl_bslice entryEK [.agg (at0 es (k : Int)).enc.toArray] [at0 es (k : Int)] rfl hF hS rfl mk51 rfl ⟨rfl, (hF.ev rfl), trivial⟩ rfl rfl rfl rfl ?_; clear hF a; intro gl_67 w14 a hS_ hF; replace hS := hS_; clear hS_
      refine wl_append (q := 1) hF hS rfl rfl (hS.own_rd (i := 0) rfl) mk51 rfl (hF.ev rfl) (hF.ev rfl) (by simp; omega) (by unfold maxLen; simp; omega) ?_; clear hF a; intro A_68 c_68 w15 a hS_ hF; replace hS := hS_; clear hS_; dsimp only [List.set, List.length_cons, List.length_nil] at hS hF
      refine wl_mvs (A := [_]) hF rfl ?_; clear hF a; intro a hF
      refine wl_nil ?_
      simp only [Exit.then, Exit.inBlock, ↓reduceIte]
      refine hK8 _ _ ?_
      refine wp_region_lit ?_
      refine wl_mvs (A := [_]) hF rfl ?_; clear hF a; intro a hF
      refine wl hF rfl rfl rfl (r_add (hF.ev rfl) ec) ?_; clear hF a; intro a hF
      refine wl_mvs (A := [_]) hF rfl ?_; clear hF a; intro a hF
      refine wl_nil ?_
      try simp only [Exit.then, Exit.inBlock, ↓reduceIte]
      have hd_ : dropB pol key ns (at0 es (k : Int)) = false := by
        unfold dropB
        rw [if_neg c30, if_pos c38]; rcases c54 with h | h; (rw [h]; rfl); (rw [decide_eq_false (show ¬ key < 0 by omega), decide_eq_false h.2]; simp)
      rw [← flt_no (q := fun e => dropB pol key ns e) hx hd_, ← flt_yes (q := fun e => !dropB pol key ns e) hx (by rw [hd_]; rfl)] at hS
      refine ⟨(k + 1, (_, _, _), (_, _, _)), (by dsimp only; omega), (hS.pick [1, 2] (by decide) rfl), (((((((((hF.nil.keep hF (t := 9) rfl).keep hF (t := 8) rfl).keep hF (t := 3) rfl).keep hF (t := 2) rfl).keep hF (t := 1) rfl).keep hF (t := 0) rfl).keepE hF (t := 11) rfl rfl).keepE hF (t := 10) rfl rfl).keepE hF (t := 12) rfl (wk (by omega))), by dsimp only; omega⟩
    refine wp_skip ?_
    simp only [Exit.then, Exit.inBlock, ↓reduceIte]
    refine hK10 _ _ ?_
    refine ws fun K16 hK16 => ?_
    refine wl_mvs (A := [_]) hF rfl ?_; clear hF a; intro a hF
    refine wl_nil (hK16 _ _ ?_)
    refine wc_fx (t := 54) hF rfl ?_ ?_ <;> clear hF <;> intro c54 hF <;> try simp only [zb1, zb2, zb3, zb4, zb5, zb6, zb7, zb8] at c54
    ·
      refine wp_region_lit ?_
      refine wl_mvs (A := [_, _, _]) hF rfl ?_; clear hF a; intro a hF
      obtain ⟨g58, o58, m58, q58, hv58, hm58, hl58, hc58⟩ := Rd.atF (ha) (a := a) (X := .tmp 57) (hF.ev rfl) (by omega) (by omega)
      refine wl hF rfl rfl rfl (r_index sl51 ((hF.ev rfl).trans hv58) (hF.ev rfl) (by omega) (by first | omega | (simp at hm58; omega))) ?_; clear hF a; intro a hF
      refine wl hF rfl rfl rfl (r_loadn ag100 (hF.ev rfl) (fun j_ u_ hu_ => cellB hS.old (hc58 j_ u_ hu_)) sz100) ?_; clear hF a; intro a hF
      refine wl_bslice entryEK [.agg (at0 es (k : Int)).enc.toArray] [at0 es (k : Int)] rfl hF hS rfl mk51 rfl ⟨rfl, (hF.ev rfl), trivial⟩ rfl rfl rfl rfl ?_; clear hF a; intro gl_60 w16 a hS_ hF; replace hS := hS_; clear hS_
      refine wl_append (q := 2) hF hS rfl rfl (hS.own_rd (i := 0) rfl) mk51 rfl (hF.ev rfl) (hF.ev rfl) (by simp; omega) (by unfold maxLen; simp; omega) ?_; clear hF a; intro A_61 c_61 w17 a hS_ hF; replace hS := hS_; clear hS_; dsimp only [List.set, List.length_cons, List.length_nil] at hS hF
      refine wl_mvs (A := [_]) hF rfl ?_; clear hF a; intro a hF
      refine wl_nil ?_
      simp only [Exit.then, Exit.inBlock, ↓reduceIte]
      refine hK8 _ _ ?_
      refine wp_region_lit ?_
      refine wl_mvs (A := [_]) hF rfl ?_; clear hF a; intro a hF
      refine wl hF rfl rfl rfl (r_add (hF.ev rfl) ec) ?_; clear hF a; intro a hF
      refine wl_mvs (A := [_]) hF rfl ?_; clear hF a; intro a hF
      refine wl_nil ?_
      try simp only [Exit.then, Exit.inBlock, ↓reduceIte]
      have hd_ : dropB pol key ns (at0 es (k : Int)) = true := by
        unfold dropB
        rw [if_neg c30, if_neg c38]; simpa using c54
      rw [← flt_yes (q := fun e => dropB pol key ns e) hx hd_, ← flt_no (q := fun e => !dropB pol key ns e) hx (by rw [hd_]; rfl)] at hS
      refine ⟨(k + 1, (_, _, _), (_, _, _)), (by dsimp only; omega), (hS.pick [1, 2] (by decide) rfl), (((((((((hF.nil.keep hF (t := 9) rfl).keep hF (t := 8) rfl).keep hF (t := 3) rfl).keep hF (t := 2) rfl).keep hF (t := 1) rfl).keep hF (t := 0) rfl).keepE hF (t := 11) rfl rfl).keepE hF (t := 10) rfl rfl).keepE hF (t := 12) rfl (wk (by omega))), by dsimp only; omega⟩
    refine wp_region_lit ?_
    refine wl_mvs (A := [_, _, _]) hF rfl ?_; clear hF a; intro a hF
    obtain ⟨g65, o65, m65, q65, hv65, hm65, hl65, hc65⟩ := Rd.atF (ha) (a := a) (X := .tmp 64) (hF.ev rfl) (by omega) (by omega)
    refine wl hF rfl rfl rfl (r_index sl51 ((hF.ev rfl).trans hv65) (hF.ev rfl) (by omega) (by first | omega | (simp at hm65; omega))) ?_; clear hF a; intro a hF
    refine wl hF rfl rfl rfl (r_loadn ag100 (hF.ev rfl) (fun j_ u_ hu_ => cellB hS.old (hc65 j_ u_ hu_)) sz100) ?_; clear hF a; intro a hF
    refine wl_bslice entryEK [.agg (at0 es (k : Int)).enc.toArray] [at0 es (k : Int)] rfl hF hS rfl mk51 rfl ⟨rfl, (hF.ev rfl), trivial⟩ rfl rfl rfl rfl ?_; clear hF a; intro gl_67 w18 a hS_ hF; replace hS := hS_; clear hS_
    refine wl_append (q := 1) hF hS rfl rfl (hS.own_rd (i := 0) rfl) mk51 rfl (hF.ev rfl) (hF.ev rfl) (by simp; omega) (by unfold maxLen; simp; omega) ?_; clear hF a; intro A_68 c_68 w19 a hS_ hF; replace hS := hS_; clear hS_; dsimp only [List.set, List.length_cons, List.length_nil] at hS hF
    refine wl_mvs (A := [_]) hF rfl ?_; clear hF a; intro a hF
    refine wl_nil ?_
    simp only [Exit.then, Exit.inBlock, ↓reduceIte]
    refine hK8 _ _ ?_
    refine wp_region_lit ?_
    refine wl_mvs (A := [_]) hF rfl ?_; clear hF a; intro a hF
    refine wl hF rfl rfl rfl (r_add (hF.ev rfl) ec) ?_; clear hF a; intro a hF
    refine wl_mvs (A := [_]) hF rfl ?_; clear hF a; intro a hF
    refine wl_nil ?_
    try simp only [Exit.then, Exit.inBlock, ↓reduceIte]
    have hd_ : dropB pol key ns (at0 es (k : Int)) = false := by
      unfold dropB
      rw [if_neg c30, if_neg c38]; simpa using c54
    rw [← flt_no (q := fun e => dropB pol key ns e) hx hd_, ← flt_yes (q := fun e => !dropB pol key ns e) hx (by rw [hd_]; rfl)] at hS
    refine ⟨(k + 1, (_, _, _), (_, _, _)), (by dsimp only; omega), (hS.pick [1, 2] (by decide) rfl), (((((((((hF.nil.keep hF (t := 9) rfl).keep hF (t := 8) rfl).keep hF (t := 3) rfl).keep hF (t := 2) rfl).keep hF (t := 1) rfl).keep hF (t := 0) rfl).keepE hF (t := 11) rfl rfl).keepE hF (t := 10) rfl rfl).keepE hF (t := 12) rfl (wk (by omega))), by dsimp only; omega⟩
  refine wp_exit ?_
  simp only [Exit.then, Exit.inBlock, ↓reduceIte]
  refine hK4 _ _ ?_
  refine ws fun K17 hK17 => ?_
  refine wl_mvs (A := [_, _, _, _]) hF rfl ?_; clear hF a; intro a hF
  refine wl_nil (hK17 _ _ ?_)
  refine wp_ret ?_
  try simp only [Exit.then, Exit.inBlock, ↓reduceIte]
  obtain rfl : k = es.length := by omega
  rw [List.take_length] at hS
  exact ret2 rfl hF rfl rfl ⟨((_, _, _), (_, _, _)), rfl, hS.pick [0, 1] (by decide) rfl⟩
set_option maxHeartbeats 4000000 in
set_option maxRecDepth 20000 in
theorem implSplitE_c {W : World} {pol key : Int} {va vb : Value} {es : List Entry} {ns : List Int} (ha : entryEK.Rd W va es) (hb : intEK.Rd W vb ns) (hz : es.length ≤ 1048576) : Calls Tryz.prog 111 #[vi pol, vi key, va, vb] W (Ret (Mk W (fun (γ : Slv × Slv) => .tuple #[sv γ.1, sv γ.2]) (fun γ => [Own entryEK (sv γ.1) (splitK pol key es ns), Own entryEK (sv γ.2) (splitD pol key es ns)]))) := by
  refine calls_fr Tryz.func111 rfl Tryz.ntmps111 rfl ?_
  intro a hF
  have hS := Sep.refl W
  obtain ⟨A_a, q_a, rfl, hq_a, hn_a⟩ := ha.sl; unfold maxLen at hn_a
  obtain ⟨A_b, q_b, rfl, hq_b, hn_b⟩ := hb.sl; unfold maxLen at hn_b
  refine ws fun K1 hK1 => ?_
  refine wl_mvs (A := [_, _]) hF rfl ?_; clear hF a; intro a hF
  refine wl_nil (hK1 _ _ ?_)
  refine ws fun K2 hK2 => ?_
  refine wl_bslice entryEK [] [] rfl hF hS rfl mk51 rfl trivial rfl rfl rfl rfl ?_; clear hF a; intro gl_15 w1 a hS_ hF; replace hS := hS_; clear hS_
  refine wl_bslice entryEK [] [] rfl hF hS rfl mk51 rfl trivial rfl rfl rfl rfl ?_; clear hF a; intro gl_16 w2 a hS_ hF; replace hS := hS_; clear hS_
  refine wl_mvs (A := [_, _]) hF rfl ?_; clear hF a; intro a hF
  refine wl_nil (hK2 _ _ ?_)
  refine wp_seq_k fun K3 hK3 => ?_
  refine ws fun K4 hK4 => ?_
  refine wl_mvs (A := [_]) hF rfl ?_; clear hF a; intro a hF
  refine wl hF rfl rfl rfl (r_len ul51 (hF.ev rfl)) ?_; clear hF a; intro a hF
  refine wl_mvs (A := [_]) hF rfl ?_; clear hF a; intro a hF
  refine wl_nil (hK4 _ _ ?_)
  refine wp_block ?_
  replace hS := hS.pull (p := 0) rfl; dsimp only [List.eraseIdx] at hS
  replace hS := hS.pull (p := 1) rfl; dsimp only [List.eraseIdx] at hS
  have hL_ := (((((((hF.nil.keep hF (t := 18) rfl).keep hF (t := 17) rfl).keep hF (t := 9) rfl).keep hF (t := 8) rfl).keep hF (t := 3) rfl).keep hF (t := 1) rfl).keep hF (t := 0) rfl)
  refine wp_loop_m (σ := Nat × Slv × Slv) (fun z L_ => (19, vi z.1) :: (10, sv z.2.1) :: (11, sv z.2.2) :: L_) (fun z l_ => (Own entryEK (sv z.2.1) ((es.take z.1).filter fun e => !dropB pol key ns e)) :: (Own entryEK (sv z.2.2) ((es.take z.1).filter fun e => dropB pol key ns e)) :: l_) (fun z => (z.1 ≤ es.length)) (fun z => es.length - z.1) (0, (_, _, _), (_, _, _)) (hS) (((hL_.keepE hF (t := 11) rfl rfl).keepE hF (t := 10) rfl rfl).keepE hF (t := 19) rfl rfl) ?_ ?_
  · exact Nat.zero_le _
  clear hF hS hL_ a
  rintro ⟨k, ⟨Ak, nk, ck⟩, ⟨Ad, nd, cd⟩⟩ a w3 hk hS hF; try dsimp only at hF; try dsimp only at hS; try dsimp only at hk
  have hnk := hS.own_len (q := 0) (s := (Ak, nk, ck)) rfl
  have hnd := hS.own_len (q := 1) (s := (Ad, nd, cd)) rfl
  replace hS : Sep W (Own entryEK (.slice Ak nk ck) _ :: Own entryEK (.slice Ad nd cd) _ :: _) _ := hS
  have hk1 := flt_le es (fun e => !dropB pol key ns e) k
  have hd1 := flt_le es (fun e => dropB pol key ns e) k
  refine ws fun K5 hK5 => ?_
  refine wl hF rfl rfl rfl (r_lss (hF.ev rfl) (hF.ev rfl)) ?_; clear hF a; intro a hF
  refine wl_nil (hK5 _ _ ?_)
  refine wp_seq_k fun K6 hK6 => ?_
  refine wc_fx (t := 20) hF rfl ?_ ?_ <;> clear hF <;> intro c20 hF <;> try simp only [zb1, zb2, zb3, zb4, zb5, zb6, zb7, zb8] at c20
  ·
    have hlt : k < es.length := by omega
    have hx := at0_nat hlt
    refine wp_skip ?_
    refine hK6 _ _ ?_
    refine wp_seq_k fun K7 hK7 => ?_
    refine wp_block ?_
    refine ws fun K8 hK8 => ?_
    obtain ⟨g21, o21, m21, q21, hv21, hm21, hl21, hc21⟩ := Rd.atF (ha) (a := a) (X := .tmp 19) (hF.ev rfl) (by omega) (by omega)
    refine wl hF rfl rfl rfl (r_index sl51 ((hF.ev rfl).trans hv21) (hF.ev rfl) (by omega) (by first | omega | (simp at hm21; omega))) ?_; clear hF a; intro a hF
    refine wl hF rfl rfl rfl (r_loadn ag100 (hF.ev rfl) (fun j_ u_ hu_ => cellB hS.old (hc21 j_ u_ hu_)) sz100) ?_; clear hF a; intro a hF
    refine wl_alloc hF hS rfl zr100 ?_; clear hF a; intro g1 w4 a hS_ hB_ hF; replace hS := hS_; clear hS_ hB_
    refine wl_storen (cs' := [_, _, _, _]) hF hS (i := 0) rfl (hF.ev rfl) (hF.ev rfl) sz100 ⟨rfl, rfl⟩ rfl rfl ?_; intro w5 hS_; replace hS := hS_; clear hS_; dsimp only [List.set] at hS
    refine wl_nil (hK8 _ _ ?_)
    refine ws fun K9 hK9 => ?_
    refine wl hF rfl rfl rfl (r_loadn ag100 (hF.ev rfl) (hS.box_rd (i := 0) rfl) sz100) ?_; clear hF a; intro a hF
    refine wl_mvs (A := [_]) hF rfl ?_; clear hF a; intro a hF
    refine wl_call hF rfl rfl rfl (r_call2 en151 (hF.ev rfl) (hF.ev rfl)) (implNeeded_c (e := at0 es (k : Int)) (hS.rd hb)) ?_; clear hF a; rintro v w6 a ⟨rfl, hB_⟩ hF; replace hS := hS.ext hB_; clear hB_
    refine wl hF rfl rfl rfl (r_not (hF.ev rfl)) ?_; clear hF a; intro a hF
    refine wl_mvs (A := [_]) hF rfl ?_; clear hF a; intro a hF
    refine wl_nil (hK9 _ _ ?_)
    refine wp_seq_k fun K10 hK10 => ?_
    refine ws fun K11 hK11 => ?_
    refine wl_mvs (A := [_]) hF rfl ?_; clear hF a; intro a hF
    refine wl_nil (hK11 _ _ ?_)
    refine wp_block ?_
    refine ws fun K12 hK12 => ?_
    refine wl hF rfl rfl rfl (r_eql (hF.ev rfl) ec) ?_; clear hF a; intro a hF
    refine wl_mvs (A := [_]) hF rfl ?_; clear hF a; intro a hF
    refine wl_nil (hK12 _ _ ?_)
    refine wc_fx (t := 28) hF rfl ?_ ?_ <;> clear hF <;> intro c28 hF <;> try simp only [zb1, zb2, zb3, zb4, zb5, zb6, zb7, zb8] at c28
    ·
      refine wp_region_lit ?_
      refine wl hF rfl rfl rfl (r_loadn ag100 (hF.ev rfl) (hS.box_rd (i := 0) rfl) sz100) ?_; clear hF a; intro a hF
      refine wl_mvs (A := [_]) hF rfl ?_; clear hF a; intro a hF
      refine wl_call hF rfl rfl rfl (r_call2 en152 (hF.ev rfl) (hF.ev rfl)) (implPast_c (e := at0 es (k : Int)) (hS.rd hb)) ?_; clear hF a; rintro v w7 a ⟨rfl, hB_⟩ hF; replace hS := hS.ext hB_; clear hB_
      refine wl_mvs (A := [_]) hF rfl ?_; clear hF a; intro a hF
      refine wl_nil ?_
      simp only [Exit.then, Exit.inBlock, ↓reduceIte]
      refine hK10 _ _ ?_
      refine ws fun K13 hK13 => ?_
      refine wl_mvs (A := [_]) hF rfl ?_; clear hF a; intro a hF
      refine wl_nil (hK13 _ _ ?_)
      refine wc_fx (t := 46) hF rfl ?_ ?_ <;> clear hF <;> intro c46 hF <;> try simp only [zb1, zb2, zb3, zb4, zb5, zb6, zb7, zb8] at c46
      ·
        refine wp_region_lit ?_
        refine wl_mvs (A := [_]) hF rfl ?_; clear hF a; intro a hF
        refine wl hF rfl rfl rfl (r_loadn ag100 (hF.ev rfl) (hS.box_rd (i := 0) rfl) sz100) ?_; clear hF a; intro a hF
        refine wl_bslice entryEK [.agg (at0 es (k : Int)).enc.toArray] [at0 es (k : Int)] rfl hF hS rfl mk51 rfl ⟨rfl, (hF.ev rfl), trivial⟩ rfl rfl rfl rfl ?_; clear hF a; intro gl_49 w8 a hS_ hF; replace hS := hS_; clear hS_
        refine wl_append (q := 3) hF hS rfl rfl (hS.own_rd (i := 0) rfl) mk51 rfl (hF.ev rfl) (hF.ev rfl) (by simp; omega) (by unfold maxLen; simp; omega) ?_; clear hF a; intro A_50 c_50 w9 a hS_ hF; replace hS := hS_; clear hS_; dsimp only [List.set, List.length_cons, List.length_nil] at hS hF
        refine wl_mvs (A := [_]) hF rfl ?_; clear hF a; intro a hF
        refine wl_nil ?_
        simp only [Exit.then, Exit.inBlock, ↓reduceIte]
        refine hK7 _ _ ?_
        refine wp_region_lit ?_
        refine wl hF rfl rfl rfl (r_add (hF.ev rfl) ec) ?_; clear hF a; intro a hF
        refine wl_mvs (A := [_]) hF rfl ?_; clear hF a; intro a hF
        refine wl_nil ?_
        try simp only [Exit.then, Exit.inBlock, ↓reduceIte]
        have hd_ : dropB pol key ns (at0 es (k : Int)) = true := by
          unfold dropB
          rw [if_pos c28]; exact c46
        rw [← flt_yes (q := fun e => dropB pol key ns e) hx hd_, ← flt_no (q := fun e => !dropB pol key ns e) hx (by rw [hd_]; rfl)] at hS
        refine ⟨(k + 1, (_, _, _), (_, _, _)), (by dsimp only; omega), (hS.pick [2, 3] (by decide) rfl), ((((((((((hF.nil.keep hF (t := 18) rfl).keep hF (t := 17) rfl).keep hF (t := 9) rfl).keep hF (t := 8) rfl).keep hF (t := 3) rfl).keep hF (t := 1) rfl).keep hF (t := 0) rfl).keepE hF (t := 11) rfl rfl).keepE hF (t := 10) rfl rfl).keepE hF (t := 19) rfl (wk (by omega))), by dsimp only; omega⟩
      refine wp_region_lit ?_
      refine wl_mvs (A := [_]) hF rfl ?_; clear hF a; intro a hF
      refine wl hF rfl rfl rfl (r_loadn ag100 (hF.ev rfl) (hS.box_rd (i := 0) rfl) sz100) ?_; clear hF a; intro a hF
      refine wl_bslice entryEK [.agg (at0 es (k : Int)).enc.toArray] [at0 es (k : Int)] rfl hF hS rfl mk51 rfl ⟨rfl, (hF.ev rfl), trivial⟩ rfl rfl rfl rfl ?_; clear hF a; intro gl_53 w10 a hS_ hF; replace hS := hS_; clear hS_
      refine wl_append (q := 2) hF hS rfl rfl (hS.own_rd (i := 0) rfl) mk51 rfl (hF.ev rfl) (hF.ev rfl) (by simp; omega) (by unfold maxLen; simp; omega) ?_; clear hF a; intro A_54 c_54 w11 a hS_ hF; replace hS := hS_; clear hS_; dsimp only [List.set, List.length_cons, List.length_nil] at hS hF
      refine wl_mvs (A := [_]) hF rfl ?_; clear hF a; intro a hF
      refine wl_nil ?_
      simp only [Exit.then, Exit.inBlock, ↓reduceIte]
      refine hK7 _ _ ?_
      refine wp_region_lit ?_
      refine wl hF rfl rfl rfl (r_add (hF.ev rfl) ec) ?_; clear hF a; intro a hF
      refine wl_mvs (A := [_]) hF rfl ?_; clear hF a; intro a hF
      refine wl_nil ?_
      try simp only [Exit.then, Exit.inBlock, ↓reduceIte]
      have hd_ : dropB pol key ns (at0 es (k : Int)) = false := by
        unfold dropB
        rw [if_pos c28]; exact c46
      rw [← flt_no (q := fun e => dropB pol key ns e) hx hd_, ← flt_yes (q := fun e => !dropB pol key ns e) hx (by rw [hd_]; rfl)] at hS
      refine ⟨(k + 1, (_, _, _), (_, _, _)), (by dsimp only; omega), (hS.pick [2, 3] (by decide) rfl), ((((((((((hF.nil.keep hF (t := 18) rfl).keep hF (t := 17) rfl).keep hF (t := 9) rfl).keep hF (t := 8) rfl).keep hF (t := 3) rfl).keep hF (t := 1) rfl).keep hF (t := 0) rfl).keepE hF (t := 11) rfl rfl).keepE hF (t := 10) rfl rfl).keepE hF (t := 19) rfl (wk (by omega))), by dsimp only; omega⟩
    refine ws fun K14 hK14 => ?_
    refine wl hF rfl rfl rfl (r_eql (hF.ev rfl) ec) ?_; clear hF a; intro a hF
    refine wl_mvs (A := [_]) hF rfl ?_; clear hF a; intro a hF
    refine wl_nil (hK14 _ _ ?_)
    refine wc_fx (t := 33) hF rfl ?_ ?_ <;> clear hF <;> intro c33 hF <;> try simp only [zb1, zb2, zb3, zb4, zb5, zb6, zb7, zb8] at c33
    ·
      refine wp_region_lit ?_
      refine wl_mvs (A := [_, _]) hF rfl ?_; clear hF a; intro a hF
      apply wl_and (A := [_, _, _, _, _, _, _, _, _]) (pk := 45) hF hS (tc := 36) rfl
      ·
        intro hg36 a hF; try simp only [zb1, zb2, zb3, zb4, zb5, zb6, zb7, zb8] at hg36
        refine wl_mvs (A := [_]) hF rfl ?_; clear hF a; intro a hF
        refine wl_take hF rfl rfl rfl rfl ?_
        refine wl hF rfl rfl rfl (r_lss (hF.ev rfl) ec) ?_; clear hF a; intro a hF
        refine wl_mvs (A := [_]) hF rfl ?_; clear hF a; intro a hF
        apply wl_or (A := [_, _, _, _, _]) (pk := 44) hF hS (tc := 39) rfl
        ·
          intro hg39 a hF; try simp only [zb1, zb2, zb3, zb4, zb5, zb6, zb7, zb8] at hg39
          refine wl_mvs (A := [_]) hF rfl ?_; clear hF a; intro a hF
          refine wl_take hF rfl rfl rfl rfl ?_
          refine wl hF rfl rfl rfl (r_field fo100_1 (hF.ev rfl)) ?_; clear hF a; intro a hF
          refine wl_take hF rfl rfl rfl rfl ?_
          refine wl hF rfl rfl rfl (r_load1 sc3 (hF.ev rfl) (hS.box (i := 0) rfl rfl)) ?_; clear hF a; intro a hF
          refine wl_take hF rfl rfl rfl rfl ?_
          refine wl hF rfl rfl rfl (r_eql (hF.ev rfl) (hF.ev rfl)) ?_; clear hF a; intro a hF
          refine wl_take hF rfl rfl rfl rfl ?_
          refine wl hF rfl rfl rfl (r_pick_f (hF.ev rfl) (hF.ev rfl)) ?_; clear hF a; intro a hF
          exact wl_nil ⟨rfl, (Fr.pre (A := [_, _, _, _, _]) hF rfl).keep hF (t := 44) rfl, hS⟩
        ·
          intro hg39 a hF; try simp only [zb1, zb2, zb3, zb4, zb5, zb6, zb7, zb8] at hg39
          refine wl_mvs (A := [_, _, _, _]) hF rfl ?_; clear hF a; intro a hF
          refine wl_take hF rfl rfl rfl rfl ?_
          refine wl hF rfl rfl rfl (r_pick_t (hF.ev rfl) ec) ?_; clear hF a; intro a hF
          exact wl_nil ⟨rfl, (Fr.pre (A := [_, _, _, _, _]) hF rfl).keep hF (t := 44) rfl, hS⟩
        intro a w12 hF hS
        refine wl hF rfl rfl rfl (r_pick_t (hF.ev rfl) (hF.ev rfl)) ?_; clear hF a; intro a hF
        exact wl_nil ⟨rfl, (Fr.pre (A := [_, _, _, _, _]) hF rfl).keep hF (t := 45) rfl, hS⟩
      ·
        intro hg36 a hF; try simp only [zb1, zb2, zb3, zb4, zb5, zb6, zb7, zb8] at hg36
        refine wl_mvs (A := [_, _, _, _, _, _, _, _]) hF rfl ?_; clear hF a; intro a hF
        refine wl hF rfl rfl rfl (r_pick_f (hF.ev rfl) ec) ?_; clear hF a; intro a hF
        exact wl_nil ⟨rfl, (Fr.pre (A := [_, _, _, _, _, _, _, _, _]) hF rfl).keep hF (t := 45) rfl, hS⟩
      clear hF a hS; intro a w13 hF hS
      refine wl_mvs (A := [_]) hF rfl ?_; clear hF a; intro a hF
      refine wl_nil ?_
      simp only [Exit.then, Exit.inBlock, ↓reduceIte]
      refine hK10 _ _ ?_
      refine ws fun K15 hK15 => ?_
      refine wl_mvs (A := [_]) hF rfl ?_; clear hF a; intro a hF
      refine wl_nil (hK15 _ _ ?_)
      refine wc_fx (t := 46) hF rfl ?_ ?_ <;> clear hF <;> intro c46 hF <;> try simp only [zb1, zb2, zb3, zb4, zb5, zb6, zb7, zb8] at c46
      ·
        refine wp_region_lit ?_
        refine wl_mvs (A := [_]) hF rfl ?_; clear hF a; intro a hF
        refine wl hF rfl rfl rfl (r_loadn ag100 (hF.ev rfl) (hS.box_rd (i := 0) rfl) sz100) ?_; clear hF a; intro a hF
        refine wl_bslice entryEK [.agg (at0 es (k : Int)).enc.toArray] [at0 es (k : Int)] rfl hF hS rfl mk51 rfl ⟨rfl, (hF.ev rfl), trivial⟩ rfl rfl rfl rfl ?_; clear hF a; intro gl_49 w14 a hS_ hF; replace hS := hS_; clear hS_
        refine wl_append (q := 3) hF hS rfl rfl (hS.own_rd (i := 0) rfl) mk51 rfl (hF.ev rfl) (hF.ev rfl) (by simp; omega) (by unfold maxLen; simp; omega) ?_; clear hF a; intro A_50 c_50 w15 a hS_ hF; replace hS := hS_; clear hS_; dsimp only [List.set, List.length_cons, List.length_nil] at hS hF
        refine wl_mvs (A := [_]) hF rfl ?_; clear hF a; intro a hF
        refine wl_nil ?_
        simp only [Exit.then, Exit.inBlock, ↓reduceIte]
        refine hK7 _ _ ?_
        refine wp_region_lit ?_
        refine wl hF rfl rfl rfl (r_add (hF.ev rfl) ec) ?_; clear hF a; intro a hF
        refine wl_mvs (A := [_]) hF rfl ?_; clear hF a; intro a hF
        refine wl_nil ?_
        try simp only [Exit.then, Exit.inBlock, ↓reduceIte]
        have hd_ : dropB pol key ns (at0 es (k : Int)) = true := by
          unfold dropB
          rw [if_neg c28, if_pos c33]; rw [eq_comm (a := key)] at c46; simpa using c46
        rw [← flt_yes (q := fun e => dropB pol key ns e) hx hd_, ← flt_no (q := fun e => !dropB pol key ns e) hx (by rw [hd_]; rfl)] at hS
        refine ⟨(k + 1, (_, _, _), (_, _, _)), (by dsimp only; omega), (hS.pick [2, 3] (by decide) rfl), ((((((((((hF.nil.keep hF (t := 18) rfl).keep hF (t := 17) rfl).keep hF (t := 9) rfl).keep hF (t := 8) rfl).keep hF (t := 3) rfl).keep hF (t := 1) rfl).keep hF (t := 0) rfl).keepE hF (t := 11) rfl rfl).keepE hF (t := 10) rfl rfl).keepE hF (t := 19) rfl (wk (by omega))), by dsimp only; omega⟩
      refine wp_region_lit ?_
      refine wl_mvs (A := [_]) hF rfl ?_; clear hF a; intro a hF
      refine wl hF rfl rfl rfl (r_loadn ag100 (hF.ev rfl) (hS.box_rd (i := 0) rfl) sz100) ?_; clear hF a; intro a hF
      refine wl_bslice entryEK [.agg (at0 es (k : Int)).enc.toArray] [at0 es (k : Int)] rfl hF hS rfl mk51 rfl ⟨rfl, (hF.ev rfl), trivial⟩ rfl rfl rfl rfl ?_; clear hF a; intro gl_53 w16 a hS_ hF; replace hS := hS_; clear hS_
      refine wl_append (q := 2) hF hS rfl rfl (hS.own_rd (i := 0) rfl) mk51 rfl (hF.ev rfl) (hF.ev rfl) (by simp; omega) (by unfold maxLen; simp; omega) ?_; clear hF a; intro A_54 c_54 w17 a hS_ hF; replace hS := hS_; clear hS_; dsimp only [List.set, List.length_cons, List.length_nil] at hS hF
      refine wl_mvs (A := [_]) hF rfl ?_; clear hF a; intro a hF
      refine wl_nil ?_
      simp only [Exit.then, Exit.inBlock, ↓reduceIte]
      refine hK7 _ _ ?_
      refine wp_region_lit ?_
      refine wl hF rfl rfl rfl (r_add (hF.ev rfl) ec) ?_; clear hF a; intro a hF
      refine wl_mvs (A := [_]) hF rfl ?_; clear hF a; intro a hF
      refine wl_nil ?_
      try simp only [Exit.then, Exit.inBlock, ↓reduceIte]
      have hd_ : dropB pol key ns (at0 es (k : Int)) = false := by
        unfold dropB
        rw [if_neg c28, if_pos c33]; rw [eq_comm (a := key)] at c46; rcases c46 with h | h; (rw [h]; rfl); (rw [decide_eq_false (show ¬ key < 0 by omega), decide_eq_false h.2]; simp)
      rw [← flt_no (q := fun e => dropB pol key ns e) hx hd_, ← flt_yes (q := fun e => !dropB pol key ns e) hx (by rw [hd_]; rfl)] at hS
      refine ⟨(k + 1, (_, _, _), (_, _, _)), (by dsimp only; omega), (hS.pick [2, 3] (by decide) rfl), ((((((((((hF.nil.keep hF (t := 18) rfl).keep hF (t := 17) rfl).keep hF (t := 9) rfl).keep hF (t := 8) rfl).keep hF (t := 3) rfl).keep hF (t := 1) rfl).keep hF (t := 0) rfl).keepE hF (t := 11) rfl rfl).keepE hF (t := 10) rfl rfl).keepE hF (t := 19) rfl (wk (by omega))), by dsimp only; omega⟩
    refine wp_skip ?_
    simp only [Exit.then, Exit.inBlock, ↓reduceIte]
    refine hK10 _ _ ?_
    refine ws fun K16 hK16 => ?_
    refine wl_mvs (A := [_]) hF rfl ?_; clear hF a; intro a hF
    refine wl_nil (hK16 _ _ ?_)
    refine wc_fx (t := 46) hF rfl ?_ ?_ <;> clear hF <;> intro c46 hF <;> try simp only [zb1, zb2, zb3, zb4, zb5, zb6, zb7, zb8] at c46
    ·
      refine wp_region_lit ?_
      refine wl_mvs (A := [_]) hF rfl ?_; clear hF a; intro a hF
      refine wl hF rfl rfl rfl (r_loadn ag100 (hF.ev rfl) (hS.box_rd (i := 0) rfl) sz100) ?_; clear hF a; intro a hF
      refine wl_bslice entryEK [.agg (at0 es (k : Int)).enc.toArray] [at0 es (k : Int)] rfl hF hS rfl mk51 rfl ⟨rfl, (hF.ev rfl), trivial⟩ rfl rfl rfl rfl ?_; clear hF a; intro gl_49 w18 a hS_ hF; replace hS := hS_; clear hS_
      refine wl_append (q := 3) hF hS rfl rfl (hS.own_rd (i := 0) rfl) mk51 rfl (hF.ev rfl) (hF.ev rfl) (by simp; omega) (by unfold maxLen; simp; omega) ?_; clear hF a; intro A_50 c_50 w19 a hS_ hF; replace hS := hS_; clear hS_; dsimp only [List.set, List.length_cons, List.length_nil] at hS hF
      refine wl_mvs (A := [_]) hF rfl ?_; clear hF a; intro a hF
      refine wl_nil ?_
      simp only [Exit.then, Exit.inBlock, ↓reduceIte]
      refine hK7 _ _ ?_
      refine wp_region_lit ?_
      refine wl hF rfl rfl rfl (r_add (hF.ev rfl) ec) ?_; clear hF a; intro a hF
      refine wl_mvs (A := [_]) hF rfl ?_; clear hF a; intro a hF
      refine wl_nil ?_
      try simp only [Exit.then, Exit.inBlock, ↓reduceIte]
      have hd_ : dropB pol key ns (at0 es (k : Int)) = true := by
        unfold dropB
        rw [if_neg c28, if_neg c33]; simpa using c46
      rw [← flt_yes (q := fun e => dropB pol key ns e) hx hd_, ← flt_no (q := fun e => !dropB pol key ns e) hx (by rw [hd_]; rfl)] at hS
      refine ⟨(k + 1, (_, _, _), (_, _, _)), (by dsimp only; omega), (hS.pick [2, 3] (by decide) rfl), ((((((((((hF.nil.keep hF (t := 18) rfl).keep hF (t := 17) rfl).keep hF (t := 9) rfl).keep hF (t := 8) rfl).keep hF (t := 3) rfl).keep hF (t := 1) rfl).keep hF (t := 0) rfl).keepE hF (t := 11) rfl rfl).keepE hF (t := 10) rfl rfl).keepE hF (t := 19) rfl (wk (by omega))), by dsimp only; omega⟩
    refine wp_region_lit ?_
    refine wl_mvs (A := [_]) hF rfl ?_; clear hF a; intro a hF
    refine wl hF rfl rfl rfl (r_loadn ag100 (hF.ev rfl) (hS.box_rd (i := 0) rfl) sz100) ?_; clear hF a; intro a hF
    refine wl_bslice entryEK [.agg (at0 es (k : Int)).enc.toArray] [at0 es (k : Int)] rfl hF hS rfl mk51 rfl ⟨rfl, (hF.ev rfl), trivial⟩ rfl rfl rfl rfl ?_; clear hF a; intro gl_53 w20 a hS_ hF; replace hS := hS_; clear hS_
    refine wl_append (q := 2) hF hS rfl rfl (hS.own_rd (i := 0) rfl) mk51 rfl (hF.ev rfl) (hF.ev rfl) (by simp; omega) (by unfold maxLen; simp; omega) ?_; clear hF a; intro A_54 c_54 w21 a hS_ hF; replace hS := hS_; clear hS_; dsimp only [List.set, List.length_cons, List.length_nil] at hS hF
    refine wl_mvs (A := [_]) hF rfl ?_; clear hF a; intro a hF
    refine wl_nil ?_
    simp only [Exit.then, Exit.inBlock, ↓reduceIte]
    refine hK7 _ _ ?_
    refine wp_region_lit ?_
    refine wl hF rfl rfl rfl (r_add (hF.ev rfl) ec) ?_; clear hF a; intro a hF
    refine wl_mvs (A := [_]) hF rfl ?_; clear hF a; intro a hF
    refine wl_nil ?_
    try simp only [Exit.then, Exit.inBlock, ↓reduceIte]
    have hd_ : dropB pol key ns (at0 es (k : Int)) = false := by
      unfold dropB
      rw [if_neg c28, if_neg c33]; simpa using c46
    rw [← flt_no (q := fun e => dropB pol key ns e) hx hd_, ← flt_yes (q := fun e => !dropB pol key ns e) hx (by rw [hd_]; rfl)] at hS
    refine ⟨(k + 1, (_, _, _), (_, _, _)), (by dsimp only; omega), (hS.pick [2, 3] (by decide) rfl), ((((((((((hF.nil.keep hF (t := 18) rfl).keep hF (t := 17) rfl).keep hF (t := 9) rfl).keep hF (t := 8) rfl).keep hF (t := 3) rfl).keep hF (t := 1) rfl).keep hF (t := 0) rfl).keepE hF (t := 11) rfl rfl).keepE hF (t := 10) rfl rfl).keepE hF (t := 19) rfl (wk (by omega))), by dsimp only; omega⟩
  refine wp_exit ?_
  simp only [Exit.then, Exit.inBlock, ↓reduceIte]
  refine hK3 _ _ ?_
  refine ws fun K17 hK17 => ?_
  refine wl_mvs (A := [_, _, _, _]) hF rfl ?_; clear hF a; intro a hF
  refine wl_nil (hK17 _ _ ?_)
  refine wp_ret ?_
  try simp only [Exit.then, Exit.inBlock, ↓reduceIte]
  obtain rfl : k = es.length := by omega
  rw [List.take_length] at hS
  exact ret2 rfl hF rfl rfl ⟨((_, _, _), (_, _, _)), rfl, hS.pick [0, 1] (by decide) rfl⟩
set_option maxHeartbeats 4000000 in
set_option maxRecDepth 20000 in
theorem specLimboLimit_c {W : World} (c : Config) : Calls Tryz.prog 150 #[.agg c.enc.toArray] W (Ret fun v w' => v = vi (limboLimit c) ∧ Below W.heap.size W w') := by
  refine calls_fr Tryz.func150 rfl Tryz.ntmps150 rfl ?_
  intro a hF
  have hS := Sep.refl W
  refine ws fun K1 hK1 => ?_
  refine wl_box (cs := [_, _, _, _, _, _]) hF hS rfl (hF.ev rfl) rfl ?_; clear hF a; intro g1 w1 a hS_ hB_ hF; replace hS := hS_; clear hS_ hB_
  refine wl_mvs (A := [_]) hF rfl ?_; clear hF a; intro a hF
  refine wl_nil (hK1 _ _ ?_)
  refine wp_seq_k fun K2 hK2 => ?_
  refine ws fun K3 hK3 => ?_
  refine wl hF rfl rfl rfl (r_loadn ag29 (hF.ev rfl) (hS.box_rd (i := 0) rfl) sz29) ?_; clear hF a; intro a hF
  refine wl_call hF rfl rfl rfl (r_call1 en114 (hF.ev rfl)) (specIsConfig_c c) ?_; clear hF a; rintro v w2 a ⟨rfl, hB_⟩ hF; replace hS := hS.ext hB_; clear hB_
  refine wl hF rfl rfl rfl (r_not (hF.ev rfl)) ?_; clear hF a; intro a hF
  refine wl_nil (hK3 _ _ ?_)
  first | refine wc_dec (hF.ev rfl) (fun c5 => ?_) (fun c5 => ?_) | refine wc_ndec (hF.ev rfl) (fun c5 => ?_) (fun c5 => ?_) | refine wc_b (hF.ev rfl) (fun c5 => ?_) (fun c5 => ?_)
  ·
    refine ws fun K4 hK4 => ?_
    refine wl_mvs (A := [_]) hF rfl ?_; clear hF a; intro a hF
    refine wl_nil (hK4 _ _ ?_)
    refine wp_ret ?_
    try simp only [Exit.then, Exit.inBlock, ↓reduceIte]
    refine ret1 rfl hF rfl ⟨congrArg vi ?_, hS.old⟩
    unfold limboLimit
    first | (rw [if_neg c5]; done) | (rw [if_pos c5]; unfold Config.ok at c5; simp only [w64]; omega)
  refine wp_skip ?_
  refine hK2 _ _ ?_
  refine ws fun K5 hK5 => ?_
  refine wl hF rfl rfl rfl (r_field fo29_0 (hF.ev rfl)) ?_; clear hF a; intro a hF
  refine wl hF rfl rfl rfl (r_load1 sc3 (hF.ev rfl) (hS.box (i := 0) rfl rfl)) ?_; clear hF a; intro a hF
  refine wl hF rfl rfl rfl (r_mul ec (hF.ev rfl)) ?_; clear hF a; intro a hF
  refine wl hF rfl rfl rfl (r_field fo29_3 (hF.ev rfl)) ?_; clear hF a; intro a hF
  refine wl hF rfl rfl rfl (r_load1 sc3 (hF.ev rfl) (hS.box (i := 0) rfl rfl)) ?_; clear hF a; intro a hF
  refine wl hF rfl rfl rfl (r_add (hF.ev rfl) (hF.ev rfl)) ?_; clear hF a; intro a hF
  refine wl_mvs (A := [_]) hF rfl ?_; clear hF a; intro a hF
  refine wl_nil (hK5 _ _ ?_)
  refine wp_ret ?_
  try simp only [Exit.then, Exit.inBlock, ↓reduceIte]
  refine ret1 rfl hF rfl ⟨congrArg vi ?_, hS.old⟩
  unfold limboLimit
  first | (rw [if_neg c5]; done) | (rw [if_pos c5]; unfold Config.ok at c5; simp only [w64]; omega)
set_option maxHeartbeats 4000000 in
set_option maxRecDepth 20000 in
theorem implLimboLimit_c {W : World} (c : Config) : Calls Tryz.prog 153 #[.agg c.enc.toArray] W (Ret fun v w' => v = vi (limboLimit c) ∧ Below W.heap.size W w') := by
  refine calls_fr Tryz.func153 rfl Tryz.ntmps153 rfl ?_
  intro a hF
  have hS := Sep.refl W
  refine ws fun K1 hK1 => ?_
  refine wl_box (cs := [_, _, _, _, _, _]) hF hS rfl (hF.ev rfl) rfl ?_; clear hF a; intro g1 w1 a hS_ hB_ hF; replace hS := hS_; clear hS_ hB_
  refine wl_mvs (A := [_]) hF rfl ?_; clear hF a; intro a hF
  refine wl_nil (hK1 _ _ ?_)
  refine wp_seq_k fun K2 hK2 => ?_
  refine ws fun K3 hK3 => ?_
  refine wl hF rfl rfl rfl (r_loadn ag29 (hF.ev rfl) (hS.box_rd (i := 0) rfl) sz29) ?_; clear hF a; intro a hF
  refine wl_call hF rfl rfl rfl (r_call1 en120 (hF.ev rfl)) (implIsConfig_c c) ?_; clear hF a; rintro v w2 a ⟨rfl, hB_⟩ hF; replace hS := hS.ext hB_; clear hB_
  refine wl hF rfl rfl rfl (r_not (hF.ev rfl)) ?_; clear hF a; intro a hF
  refine wl_nil (hK3 _ _ ?_)
  first | refine wc_dec (hF.ev rfl) (fun c5 => ?_) (fun c5 => ?_) | refine wc_ndec (hF.ev rfl) (fun c5 => ?_) (fun c5 => ?_) | refine wc_b (hF.ev rfl) (fun c5 => ?_) (fun c5 => ?_)
  ·
    refine ws fun K4 hK4 => ?_
    refine wl_mvs (A := [_]) hF rfl ?_; clear hF a; intro a hF
    refine wl_nil (hK4 _ _ ?_)
    refine wp_ret ?_
    try simp only [Exit.then, Exit.inBlock, ↓reduceIte]
    refine ret1 rfl hF rfl ⟨congrArg vi ?_, hS.old⟩
    unfold limboLimit
    first | (rw [if_neg c5]; done) | (rw [if_pos c5]; unfold Config.ok at c5; simp only [w64]; omega)
  refine wp_skip ?_
  refine hK2 _ _ ?_
  refine ws fun K5 hK5 => ?_
  refine wl hF rfl rfl rfl (r_field fo29_0 (hF.ev rfl)) ?_; clear hF a; intro a hF
  refine wl hF rfl rfl rfl (r_load1 sc3 (hF.ev rfl) (hS.box (i := 0) rfl rfl)) ?_; clear hF a; intro a hF
  refine wl hF rfl rfl rfl (r_mul ec (hF.ev rfl)) ?_; clear hF a; intro a hF
  refine wl hF rfl rfl rfl (r_field fo29_3 (hF.ev rfl)) ?_; clear hF a; intro a hF
  refine wl hF rfl rfl rfl (r_load1 sc3 (hF.ev rfl) (hS.box (i := 0) rfl rfl)) ?_; clear hF a; intro a hF
  refine wl hF rfl rfl rfl (r_add (hF.ev rfl) (hF.ev rfl)) ?_; clear hF a; intro a hF
  refine wl_mvs (A := [_]) hF rfl ?_; clear hF a; intro a hF
  refine wl_nil (hK5 _ _ ?_)
  refine wp_ret ?_
  try simp only [Exit.then, Exit.inBlock, ↓reduceIte]
  refine ret1 rfl hF rfl ⟨congrArg vi ?_, hS.old⟩
  unfold limboLimit
  first | (rw [if_neg c5]; done) | (rw [if_pos c5]; unfold Config.ok at c5; simp only [w64]; omega)
end Go.Proofs.YtifhfodphoeeoaaGreat.Wk
namespace Go.Proofs.YtifhfodphoeeoaaGreat.Wk
open Go Go.RowKit Sl
set_option linter.unusedVariables false
set_option linter.unusedSimpArgs false
set_option maxRecDepth 20000
set_option maxHeartbeats 4000000 in
set_option maxRecDepth 20000 in
theorem cloneI_c {W : World} {va : Value} {xs : List Int} (ha : intEK.Rd W va xs) (hz : xs.length ≤ 1099511627776) : Calls Tryz.prog 135 #[va] W (Ret (Mk W (fun s : Slv => sv s) (fun s => [Own intEK (sv s) xs]))) := by
  refine calls_fr Tryz.func135 rfl Tryz.ntmps135 rfl ?_
  intro a hF
  have hS := Sep.refl W
  obtain ⟨A_a, q_a, rfl, hq_a, hn_a⟩ := ha.sl; unfold maxLen at hn_a
  refine ws fun K1 hK1 => ?_
  refine wl_mvs (A := [_]) hF rfl ?_; clear hF a; intro a hF
  refine wl_nil (hK1 _ _ ?_)
  refine wp_seq_k fun K2 hK2 => ?_
  refine ws fun K3 hK3 => ?_
  refine wl_mvs (A := [_]) hF rfl ?_; clear hF a; intro a hF
  refine wl hF rfl rfl rfl (r_eqnil ul24 (hF.ev rfl) ec) ?_; clear hF a; intro a hF
  refine wl_nil (hK3 _ _ ?_)
  refine wc_fx (t := 4) hF rfl ?_ ?_ <;> clear hF <;> intro c4 hF <;> try simp only [zb1, zb2, zb3, zb4, zb5, zb6, zb7, zb8] at c4
  ·
    refine ws fun K4 hK4 => ?_
    refine wl_mvs (A := [_]) hF rfl ?_; clear hF a; intro a hF
    refine wl_nil (hK4 _ _ ?_)
    refine wp_ret ?_
    try simp only [Exit.then, Exit.inBlock, ↓reduceIte]
    first
      | (obtain rfl : xs = [] := Rd.none_nil ha c4; refine ret1 rfl hF rfl ?_; exact Sep.mkS ((Sep.refl W).ext hS.old |>.own_nil _) rfl)
      | (refine ret1 rfl hF rfl ?_; exact Sep.mkS (hS.pick [99] (by decide) rfl) rfl)
  refine wp_skip ?_
  refine hK2 _ _ ?_
  refine ws fun K5 hK5 => ?_
  refine wl_bslice intEK [] [] rfl hF hS rfl mk24 rfl trivial rfl rfl rfl rfl ?_; clear hF a; intro gl_5 w1 a hS_ hF; replace hS := hS_; clear hS_
  refine wl_mvs (A := [_]) hF rfl ?_; clear hF a; intro a hF
  refine wl_append0 hF hS rfl (hS.rd ha) mk24 rfl (by omega) (by unfold maxLen; omega) (hF.ev rfl) (hF.ev rfl) ?_; clear hF a; intro s7 w2 a hS_ hF; replace hS := hS_; clear hS_
  refine wl_mvs (A := [_]) hF rfl ?_; clear hF a; intro a hF
  refine wl_nil (hK5 _ _ ?_)
  refine wp_ret ?_
  try simp only [Exit.then, Exit.inBlock, ↓reduceIte]
  first
    | (obtain rfl : xs = [] := Rd.none_nil ha c4; refine ret1 rfl hF rfl ?_; exact Sep.mkS ((Sep.refl W).ext hS.old |>.own_nil _) rfl)
    | (refine ret1 rfl hF rfl ?_; exact Sep.mkS (hS.pick [0] (by decide) rfl) rfl)
set_option maxHeartbeats 4000000 in
set_option maxRecDepth 20000 in
theorem cloneE_c {W : World} {va : Value} {xs : List Entry} (ha : entryEK.Rd W va xs) (hz : xs.length ≤ 1099511627776) : Calls Tryz.prog 178 #[va] W (Ret (Mk W (fun s : Slv => sv s) (fun s => [Own entryEK (sv s) xs]))) := by
  refine calls_fr Tryz.func178 rfl Tryz.ntmps178 rfl ?_
  intro a hF
  have hS := Sep.refl W
  obtain ⟨A_a, q_a, rfl, hq_a, hn_a⟩ := ha.sl; unfold maxLen at hn_a
  refine ws fun K1 hK1 => ?_
  refine wl_mvs (A := [_]) hF rfl ?_; clear hF a; intro a hF
  refine wl_nil (hK1 _ _ ?_)
  refine wp_seq_k fun K2 hK2 => ?_
  refine ws fun K3 hK3 => ?_
  refine wl_mvs (A := [_]) hF rfl ?_; clear hF a; intro a hF
  refine wl hF rfl rfl rfl (r_eqnil ul51 (hF.ev rfl) ec) ?_; clear hF a; intro a hF
  refine wl_nil (hK3 _ _ ?_)
  refine wc_fx (t := 4) hF rfl ?_ ?_ <;> clear hF <;> intro c4 hF <;> try simp only [zb1, zb2, zb3, zb4, zb5, zb6, zb7, zb8] at c4
  ·
    refine ws fun K4 hK4 => ?_
    refine wl_mvs (A := [_]) hF rfl ?_; clear hF a; intro a hF
    refine wl_nil (hK4 _ _ ?_)
    refine wp_ret ?_
    try simp only [Exit.then, Exit.inBlock, ↓reduceIte]
    first
      | (obtain rfl : xs = [] := Rd.none_nil ha c4; refine ret1 rfl hF rfl ?_; exact Sep.mkS ((Sep.refl W).ext hS.old |>.own_nil _) rfl)
      | (refine ret1 rfl hF rfl ?_; exact Sep.mkS (hS.pick [99] (by decide) rfl) rfl)
  refine wp_skip ?_
  refine hK2 _ _ ?_
  refine ws fun K5 hK5 => ?_
  refine wl_bslice entryEK [] [] rfl hF hS rfl mk51 rfl trivial rfl rfl rfl rfl ?_; clear hF a; intro gl_5 w1 a hS_ hF; replace hS := hS_; clear hS_
  refine wl_mvs (A := [_]) hF rfl ?_; clear hF a; intro a hF
  refine wl_append0 hF hS rfl (hS.rd ha) mk51 rfl (by omega) (by unfold maxLen; omega) (hF.ev rfl) (hF.ev rfl) ?_; clear hF a; intro s7 w2 a hS_ hF; replace hS := hS_; clear hS_
  refine wl_mvs (A := [_]) hF rfl ?_; clear hF a; intro a hF
  refine wl_nil (hK5 _ _ ?_)
  refine wp_ret ?_
  try simp only [Exit.then, Exit.inBlock, ↓reduceIte]
  first
    | (obtain rfl : xs = [] := Rd.none_nil ha c4; refine ret1 rfl hF rfl ?_; exact Sep.mkS ((Sep.refl W).ext hS.old |>.own_nil _) rfl)
    | (refine ret1 rfl hF rfl ?_; exact Sep.mkS (hS.pick [0] (by decide) rfl) rfl)
set_option maxHeartbeats 4000000 in
set_option maxRecDepth 20000 in
theorem copyThread_c {W : World} {t : Sl.Thread} {cs : List Value} (hm : threadEK.K W t cs) (hz : t.size ≤ 1048576) : Calls Tryz.prog 136 #[.agg cs.toArray] W (Ret (Mk W (fun vs => .agg (threadEK.cells t vs).toArray) (fun vs => [Part threadEK t vs]))) := by
  refine calls_fr Tryz.func136 rfl Tryz.ntmps136 rfl ?_
  intro a hF
  have hS := Sep.refl W
  obtain ⟨v0, v1, v2, v3, v4, rfl, r0, r1, r2, r3, r4⟩ := hm
  obtain ⟨A_a, q_a, rfl, hq_a, hn_a⟩ := r0.sl; unfold maxLen at hn_a
  obtain ⟨A_b, q_b, rfl, hq_b, hn_b⟩ := r1.sl; unfold maxLen at hn_b
  obtain ⟨A_c, q_c, rfl, hq_c, hn_c⟩ := r2.sl; unfold maxLen at hn_c
  obtain ⟨A_d, q_d, rfl, hq_d, hn_d⟩ := r3.sl; unfold maxLen at hn_d
  obtain ⟨A_e, q_e, rfl, hq_e, hn_e⟩ := r4.sl; unfold maxLen at hn_e
  have hz1 := hz; unfold Sl.Thread.size at hz1
  refine ws fun K1 hK1 => ?_
  refine wl_box (cs := [_, _, _, _, _, _, _, _, _, _, _, _, _, _, _, _, _, _, _]) hF hS rfl (hF.ev rfl) rfl ?_; clear hF a; intro g1 w1 a hS_ hB_ hF; replace hS := hS_; clear hS_ hB_
  refine wl_alloc hF hS rfl zr53 ?_; clear hF a; intro g2 w2 a hS_ hB_ hF; replace hS := hS_; clear hS_ hB_
  refine wl_nil (hK1 _ _ ?_)
  refine wp_seq_k fun K2 hK2 => ?_
  refine wp_region_todo (is := [0, 1, 3, 4, 6, 7, 2, 9, 5, 8, 10, 11, 12, 13, 14]) [] [10, 11, 12, 13, 14] (by kernel_rfl) hF hS ⟨trivial, by decide, by decide, by decide⟩ (by kernel_rfl) ?_; clear hF; intro hl_ wd hSd
  refine todo_pure hl_ (by kernel_rfl) rfl (gw0 rfl) rfl rfl rfl (fun a w_ hF => r_field fo53_11 (hF.ev rfl)) ?_
  refine todo_load [2, 5, 8, 9, 10, 11, 12, 13, 14] hl_ (by kernel_rfl) rfl (gw0 rfl) rfl rfl rfl (fun a w_ hF hB_ => r_load1 sc24 (hF.ev rfl) ((hSd.ext hB_).box (i := 1) rfl rfl)) ?_
  refine todo_pure hl_ (by kernel_rfl) rfl (gw0 rfl) rfl rfl rfl (fun a w_ hF => r_field fo53_12 (hF.ev rfl)) ?_
  refine todo_load [5, 8, 9, 10, 11, 12, 13, 14] hl_ (by kernel_rfl) rfl (gw0 rfl) rfl rfl rfl (fun a w_ hF hB_ => r_load1 sc24 (hF.ev rfl) ((hSd.ext hB_).box (i := 1) rfl rfl)) ?_
  refine todo_pure hl_ (by kernel_rfl) rfl (gw0 rfl) rfl rfl rfl (fun a w_ hF => r_field fo53_15 (hF.ev rfl)) ?_
  refine todo_load [8, 9, 10, 11, 12, 13, 14] hl_ (by kernel_rfl) rfl (gw0 rfl) rfl rfl rfl (fun a w_ hF hB_ => r_load1 sc24 (hF.ev rfl) ((hSd.ext hB_).box (i := 1) rfl rfl)) ?_
  refine todo_mk hl_ rfl (by kernel_rfl) rfl rfl rfl rfl rfl (fun a w_ hF => r_call1 en135 (hF.ev rfl)) (fun w_ hS => cloneI_c (hS.rd r0) (by omega)) ?_; rintro s5
  refine todo_pure hl_ (by kernel_rfl) rfl (gw0 rfl) rfl rfl rfl (fun a w_ hF => r_field fo53_11 (hF.ev rfl)) ?_
  refine todo_mk hl_ rfl (by kernel_rfl) rfl rfl rfl rfl rfl (fun a w_ hF => r_call1 en135 (hF.ev rfl)) (fun w_ hS => cloneI_c (hS.rd r1) (by omega)) ?_; rintro s8
  refine todo_mk hl_ rfl (by kernel_rfl) rfl rfl rfl rfl rfl (fun a w_ hF => r_call1 en135 (hF.ev rfl)) (fun w_ hS => cloneI_c (hS.rd r4) (by omega)) ?_; rintro s11
  refine todo_fin hl_ rfl (by kernel_rfl) (tl := [_, _, _, _, _]) rfl ?_; clear hS a; intro a w3 hF hA_
  have hS := hA_.sep; clear hA_
  clear hl_; try clear hSd
  try dsimp only [List.cons_append, List.nil_append, List.set] at hS
  try clear wd
  refine wl_store hF hS (i := 4) rfl sz24 (hF.ev rfl) (hF.ev rfl) rfl rfl ?_; intro w4 hS_; replace hS := hS_; clear hS_; dsimp only [List.set, Nat.reduceAdd] at hS
  refine wl hF rfl rfl rfl (r_field fo53_12 (hF.ev rfl)) ?_; clear hF a; intro a hF
  refine wl_store hF hS (i := 4) rfl sz24 (hF.ev rfl) (hF.ev rfl) rfl rfl ?_; intro w5 hS_; replace hS := hS_; clear hS_; dsimp only [List.set, Nat.reduceAdd] at hS
  refine wl hF rfl rfl rfl (r_field fo53_15 (hF.ev rfl)) ?_; clear hF a; intro a hF
  refine wl_store hF hS (i := 4) rfl sz24 (hF.ev rfl) (hF.ev rfl) rfl rfl ?_; intro w6 hS_; replace hS := hS_; clear hS_; dsimp only [List.set, Nat.reduceAdd] at hS
  refine wl_nil ⟨rfl, ?_⟩
  refine hK2 _ _ ?_
  refine wp_seq_k fun K3 hK3 => ?_
  refine wp_region_todo (is := [0, 1, 3, 4, 2, 6, 5, 7, 8, 9]) [] [7, 8, 9] (by kernel_rfl) hF hS ⟨trivial, by decide, by decide, by decide⟩ (by kernel_rfl) ?_; clear hF; intro hl_ wd hSd
  refine todo_pure hl_ (by kernel_rfl) rfl (gw0 rfl) rfl rfl rfl (fun a w_ hF => r_field fo53_13 (hF.ev rfl)) ?_
  refine todo_load [2, 5, 6, 7, 8, 9] hl_ (by kernel_rfl) rfl (gw0 rfl) rfl rfl rfl (fun a w_ hF hB_ => r_load1 sc51 (hF.ev rfl) ((hSd.ext hB_).box (i := 4) rfl rfl)) ?_
  refine todo_pure hl_ (by kernel_rfl) rfl (gw0 rfl) rfl rfl rfl (fun a w_ hF => r_field fo53_14 (hF.ev rfl)) ?_
  refine todo_load [5, 6, 7, 8, 9] hl_ (by kernel_rfl) rfl (gw0 rfl) rfl rfl rfl (fun a w_ hF hB_ => r_load1 sc51 (hF.ev rfl) ((hSd.ext hB_).box (i := 4) rfl rfl)) ?_
  refine todo_mk hl_ rfl (by kernel_rfl) rfl rfl rfl rfl rfl (fun a w_ hF => r_call1 en178 (hF.ev rfl)) (fun w_ hS => cloneE_c (hS.rd r2) (by omega)) ?_; rintro s17
  refine todo_pure hl_ (by kernel_rfl) rfl (gw0 rfl) rfl rfl rfl (fun a w_ hF => r_field fo53_13 (hF.ev rfl)) ?_
  refine todo_mk hl_ rfl (by kernel_rfl) rfl rfl rfl rfl rfl (fun a w_ hF => r_call1 en178 (hF.ev rfl)) (fun w_ hS => cloneE_c (hS.rd r3) (by omega)) ?_; rintro s20
  refine todo_fin hl_ rfl (by kernel_rfl) (tl := [_, _, _]) rfl ?_; clear hS a; intro a w7 hF hA_
  have hS := hA_.sep; clear hA_
  clear hl_; try clear hSd
  try dsimp only [List.cons_append, List.nil_append, List.set] at hS
  try clear wd
  refine wl_store hF hS (i := 6) rfl sz51 (hF.ev rfl) (hF.ev rfl) rfl rfl ?_; intro w8 hS_; replace hS := hS_; clear hS_; dsimp only [List.set, Nat.reduceAdd] at hS
  refine wl hF rfl rfl rfl (r_field fo53_14 (hF.ev rfl)) ?_; clear hF a; intro a hF
  refine wl_store hF hS (i := 6) rfl sz51 (hF.ev rfl) (hF.ev rfl) rfl rfl ?_; intro w9 hS_; replace hS := hS_; clear hS_; dsimp only [List.set, Nat.reduceAdd] at hS
  refine wl_nil ⟨rfl, ?_⟩
  refine hK3 _ _ ?_
  refine ws fun K4 hK4 => ?_
  refine wl hF rfl rfl rfl (r_loadn ag53 (hF.ev rfl) (hS.box_rd (i := 6) rfl) sz53) ?_; clear hF a; intro a hF
  refine wl_storew hF hS (i := 5) rfl (hF.ev rfl) (hF.ev rfl) sz53 rfl rfl ?_; intro w10 hS_; replace hS := hS_; clear hS_; dsimp only [List.set, Nat.reduceAdd] at hS
  refine wl_nil (hK4 _ _ ?_)
  refine wp_ret ?_
  try simp only [Exit.then, Exit.inBlock, ↓reduceIte]
  exact ret1c rfl ag53 hF hS (i := 5) rfl sz53 rfl ⟨[s5, s8, s17, s20, s11], rfl, hS.part_of [4, 3, 1, 0, 2] (by decide) rfl⟩
set_option maxHeartbeats 4000000 in
set_option maxRecDepth 20000 in
theorem copyState_c {W : World} {s : Sl.State} {cs : List Value} (hm : stateEK.K W s cs) (hz : (s.size : Int) ≤ 1048576) : Calls Tryz.prog 73 #[.agg cs.toArray] W (Ret (Mk W (fun vs => .agg (stateEK.cells s vs).toArray) (fun vs => [Part stateEK s vs]))) := by
  refine calls_fr Tryz.func73 rfl Tryz.ntmps73 rfl ?_
  intro a hF
  have hS := Sep.refl W
  obtain ⟨v0, v1, v2, rfl, r0, r1, r2⟩ := hm
  obtain ⟨A_a, q_a, rfl, hq_a, hn_a⟩ := r0.sl; unfold maxLen at hn_a
  obtain ⟨A_b, q_b, rfl, hq_b, hn_b⟩ := r1.sl; unfold maxLen at hn_b
  obtain ⟨A_c, q_c, rfl, hq_c, hn_c⟩ := r2.sl; unfold maxLen at hn_c
  have hz1 := hz; unfold Sl.State.size at hz1
  refine ws fun K1 hK1 => ?_
  refine wl_box (cs := [_, _, _, _, _, _, _, _, _, _, _, _, _]) hF hS rfl (hF.ev rfl) rfl ?_; clear hF a; intro g1 w1 a hS_ hB_ hF; replace hS := hS_; clear hS_ hB_
  refine wl_alloc hF hS rfl zr32 ?_; clear hF a; intro g2 w2 a hS_ hB_ hF; replace hS := hS_; clear hS_ hB_
  refine wl_nil (hK1 _ _ ?_)
  refine ws fun K2 hK2 => ?_
  refine wl hF rfl rfl rfl (r_loadn ag32 (hF.ev rfl) (hS.box_rd (i := 1) rfl) sz32) ?_; clear hF a; intro a hF
  refine wl_alloc hF hS rfl zr32 ?_; clear hF a; intro g3 w3 a hS_ hB_ hF; replace hS := hS_; clear hS_ hB_
  refine wl_storew hF hS (i := 0) rfl (hF.ev rfl) (hF.ev rfl) sz32 rfl rfl ?_; intro w4 hS_; replace hS := hS_; clear hS_; dsimp only [List.set, Nat.reduceAdd] at hS
  refine wl_nil (hK2 _ _ ?_)
  refine wp_seq_k fun K3 hK3 => ?_
  refine wp_region_todo (is := [0, 1, 3, 4, 2, 6, 5, 7, 8, 9, 10, 11]) [] [7, 8, 9, 10, 11] (by kernel_rfl) hF hS ⟨trivial, by decide, by decide, by decide⟩ (by kernel_rfl) ?_; clear hF; intro hl_ wd hSd
  refine todo_pure hl_ (by kernel_rfl) rfl (gw0 rfl) rfl rfl rfl (fun a w_ hF => r_field fo32_1 (hF.ev rfl)) ?_
  refine todo_load [2, 5, 6, 7, 8, 9, 10, 11] hl_ (by kernel_rfl) rfl (gw0 rfl) rfl rfl rfl (fun a w_ hF hB_ => r_load1 sc24 (hF.ev rfl) ((hSd.ext hB_).box (i := 2) rfl rfl)) ?_
  refine todo_pure hl_ (by kernel_rfl) rfl (gw0 rfl) rfl rfl rfl (fun a w_ hF => r_field fo32_2 (hF.ev rfl)) ?_
  refine todo_load [5, 7, 8, 9, 10, 11] hl_ (by kernel_rfl) rfl (gw0 rfl) rfl rfl rfl (fun a w_ hF hB_ => r_load1 sc24 (hF.ev rfl) ((hSd.ext hB_).box (i := 2) rfl rfl)) ?_
  refine todo_mk hl_ rfl (by kernel_rfl) rfl rfl rfl rfl rfl (fun a w_ hF => r_call1 en135 (hF.ev rfl)) (fun w_ hS => cloneI_c (hS.rd r0) (by omega)) ?_; rintro s9
  refine todo_pure hl_ (by kernel_rfl) rfl (gw0 rfl) rfl rfl rfl (fun a w_ hF => r_field fo32_1 (hF.ev rfl)) ?_
  refine todo_mk hl_ rfl (by kernel_rfl) rfl rfl rfl rfl rfl (fun a w_ hF => r_call1 en135 (hF.ev rfl)) (fun w_ hS => cloneI_c (hS.rd r1) (by omega)) ?_; rintro s12
  refine todo_fin hl_ rfl (by kernel_rfl) (tl := [_, _, _, _, _]) rfl ?_; clear hS a; intro a w5 hF hA_
  have hS := hA_.sep; clear hA_
  clear hl_; try clear hSd
  try dsimp only [List.cons_append, List.nil_append, List.set] at hS
  try clear wd
  refine wl_store hF hS (i := 2) rfl sz24 (hF.ev rfl) (hF.ev rfl) rfl rfl ?_; intro w6 hS_; replace hS := hS_; clear hS_; dsimp only [List.set, Nat.reduceAdd] at hS
  refine wl hF rfl rfl rfl (r_field fo32_2 (hF.ev rfl)) ?_; clear hF a; intro a hF
  refine wl_store hF hS (i := 2) rfl sz24 (hF.ev rfl) (hF.ev rfl) rfl rfl ?_; intro w7 hS_; replace hS := hS_; clear hS_; dsimp only [List.set, Nat.reduceAdd] at hS
  refine wl hF rfl rfl rfl (r_field fo32_3 (hF.ev rfl)) ?_; clear hF a; intro a hF
  refine wl_store hF hS (i := 2) rfl sz30 (hF.ev rfl) ec rfl rfl ?_; intro w8 hS_; replace hS := hS_; clear hS_; dsimp only [List.set, Nat.reduceAdd] at hS
  refine wl_nil ⟨rfl, ?_⟩
  refine hK3 _ _ ?_
  refine wp_seq_k fun K4 hK4 => ?_
  refine ws fun K5 hK5 => ?_
  refine wl hF rfl rfl rfl (r_field fo32_3 (hF.ev rfl)) ?_; clear hF a; intro a hF
  refine wl hF rfl rfl rfl (r_load1 sc30 (hF.ev rfl) (hS.box (i := 4) rfl rfl)) ?_; clear hF a; intro a hF
  refine wl hF rfl rfl rfl (r_len ul30 (hF.ev rfl)) ?_; clear hF a; intro a hF
  refine wl_mvs (A := [_]) hF rfl ?_; clear hF a; intro a hF
  refine wl_nil (hK5 _ _ ?_)
  refine wp_block ?_
  replace hS := hS.own_nil threadEK
  replace hS := hS.pull (p := 3) rfl; dsimp only [List.eraseIdx] at hS
  replace hS := hS.pull (p := 1) rfl; dsimp only [List.eraseIdx] at hS
  have hL_ := ((((hF.nil.keep hF (t := 18) rfl).keep hF (t := 17) rfl).keep hF (t := 3) rfl).keep hF (t := 2) rfl)
  refine wp_loop_m (σ := Nat × Slv) (fun z L_ => (19, vi z.1) :: L_) (fun z l_ => (Own threadEK (sv z.2) (s.threads.take z.1)) :: (Box g3 (s.encv (sv s9) (sv s12) (sv z.2))) :: l_) (fun z => (z.1 ≤ s.threads.length)) (fun z => s.threads.length - z.1) (0, (none, 0, 0)) (hS) (hL_.keepE hF (t := 19) rfl rfl) ?_ ?_
  · exact Nat.zero_le _
  clear hF hS hL_ a
  rintro ⟨k, q⟩ a w9 hk hS hF; try dsimp only at hF; try dsimp only at hS; try dsimp only at hk
  dsimp only [Sl.State.encv] at hS
  refine ws fun K6 hK6 => ?_
  refine wl hF rfl rfl rfl (r_lss (hF.ev rfl) (hF.ev rfl)) ?_; clear hF a; intro a hF
  refine wl_nil (hK6 _ _ ?_)
  refine wp_seq_k fun K7 hK7 => ?_
  refine wc_fx (t := 20) hF rfl ?_ ?_ <;> clear hF <;> intro c20 hF <;> try simp only [zb1, zb2, zb3, zb4, zb5, zb6, zb7, zb8] at c20
  ·
    have hlt : k < s.threads.length := by omega
    have hx := at0_nat hlt
    have hc1 := crow_le1 (c := Sl.Thread.size) hx
    refine wp_skip ?_
    refine hK7 _ _ ?_
    refine wp_seq_k fun K8 hK8 => ?_
    refine wp_block ?_
    refine ws fun K9 hK9 => ?_
    obtain ⟨g21, o21, m21, q21, cs21, hv21, hm21, hl21, hk21, hz21, hc21⟩ := Rd.at (r2) (a := a) (X := .tmp 19) (hF.ev rfl) (by omega) (by omega)
    have hkk21 := hk21; obtain ⟨v21_0, v21_1, v21_2, v21_3, v21_4, rfl, r21_0, r21_1, r21_2, r21_3, r21_4⟩ := hk21
    obtain ⟨A21_0, q21_0, rfl, hq21_0, hn21_0⟩ := r21_0.sl; unfold maxLen at hn21_0
    obtain ⟨A21_1, q21_1, rfl, hq21_1, hn21_1⟩ := r21_1.sl; unfold maxLen at hn21_1
    obtain ⟨A21_2, q21_2, rfl, hq21_2, hn21_2⟩ := r21_2.sl; unfold maxLen at hn21_2
    obtain ⟨A21_3, q21_3, rfl, hq21_3, hn21_3⟩ := r21_3.sl; unfold maxLen at hn21_3
    obtain ⟨A21_4, q21_4, rfl, hq21_4, hn21_4⟩ := r21_4.sl; unfold maxLen at hn21_4
    refine wl hF rfl rfl rfl (r_index sl30 ((hF.ev rfl).trans hv21) (hF.ev rfl) (by omega) (by first | omega | (simp at hm21; omega))) ?_; clear hF a; intro a hF
    refine wl hF rfl rfl rfl (r_loadn ag53 (hF.ev rfl) (fun j_ u_ hu_ => cellB hS.old (hc21 j_ u_ hu_)) sz53) ?_; clear hF a; intro a hF
    refine wl_alloc hF hS rfl zr53 ?_; clear hF a; intro g4 w10 a hS_ hB_ hF; replace hS := hS_; clear hS_ hB_
    refine wl_storew hF hS (i := 0) rfl (hF.ev rfl) (hF.ev rfl) sz53 rfl rfl ?_; intro w11 hS_; replace hS := hS_; clear hS_; dsimp only [List.set, Nat.reduceAdd] at hS
    refine wl_nil (hK9 _ _ ?_)
    refine wp_region_todo (is := [0, 1, 2, 3, 4, 5, 6, 7]) [] [5, 6, 7] (by kernel_rfl) hF hS ⟨trivial, by decide, by decide, by decide⟩ (by kernel_rfl) ?_; clear hF; intro hl_ wd hSd
    refine todo_pure hl_ (by kernel_rfl) rfl (gw0 rfl) rfl rfl rfl (fun a w_ hF => r_field fo32_3 (hF.ev rfl)) ?_
    refine todo_load [5, 6, 7] hl_ (by kernel_rfl) rfl (gw0 rfl) rfl rfl rfl (fun a w_ hF hB_ => r_load1 sc30 (hF.ev rfl) ((hSd.ext hB_).box (i := 2) rfl rfl)) ?_
    refine todo_load [3, 4, 5, 6, 7] hl_ (by kernel_rfl) rfl (gw0 rfl) rfl rfl rfl (fun a w_ hF hB_ => r_loadn ag53 (hF.ev rfl) ((hSd.ext hB_).box_rd (i := 0) rfl) sz53) ?_
    refine todo_mk hl_ rfl (by kernel_rfl) rfl rfl rfl rfl rfl (fun a w_ hF => r_call1 en136 (hF.ev rfl)) (fun w_ hS => copyThread_c (hS.k hkk21) (by omega)) ?_; rintro vs26
    refine todo_op hl_ rfl (by kernel_rfl) rfl rfl rfl rfl rfl (fun a w_ hF hS => r_bslice (rawEK threadEK.sz) [.agg (threadEK.cells (at0 s.threads (k : Int)) vs26).toArray] [raw threadEK (at0 s.threads (k : Int)) vs26] rfl mk30 rfl ⟨rfl, (hF.ev rfl), trivial⟩ rfl rfl rfl rfl) ?_; intro gl_27
    refine todo_fin hl_ rfl (by kernel_rfl) (tl := [_, _, _]) rfl ?_; clear hS a; intro a w13 hF hA_
    have hS := hA_.sep; clear hA_
    clear hl_; try clear hSd
    try dsimp only [List.cons_append, List.nil_append, List.set] at hS
    try clear wd
    have hu_ := hS.own_rd (i := 0) rfl
    replace hS := hS.pull (p := 1) rfl; dsimp only [List.eraseIdx] at hS
    replace hS := hS.pull (p := 3) rfl; dsimp only [List.eraseIdx] at hS
    refine wl_appendn (ek := threadEK) hF hS rfl hu_ mk30 rfl (hF.ev rfl) (hF.ev rfl) (by simp; omega) (by unfold maxLen; simp; omega) ?_; clear hF a hu_; intro A_28 c_28 w14 a hS_ hF; replace hS := hS_; clear hS_
    refine wl hF rfl rfl rfl (r_field fo32_3 (hF.ev rfl)) ?_; clear hF a; intro a hF
    refine wl_store hF hS (i := 3) rfl sz30 (hF.ev rfl) (hF.ev rfl) rfl rfl ?_; intro w15 hS_; replace hS := hS_; clear hS_; dsimp only [List.set, Nat.reduceAdd] at hS
    refine wl_nil ⟨rfl, ?_⟩
    simp only [Exit.then, Exit.inBlock, ↓reduceIte]
    refine hK8 _ _ ?_
    refine wp_region_lit ?_
    refine wl hF rfl rfl rfl (r_add (hF.ev rfl) ec) ?_; clear hF a; intro a hF
    refine wl_mvs (A := [_]) hF rfl ?_; clear hF a; intro a hF
    refine wl_nil ?_
    try simp only [Exit.then, Exit.inBlock, ↓reduceIte]
    rw [← take_at0 (by omega)] at hS
    refine ⟨(k + 1, (_, _, _)), (by dsimp only; omega), (hS.pick [0, 3, 4, 5, 6, 7] (by decide) rfl), (((((hF.nil.keep hF (t := 18) rfl).keep hF (t := 17) rfl).keep hF (t := 3) rfl).keep hF (t := 2) rfl).keepE hF (t := 19) rfl (wk (by omega))), by dsimp only; omega⟩
  refine wp_exit ?_
  simp only [Exit.then, Exit.inBlock, ↓reduceIte]
  refine hK4 _ _ ?_
  refine ws fun K10 hK10 => ?_
  refine wl hF rfl rfl rfl (r_loadn ag32 (hF.ev rfl) (hS.box_rd (i := 1) rfl) sz32) ?_; clear hF a; intro a hF
  refine wl_storew hF hS (i := 4) rfl (hF.ev rfl) (hF.ev rfl) sz32 rfl rfl ?_; intro w16 hS_; replace hS := hS_; clear hS_; dsimp only [List.set, Nat.reduceAdd] at hS
  refine wl_nil (hK10 _ _ ?_)
  refine wp_ret ?_
  try simp only [Exit.then, Exit.inBlock, ↓reduceIte]
  obtain rfl : k = s.threads.length := by omega
  rw [List.take_length] at hS
  exact ret1c rfl ag32 hF hS (i := 4) rfl sz32 rfl ⟨[s9, s12, q], rfl, hS.part_of [3, 2, 0] (by decide) rfl⟩
end Go.Proofs.YtifhfodphoeeoaaGreat.Wk
namespace Go.Proofs.YtifhfodphoeeoaaGreat.Wk
open Go Go.RowKit Sl
set_option linter.unusedVariables false
set_option linter.unusedSimpArgs false
set_option maxRecDepth 20000
set_option maxHeartbeats 4000000 in
set_option maxRecDepth 20000 in
theorem stpStore_c {W w : World} {l : List Res} {g gt ot p : Nat} {v0 v1 v2 : Value} {s : Sl.State} {a_ v : Int} (hS : Sep W (Box g (s.encv v0 v1 v2) :: Own intEK v0 s.cells :: l) w) : Calls Tryz.prog 80 #[.agg #[.pointer (some ⟨g, 0, none⟩), .pointer (some ⟨gt, ot + p * 19, none⟩), vi (p : Int)], vi a_, vi v] w (Ret fun u w' => u = .tuple #[] ∧ Sep W (Box g ((putS s a_ v).encv v0 v1 v2) :: Own intEK v0 (putS s a_ v).cells :: l) w') := by
  refine calls_fr Tryz.func80 rfl Tryz.ntmps80 rfl ?_
  intro a hF
  obtain ⟨z0, rfl⟩ := hS.own_sv (q := 1) rfl
  have hl0 := hS.own_len (q := 1) rfl
  obtain ⟨A0, q0, e0, h0, hn0⟩ := (hS.own_rd (i := 1) rfl).sl; unfold maxLen at hn0
  refine ws fun K1 hK1 => ?_
  refine wl_box (cs := [_, _, _]) hF hS rfl (hF.ev rfl) rfl ?_; clear hF a; intro g1 w1 a hS_ hB_ hF; replace hS := hS_; clear hS_ hB_
  refine wl_nil (hK1 _ _ ?_)
  refine ws fun K2 hK2 => ?_
  refine wl_mvs (A := [_]) hF rfl ?_; clear hF a; intro a hF
  refine wl hF rfl rfl rfl (r_field fo63_0 (hF.ev rfl)) ?_; clear hF a; intro a hF
  refine wl hF rfl rfl rfl (r_load1 sc55 (hF.ev rfl) (hS.box (i := 0) rfl rfl)) ?_; clear hF a; intro a hF
  refine wl hF rfl rfl rfl (r_nilCheck (hF.ev rfl)) ?_; clear hF a; intro a hF
  refine wl hF rfl rfl rfl (r_field fo32_1 (hF.ev rfl)) ?_; clear hF a; intro a hF
  refine wl hF rfl rfl rfl (r_load1 sc24 (hF.ev rfl) (hS.box (i := 1) rfl rfl)) ?_; clear hF a; intro a hF
  refine wl hF rfl rfl rfl (r_len ul24 (hF.ev rfl)) ?_; clear hF a; intro a hF
  refine wl hF rfl rfl rfl (r_sub (hF.ev rfl) ec) ?_; clear hF a; intro a hF
  refine wl_call hF rfl rfl rfl (r_call3 en75 (hF.ev rfl) ec (hF.ev rfl)) (in_c _ _ _) ?_; clear hF a; rintro v w2 a ⟨rfl, hB_⟩ hF; replace hS := hS.ext hB_; clear hB_
  refine wl_nil (hK2 _ _ ?_)
  refine wc_fx (t := 14) hF rfl ?_ ?_ <;> clear hF <;> intro c14 hF <;> try simp only [zb1, zb2, zb3, zb4, zb5, zb6, zb7, zb8] at c14
  ·
    rw [w64_id (by omega) (by omega)] at c14
    refine wp_seq_k fun K3 hK3 => ?_
    refine ws fun K4 hK4 => ?_
    refine wl hF rfl rfl rfl (r_field fo63_0 (hF.ev rfl)) ?_; clear hF a; intro a hF
    refine wl hF rfl rfl rfl (r_load1 sc55 (hF.ev rfl) (hS.box (i := 0) rfl rfl)) ?_; clear hF a; intro a hF
    refine wl hF rfl rfl rfl (r_nilCheck (hF.ev rfl)) ?_; clear hF a; intro a hF
    refine wl hF rfl rfl rfl (r_field fo32_1 (hF.ev rfl)) ?_; clear hF a; intro a hF
    refine wl hF rfl rfl rfl (r_load1 sc24 (hF.ev rfl) (hS.box (i := 1) rfl rfl)) ?_; clear hF a; intro a hF
    refine wl_mvs (A := [_]) hF rfl ?_; clear hF a; intro a hF
    obtain ⟨g21, o21, m21, q21, hv21, hm21, hl21, hc21⟩ := Rd.atF ((hS.own_rd (i := 2) rfl)) (a := a) (X := .tmp 20) (hF.ev rfl) (by omega) (by omega)
    refine wl hF rfl rfl rfl (r_index sl24 ((hF.ev rfl).trans hv21) (hF.ev rfl) (by omega) (by first | omega | (simp at hm21; omega))) ?_; clear hF a; intro a hF
    refine wl hF rfl rfl rfl (r_load1 sc3 (hF.ev rfl) (hc21 0 _ rfl)) ?_; clear hF a; intro a hF
    refine wl_mvs (A := [_]) hF rfl ?_; clear hF a; intro a hF
    refine wl hF rfl rfl rfl (r_neq (hF.ev rfl) (hF.ev rfl)) ?_; clear hF a; intro a hF
    refine wl_nil (hK4 _ _ ?_)
    refine wc_fx (t := 24) hF rfl ?_ ?_ <;> clear hF <;> intro c24 hF <;> try simp only [zb1, zb2, zb3, zb4, zb5, zb6, zb7, zb8] at c24
    ·
      refine wp_region_lit ?_
      refine wl hF rfl rfl rfl (r_field fo63_0 (hF.ev rfl)) ?_; clear hF a; intro a hF
      refine wl hF rfl rfl rfl (r_load1 sc55 (hF.ev rfl) (hS.box (i := 0) rfl rfl)) ?_; clear hF a; intro a hF
      refine wl hF rfl rfl rfl (r_nilCheck (hF.ev rfl)) ?_; clear hF a; intro a hF
      refine wl hF rfl rfl rfl (r_field fo32_5 (hF.ev rfl)) ?_; clear hF a; intro a hF
      refine wl hF rfl rfl rfl (r_load1 sc3 (hF.ev rfl) (hS.box (i := 1) rfl rfl)) ?_; clear hF a; intro a hF
      refine wl hF rfl rfl rfl (r_add (hF.ev rfl) ec) ?_; clear hF a; intro a hF
      refine wl hF rfl rfl rfl (r_nilCheck (hF.ev rfl)) ?_; clear hF a; intro a hF
      refine wl hF rfl rfl rfl (r_field fo32_5 (hF.ev rfl)) ?_; clear hF a; intro a hF
      refine wl_store hF hS (i := 1) rfl sz3 (hF.ev rfl) (hF.ev rfl) rfl rfl ?_; intro w3 hS_; replace hS := hS_; clear hS_; dsimp only [List.set, Nat.reduceAdd] at hS
      refine wl_nil (hK3 _ _ ?_)
      refine wp_region_lit ?_
      refine wl hF rfl rfl rfl (r_field fo63_0 (hF.ev rfl)) ?_; clear hF a; intro a hF
      refine wl hF rfl rfl rfl (r_load1 sc55 (hF.ev rfl) (hS.box (i := 0) rfl rfl)) ?_; clear hF a; intro a hF
      refine wl hF rfl rfl rfl (r_nilCheck (hF.ev rfl)) ?_; clear hF a; intro a hF
      refine wl hF rfl rfl rfl (r_field fo32_1 (hF.ev rfl)) ?_; clear hF a; intro a hF
      refine wl hF rfl rfl rfl (r_load1 sc24 (hF.ev rfl) (hS.box (i := 1) rfl rfl)) ?_; clear hF a; intro a hF
      refine wl_mvs (A := [_, _]) hF rfl ?_; clear hF a; intro a hF
      obtain ⟨g40, o40, m40, q40, hv40, hm40, hl40, hc40⟩ := Rd.atF ((hS.own_rd (i := 2) rfl)) (a := a) (X := .tmp 38) (hF.ev rfl) (by omega) (by omega)
      refine wl hF rfl rfl rfl (r_index sl24 ((hF.ev rfl).trans hv40) (hF.ev rfl) (by omega) (by first | omega | (simp at hm40; omega))) ?_; clear hF a; intro a hF
      refine wl_istore (q := 2) hF hS rfl hv40 (by omega) (by omega) sz3 (hF.ev rfl) rfl (hF.ev rfl) ?_; intro w4 hS_; replace hS := hS_; clear hS_; dsimp only [List.set] at hS
      refine wl_nil ?_
      try simp only [Exit.then, Exit.inBlock, ↓reduceIte]
      first
        | (have e1 : putC s.cells a_ v = s.cells := if_neg (by omega); have e2 : putN s.cells a_ v s.changes = s.changes := if_neg (by omega); refine ret0n rfl hF ⟨rfl, ?_⟩; unfold putS; rw [e1, e2]; exact (Sep.headp (A := [_, _, _]) (B := [_, _]) hS [1, 2] (by decide) rfl rfl))
        | (have e1 : putC s.cells a_ v = _ := if_pos (by omega); have e2 : putN s.cells a_ v s.changes = s.changes := if_neg (fun h => h.2 c24); refine ret0n rfl hF ⟨rfl, ?_⟩; unfold putS; rw [e1, e2]; exact (Sep.headp (A := [_, _, _]) (B := [_, _]) hS [1, 2] (by decide) rfl rfl))
        | (have e1 : putC s.cells a_ v = _ := if_pos (by omega); have e2 : putN s.cells a_ v s.changes = _ := if_pos ⟨by omega, c24⟩; refine ret0n rfl hF ⟨rfl, ?_⟩; unfold putS; rw [e1, e2]; exact (Sep.headp (A := [_, _, _]) (B := [_, _]) hS [1, 2] (by decide) rfl rfl))
    refine wp_skip ?_
    refine hK3 _ _ ?_
    refine wp_region_lit ?_
    refine wl hF rfl rfl rfl (r_field fo63_0 (hF.ev rfl)) ?_; clear hF a; intro a hF
    refine wl hF rfl rfl rfl (r_load1 sc55 (hF.ev rfl) (hS.box (i := 0) rfl rfl)) ?_; clear hF a; intro a hF
    refine wl hF rfl rfl rfl (r_nilCheck (hF.ev rfl)) ?_; clear hF a; intro a hF
    refine wl hF rfl rfl rfl (r_field fo32_1 (hF.ev rfl)) ?_; clear hF a; intro a hF
    refine wl hF rfl rfl rfl (r_load1 sc24 (hF.ev rfl) (hS.box (i := 1) rfl rfl)) ?_; clear hF a; intro a hF
    refine wl_mvs (A := [_, _]) hF rfl ?_; clear hF a; intro a hF
    obtain ⟨g40, o40, m40, q40, hv40, hm40, hl40, hc40⟩ := Rd.atF ((hS.own_rd (i := 2) rfl)) (a := a) (X := .tmp 38) (hF.ev rfl) (by omega) (by omega)
    refine wl hF rfl rfl rfl (r_index sl24 ((hF.ev rfl).trans hv40) (hF.ev rfl) (by omega) (by first | omega | (simp at hm40; omega))) ?_; clear hF a; intro a hF
    refine wl_istore (q := 2) hF hS rfl hv40 (by omega) (by omega) sz3 (hF.ev rfl) rfl (hF.ev rfl) ?_; intro w5 hS_; replace hS := hS_; clear hS_; dsimp only [List.set] at hS
    refine wl_nil ?_
    try simp only [Exit.then, Exit.inBlock, ↓reduceIte]
    first
      | (have e1 : putC s.cells a_ v = s.cells := if_neg (by omega); have e2 : putN s.cells a_ v s.changes = s.changes := if_neg (by omega); refine ret0n rfl hF ⟨rfl, ?_⟩; unfold putS; rw [e1, e2]; exact (Sep.headp (A := [_, _, _]) (B := [_, _]) hS [1, 2] (by decide) rfl rfl))
      | (have e1 : putC s.cells a_ v = _ := if_pos (by omega); have e2 : putN s.cells a_ v s.changes = s.changes := if_neg (fun h => h.2 c24); refine ret0n rfl hF ⟨rfl, ?_⟩; unfold putS; rw [e1, e2]; exact (Sep.headp (A := [_, _, _]) (B := [_, _]) hS [1, 2] (by decide) rfl rfl))
      | (have e1 : putC s.cells a_ v = _ := if_pos (by omega); have e2 : putN s.cells a_ v s.changes = _ := if_pos ⟨by omega, c24⟩; refine ret0n rfl hF ⟨rfl, ?_⟩; unfold putS; rw [e1, e2]; exact (Sep.headp (A := [_, _, _]) (B := [_, _]) hS [1, 2] (by decide) rfl rfl))
  rw [w64_id (by omega) (by omega)] at c14
  refine wp_skip ?_
  try simp only [Exit.then, Exit.inBlock, ↓reduceIte]
  first
    | (have e1 : putC s.cells a_ v = s.cells := if_neg (by omega); have e2 : putN s.cells a_ v s.changes = s.changes := if_neg (by omega); refine ret0n rfl hF ⟨rfl, ?_⟩; unfold putS; rw [e1, e2]; exact (Sep.headp (A := [_, _, _]) (B := [_, _]) hS [1, 2] (by decide) rfl rfl))
    | (have e1 : putC s.cells a_ v = _ := if_pos (by omega); have e2 : putN s.cells a_ v s.changes = s.changes := if_neg (fun h => h.2 c24); refine ret0n rfl hF ⟨rfl, ?_⟩; unfold putS; rw [e1, e2]; exact (Sep.headp (A := [_, _, _]) (B := [_, _]) hS [1, 2] (by decide) rfl rfl))
    | (have e1 : putC s.cells a_ v = _ := if_pos (by omega); have e2 : putN s.cells a_ v s.changes = _ := if_pos ⟨by omega, c24⟩; refine ret0n rfl hF ⟨rfl, ?_⟩; unfold putS; rw [e1, e2]; exact (Sep.headp (A := [_, _, _]) (B := [_, _]) hS [1, 2] (by decide) rfl rfl))
set_option maxHeartbeats 4000000 in
set_option maxRecDepth 20000 in
theorem thClear_c {W w : World} {l : List Res} {gt ot mt ct p : Nat} {ts : List Sl.Thread} {t : Sl.Thread} (hp : p < ts.length) (hS : Sep W (Own threadEK (.slice (some ⟨gt, ot, none⟩) mt ct) (ts.set p (t)) :: l) w) : Calls Tryz.prog 139 #[.pointer (some ⟨gt, ot + p * 19, none⟩)] w (Ret fun u w' => u = .tuple #[] ∧ Sep W (Own threadEK (.slice (some ⟨gt, ot, none⟩) mt ct) (ts.set p (clearT t)) :: l) w') := by
  refine calls_fr Tryz.func139 rfl Tryz.ntmps139 rfl ?_
  intro a hF
  refine wp_region_lit ?_
  refine wl_mvs (A := [_, _, _, _, _, _, _, _]) hF rfl ?_; clear hF a; intro a hF
  refine wl hF rfl rfl rfl (r_nilCheck (hF.ev rfl)) ?_; clear hF a; intro a hF
  refine wl hF rfl rfl rfl (r_field fo53_4 (hF.ev rfl)) ?_; clear hF a; intro a hF
  refine wl_estore (q := 0) (j := 7) (⟨_, ⟨_, _, _⟩, ⟨_, _⟩, _, _, _, _, _, _, _, _, _, _, _, _, _⟩ : Sl.Thread) hF hS hp rfl sz3 (hF.ev rfl) rfl ec rfl (fun _ => rfl) (fun _ => by dsimp only [threadEK, Thread.encv, List.set] <;> rfl) (by intro _; rfl) ?_; intro w1 hS_; replace hS := hS_; clear hS_; dsimp only [List.set] at hS
  refine wl hF rfl rfl rfl (r_nilCheck (hF.ev rfl)) ?_; clear hF a; intro a hF
  refine wl hF rfl rfl rfl (r_field fo53_5 (hF.ev rfl)) ?_; clear hF a; intro a hF
  refine wl_estore (q := 0) (j := 8) (⟨_, ⟨_, _, _⟩, ⟨_, _⟩, _, _, _, _, _, _, _, _, _, _, _, _, _⟩ : Sl.Thread) hF hS hp rfl sz3 (hF.ev rfl) rfl ec rfl (fun _ => rfl) (fun _ => by dsimp only [threadEK, Thread.encv, List.set] <;> rfl) (by intro _; rfl) ?_; intro w2 hS_; replace hS := hS_; clear hS_; dsimp only [List.set] at hS
  refine wl hF rfl rfl rfl (r_nilCheck (hF.ev rfl)) ?_; clear hF a; intro a hF
  refine wl hF rfl rfl rfl (r_field fo53_6 (hF.ev rfl)) ?_; clear hF a; intro a hF
  refine wl_estore (q := 0) (j := 9) (⟨_, ⟨_, _, _⟩, ⟨_, _⟩, _, _, _, _, _, _, _, _, _, _, _, _, _⟩ : Sl.Thread) hF hS hp rfl sz3 (hF.ev rfl) rfl ec rfl (fun _ => rfl) (fun _ => by dsimp only [threadEK, Thread.encv, List.set] <;> rfl) (by intro _; rfl) ?_; intro w3 hS_; replace hS := hS_; clear hS_; dsimp only [List.set] at hS
  refine wl hF rfl rfl rfl (r_nilCheck (hF.ev rfl)) ?_; clear hF a; intro a hF
  refine wl hF rfl rfl rfl (r_field fo53_7 (hF.ev rfl)) ?_; clear hF a; intro a hF
  refine wl_estore (q := 0) (j := 10) (⟨_, ⟨_, _, _⟩, ⟨_, _⟩, _, _, _, _, _, _, _, _, _, _, _, _, _⟩ : Sl.Thread) hF hS hp rfl sz3 (hF.ev rfl) rfl ec rfl (fun _ => rfl) (fun _ => by dsimp only [threadEK, Thread.encv, List.set] <;> rfl) (by intro _; rfl) ?_; intro w4 hS_; replace hS := hS_; clear hS_; dsimp only [List.set] at hS
  refine wl hF rfl rfl rfl (r_nilCheck (hF.ev rfl)) ?_; clear hF a; intro a hF
  refine wl hF rfl rfl rfl (r_field fo53_8 (hF.ev rfl)) ?_; clear hF a; intro a hF
  refine wl_estore (q := 0) (j := 11) (⟨_, ⟨_, _, _⟩, ⟨_, _⟩, _, _, _, _, _, _, _, _, _, _, _, _, _⟩ : Sl.Thread) hF hS hp rfl sz3 (hF.ev rfl) rfl ec rfl (fun _ => rfl) (fun _ => by dsimp only [threadEK, Thread.encv, List.set] <;> rfl) (by intro _; rfl) ?_; intro w5 hS_; replace hS := hS_; clear hS_; dsimp only [List.set] at hS
  refine wl hF rfl rfl rfl (r_nilCheck (hF.ev rfl)) ?_; clear hF a; intro a hF
  refine wl hF rfl rfl rfl (r_field fo53_9 (hF.ev rfl)) ?_; clear hF a; intro a hF
  refine wl_estore (q := 0) (j := 12) (⟨_, ⟨_, _, _⟩, ⟨_, _⟩, _, _, _, _, _, _, _, _, _, _, _, _, _⟩ : Sl.Thread) hF hS hp rfl sz3 (hF.ev rfl) rfl ec rfl (fun _ => rfl) (fun _ => by dsimp only [threadEK, Thread.encv, List.set] <;> rfl) (by intro _; rfl) ?_; intro w6 hS_; replace hS := hS_; clear hS_; dsimp only [List.set] at hS
  refine wl hF rfl rfl rfl (r_nilCheck (hF.ev rfl)) ?_; clear hF a; intro a hF
  refine wl hF rfl rfl rfl (r_field fo53_10 (hF.ev rfl)) ?_; clear hF a; intro a hF
  refine wl_estore (q := 0) (j := 13) (⟨_, ⟨_, _, _⟩, ⟨_, _⟩, _, _, _, _, _, _, _, _, _, _, _, _, _⟩ : Sl.Thread) hF hS hp rfl sz3 (hF.ev rfl) rfl ec rfl (fun _ => rfl) (fun _ => by dsimp only [threadEK, Thread.encv, List.set] <;> rfl) (by intro _; rfl) ?_; intro w7 hS_; replace hS := hS_; clear hS_; dsimp only [List.set] at hS
  refine wl hF rfl rfl rfl (r_nilCheck (hF.ev rfl)) ?_; clear hF a; intro a hF
  refine wl hF rfl rfl rfl (r_field fo53_11 (hF.ev rfl)) ?_; clear hF a; intro a hF
  replace hS := hS.own_nil intEK
  refine wl_eslice (s := (_, _, _)) (k' := 0) (q := 0) (j := 14) (⟨_, ⟨_, _, _⟩, ⟨_, _⟩, _, _, _, _, _, _, _, _, _, _, _, _, _⟩ : Sl.Thread) (fun vs => [(_, _, _), vs.getD 1 (none, 0, 0), vs.getD 2 (none, 0, 0), vs.getD 3 (none, 0, 0), vs.getD 4 (none, 0, 0)]) hF hS hp rfl sz24 (hF.ev rfl) rfl ec (fun _ => rfl) (fun _ => by dsimp only [threadEK, Thread.encv, List.set] <;> rfl) (by intro _; rfl) (by intro _; rfl) ?_; intro w8 hS_; replace hS := hS_; clear hS_; dsimp only [List.set] at hS
  refine wl_nil ?_
  try simp only [Exit.then, Exit.inBlock, ↓reduceIte]
  exact ret0n rfl hF ⟨rfl, hS⟩
set_option maxHeartbeats 4000000 in
set_option maxRecDepth 20000 in
theorem thEnd_c {W w : World} {l : List Res} {gt ot mt ct p : Nat} {ts : List Sl.Thread} {t : Sl.Thread} (hp : p < ts.length) {r : Sl.Result} (hS : Sep W (Own threadEK (.slice (some ⟨gt, ot, none⟩) mt ct) (ts.set p (t)) :: l) w) : Calls Tryz.prog 83 #[.pointer (some ⟨gt, ot + p * 19, none⟩), .agg r.enc.toArray] w (Ret fun u w' => u = .tuple #[] ∧ Sep W (Own threadEK (.slice (some ⟨gt, ot, none⟩) mt ct) (ts.set p (endT t r.code r.value)) :: l) w') := by
  refine calls_fr Tryz.func83 rfl Tryz.ntmps83 rfl ?_
  intro a hF
  refine ws fun K1 hK1 => ?_
  refine wl_box (cs := [_, _]) hF hS rfl (hF.ev rfl) rfl ?_; clear hF a; intro g1 w1 a hS_ hB_ hF; replace hS := hS_; clear hS_ hB_
  refine wl_nil (hK1 _ _ ?_)
  refine ws fun K2 hK2 => ?_
  refine wl_mvs (A := [_]) hF rfl ?_; clear hF a; intro a hF
  replace hS := Sep.headp (A := [_, _]) (B := [_, _]) hS [1, 0] (by decide) rfl rfl
  refine wl_call hF rfl rfl rfl (r_call1 en139 (hF.ev rfl)) (thClear_c hp hS) ?_; clear hF a; rintro v w2 a ⟨rfl, hS_⟩ hF; replace hS := hS_; clear hS_
  refine wl_nil (hK2 _ _ ?_)
  refine wp_region_todo (is := [0, 1, 3, 4, 2, 5, 6, 7, 8]) [] [5, 6, 7, 8] (by kernel_rfl) hF hS ⟨trivial, by decide, by decide, by decide⟩ (by kernel_rfl) ?_; clear hF; intro hl_ wd hSd
  refine todo_pure hl_ (by kernel_rfl) rfl (gw0 rfl) rfl rfl rfl (fun a w_ hF => r_move (hF.ev rfl)) ?_
  refine todo_pure hl_ (by kernel_rfl) rfl (gw0 rfl) rfl rfl rfl (fun a w_ hF => r_move (hF.ev rfl)) ?_
  refine todo_pure hl_ (by kernel_rfl) rfl (gw0 rfl) rfl rfl rfl (fun a w_ hF => r_nilCheck (hF.ev rfl)) ?_
  refine todo_pure hl_ (by kernel_rfl) rfl (gw0 rfl) rfl rfl rfl (fun a w_ hF => r_field fo53_0 (hF.ev rfl)) ?_
  refine todo_fork [(2, [5, 6, 7, 8]), (5, [2, 6, 7, 8])] hl_ rfl (by kernel_rfl) (List.forall_mem_cons.2 ⟨?_, List.forall_mem_cons.2 ⟨?_, fun _ h_ => nomatch h_⟩⟩)
  ·
    refine op_ld rfl rfl (gw0 rfl) rfl rfl rfl (fun a w_ hF hS => r_loadn ag50 (hF.ev rfl) (hS.box_rd (i := 1) rfl) sz50) ?_
    refine todo_fin hl_ rfl (by kernel_rfl) (tl := [_, _, _, _]) rfl ?_; clear hS a; intro a w3 hF hA_
    have hS := hA_.sep; clear hA_
    clear hl_; try clear hSd
    try dsimp only [List.cons_append, List.nil_append, List.set] at hS
    try clear wd
    refine wl_estore (q := 0) (j := 0) (⟨_, ⟨_, _, _⟩, ⟨_, _⟩, _, _, _, _, _, _, _, _, _, _, _, _, _⟩ : Sl.Thread) hF hS hp rfl sz3 (hF.ev rfl) rfl ec rfl (fun _ => rfl) (fun _ => by dsimp only [threadEK, Thread.encv, List.set] <;> rfl) (by intro _; rfl) ?_; intro w4 hS_; replace hS := hS_; clear hS_; dsimp only [List.set] at hS
    refine wl hF rfl rfl rfl (r_nilCheck (hF.ev rfl)) ?_; clear hF a; intro a hF
    refine wl hF rfl rfl rfl (r_field fo53_2 (hF.ev rfl)) ?_; clear hF a; intro a hF
    refine wl_estoren (us := [_, _]) (q := 0) (j := 4) (⟨_, ⟨_, _, _⟩, ⟨_, _⟩, _, _, _, _, _, _, _, _, _, _, _, _, _⟩ : Sl.Thread) hF hS hp rfl sz50 (hF.ev rfl) rfl ((hF.ev rfl).trans rfl) rfl (fun _ => ⟨rfl, rfl⟩) (fun _ => by dsimp only [threadEK, Thread.encv, List.take, List.drop, List.cons_append, List.nil_append, List.length_cons, List.length_nil, Nat.reduceAdd] <;> rfl) (by intro _; rfl) ?_; intro w5 hS_; replace hS := hS_; clear hS_; dsimp only [List.set] at hS
    refine wl_nil ⟨rfl, ?_⟩
    try simp only [Exit.then, Exit.inBlock, ↓reduceIte]
    exact ret0n rfl hF ⟨rfl, (Sep.headp (A := [_, _]) (B := [_]) hS [0] (by decide) rfl rfl)⟩
  ·
    refine op_est (j := 0) (c0 := 0) (m' := [6, 7, 8]) (⟨_, ⟨_, _, _⟩, ⟨_, _⟩, _, _, _, _, _, _, _, _, _, _, _, _, _⟩ : Sl.Thread) rfl rfl (by kernel_rfl) hp rfl (fun a hF => (hF.ev rfl)) rfl (fun a hF => ec) sz3 rfl (fun _ => rfl) (fun _ => by dsimp only [threadEK, Thread.encv, List.set] <;> rfl) (by intro _; rfl) ?_; try clear hSd; try clear wd; intro wd hSd; try dsimp only [List.set] at hSd
    refine todo_load [6, 7, 8] hl_ (by kernel_rfl) rfl (gw0 rfl) rfl rfl rfl (fun a w_ hF hB_ => r_loadn ag50 (hF.ev rfl) ((hSd.ext hB_).box_rd (i := 1) rfl) sz50) ?_
    refine todo_fin hl_ rfl (by kernel_rfl) (tl := [_, _, _]) rfl ?_; clear hS a; intro a w6 hF hA_
    have hS := hA_.sep; clear hA_
    clear hl_; try clear hSd
    try dsimp only [List.cons_append, List.nil_append, List.set] at hS
    try clear wd
    refine wl hF rfl rfl rfl (r_nilCheck (hF.ev rfl)) ?_; clear hF a; intro a hF
    refine wl hF rfl rfl rfl (r_field fo53_2 (hF.ev rfl)) ?_; clear hF a; intro a hF
    refine wl_estoren (us := [_, _]) (q := 0) (j := 4) (⟨_, ⟨_, _, _⟩, ⟨_, _⟩, _, _, _, _, _, _, _, _, _, _, _, _, _⟩ : Sl.Thread) hF hS hp rfl sz50 (hF.ev rfl) rfl ((hF.ev rfl).trans rfl) rfl (fun _ => ⟨rfl, rfl⟩) (fun _ => by dsimp only [threadEK, Thread.encv, List.take, List.drop, List.cons_append, List.nil_append, List.length_cons, List.length_nil, Nat.reduceAdd] <;> rfl) (by intro _; rfl) ?_; intro w7 hS_; replace hS := hS_; clear hS_; dsimp only [List.set] at hS
    refine wl_nil ⟨rfl, ?_⟩
    try simp only [Exit.then, Exit.inBlock, ↓reduceIte]
    exact ret0n rfl hF ⟨rfl, (Sep.headp (A := [_, _]) (B := [_]) hS [0] (by decide) rfl rfl)⟩
end Go.Proofs.YtifhfodphoeeoaaGreat.Wk
namespace Go.Proofs.YtifhfodphoeeoaaGreat.Wk
open Go Go.RowKit Sl
set_option linter.unusedVariables false
set_option linter.unusedSimpArgs false
set_option maxRecDepth 20000
set_option maxHeartbeats 4000000 in
set_option maxRecDepth 20000 in
theorem l7Copy_c {W : World} {t : Sl.Thread} {cs : List Value} (hm : threadEK.K W t cs) (hz : t.size ≤ 1048576) : Calls Tryz.prog 66 #[.agg cs.toArray] W (Ret (Mk W (fun vs => .agg (threadEK.cells t vs).toArray) (fun vs => [Part threadEK t vs]))) := by
  refine calls_fr Tryz.func66 rfl Tryz.ntmps66 rfl ?_
  intro a hF
  have hS := Sep.refl W
  obtain ⟨v0, v1, v2, v3, v4, rfl, r0, r1, r2, r3, r4⟩ := hm
  obtain ⟨A_a, q_a, rfl, hq_a, hn_a⟩ := r0.sl; unfold maxLen at hn_a
  obtain ⟨A_b, q_b, rfl, hq_b, hn_b⟩ := r1.sl; unfold maxLen at hn_b
  obtain ⟨A_c, q_c, rfl, hq_c, hn_c⟩ := r2.sl; unfold maxLen at hn_c
  obtain ⟨A_d, q_d, rfl, hq_d, hn_d⟩ := r3.sl; unfold maxLen at hn_d
  obtain ⟨A_e, q_e, rfl, hq_e, hn_e⟩ := r4.sl; unfold maxLen at hn_e
  have hz1 := hz; unfold Sl.Thread.size at hz1
  refine ws fun K1 hK1 => ?_
  refine wl_box (cs := [_, _, _, _, _, _, _, _, _, _, _, _, _, _, _, _, _, _, _]) hF hS rfl (hF.ev rfl) rfl ?_; clear hF a; intro g1 w1 a hS_ hB_ hF; replace hS := hS_; clear hS_ hB_
  refine wl_alloc hF hS rfl zr53 ?_; clear hF a; intro g2 w2 a hS_ hB_ hF; replace hS := hS_; clear hS_ hB_
  refine wl_nil (hK1 _ _ ?_)
  refine ws fun K2 hK2 => ?_
  refine wl hF rfl rfl rfl (r_loadn ag53 (hF.ev rfl) (hS.box_rd (i := 1) rfl) sz53) ?_; clear hF a; intro a hF
  refine wl_alloc hF hS rfl zr53 ?_; clear hF a; intro g3 w3 a hS_ hB_ hF; replace hS := hS_; clear hS_ hB_
  refine wl_storew hF hS (i := 0) rfl (hF.ev rfl) (hF.ev rfl) sz53 rfl rfl ?_; intro w4 hS_; replace hS := hS_; clear hS_; dsimp only [List.set, Nat.reduceAdd] at hS
  refine wl_nil (hK2 _ _ ?_)
  refine ws fun K3 hK3 => ?_
  refine wl_bslice intEK [] [] rfl hF hS rfl mk24 rfl trivial rfl rfl rfl rfl ?_; clear hF a; intro gl_5 w5 a hS_ hF; replace hS := hS_; clear hS_
  refine wl hF rfl rfl rfl (r_field fo53_11 (hF.ev rfl)) ?_; clear hF a; intro a hF
  refine wl hF rfl rfl rfl (r_load1 sc24 (hF.ev rfl) (hS.box (i := 3) rfl rfl)) ?_; clear hF a; intro a hF
  refine wl_append0 hF hS rfl (hS.rd r0) mk24 rfl (by omega) (by unfold maxLen; omega) (hF.ev rfl) (hF.ev rfl) ?_; clear hF a; intro s8 w6 a hS_ hF; replace hS := hS_; clear hS_
  refine wl hF rfl rfl rfl (r_field fo53_11 (hF.ev rfl)) ?_; clear hF a; intro a hF
  refine wl_store hF hS (i := 2) rfl sz24 (hF.ev rfl) (hF.ev rfl) rfl rfl ?_; intro w7 hS_; replace hS := hS_; clear hS_; dsimp only [List.set, Nat.reduceAdd] at hS
  refine wl_nil (hK3 _ _ ?_)
  refine ws fun K4 hK4 => ?_
  refine wl_bslice intEK [] [] rfl hF hS rfl mk24 rfl trivial rfl rfl rfl rfl ?_; clear hF a; intro gl_10 w8 a hS_ hF; replace hS := hS_; clear hS_
  refine wl hF rfl rfl rfl (r_field fo53_12 (hF.ev rfl)) ?_; clear hF a; intro a hF
  refine wl hF rfl rfl rfl (r_load1 sc24 (hF.ev rfl) (hS.box (i := 5) rfl rfl)) ?_; clear hF a; intro a hF
  refine wl_append0 hF hS rfl (hS.rd r1) mk24 rfl (by omega) (by unfold maxLen; omega) (hF.ev rfl) (hF.ev rfl) ?_; clear hF a; intro s13 w9 a hS_ hF; replace hS := hS_; clear hS_
  refine wl hF rfl rfl rfl (r_field fo53_12 (hF.ev rfl)) ?_; clear hF a; intro a hF
  refine wl_store hF hS (i := 4) rfl sz24 (hF.ev rfl) (hF.ev rfl) rfl rfl ?_; intro w10 hS_; replace hS := hS_; clear hS_; dsimp only [List.set, Nat.reduceAdd] at hS
  refine wl_nil (hK4 _ _ ?_)
  refine ws fun K5 hK5 => ?_
  refine wl_bslice entryEK [] [] rfl hF hS rfl mk51 rfl trivial rfl rfl rfl rfl ?_; clear hF a; intro gl_15 w11 a hS_ hF; replace hS := hS_; clear hS_
  refine wl hF rfl rfl rfl (r_field fo53_13 (hF.ev rfl)) ?_; clear hF a; intro a hF
  refine wl hF rfl rfl rfl (r_load1 sc51 (hF.ev rfl) (hS.box (i := 7) rfl rfl)) ?_; clear hF a; intro a hF
  refine wl_append0 hF hS rfl (hS.rd r2) mk51 rfl (by omega) (by unfold maxLen; omega) (hF.ev rfl) (hF.ev rfl) ?_; clear hF a; intro s18 w12 a hS_ hF; replace hS := hS_; clear hS_
  refine wl hF rfl rfl rfl (r_field fo53_13 (hF.ev rfl)) ?_; clear hF a; intro a hF
  refine wl_store hF hS (i := 6) rfl sz51 (hF.ev rfl) (hF.ev rfl) rfl rfl ?_; intro w13 hS_; replace hS := hS_; clear hS_; dsimp only [List.set, Nat.reduceAdd] at hS
  refine wl_nil (hK5 _ _ ?_)
  refine ws fun K6 hK6 => ?_
  refine wl_bslice entryEK [] [] rfl hF hS rfl mk51 rfl trivial rfl rfl rfl rfl ?_; clear hF a; intro gl_20 w14 a hS_ hF; replace hS := hS_; clear hS_
  refine wl hF rfl rfl rfl (r_field fo53_14 (hF.ev rfl)) ?_; clear hF a; intro a hF
  refine wl hF rfl rfl rfl (r_load1 sc51 (hF.ev rfl) (hS.box (i := 9) rfl rfl)) ?_; clear hF a; intro a hF
  refine wl_append0 hF hS rfl (hS.rd r3) mk51 rfl (by omega) (by unfold maxLen; omega) (hF.ev rfl) (hF.ev rfl) ?_; clear hF a; intro s23 w15 a hS_ hF; replace hS := hS_; clear hS_
  refine wl hF rfl rfl rfl (r_field fo53_14 (hF.ev rfl)) ?_; clear hF a; intro a hF
  refine wl_store hF hS (i := 8) rfl sz51 (hF.ev rfl) (hF.ev rfl) rfl rfl ?_; intro w16 hS_; replace hS := hS_; clear hS_; dsimp only [List.set, Nat.reduceAdd] at hS
  refine wl_nil (hK6 _ _ ?_)
  refine ws fun K7 hK7 => ?_
  refine wl_bslice intEK [] [] rfl hF hS rfl mk24 rfl trivial rfl rfl rfl rfl ?_; clear hF a; intro gl_25 w17 a hS_ hF; replace hS := hS_; clear hS_
  refine wl hF rfl rfl rfl (r_field fo53_15 (hF.ev rfl)) ?_; clear hF a; intro a hF
  refine wl hF rfl rfl rfl (r_load1 sc24 (hF.ev rfl) (hS.box (i := 11) rfl rfl)) ?_; clear hF a; intro a hF
  refine wl_append0 hF hS rfl (hS.rd r4) mk24 rfl (by omega) (by unfold maxLen; omega) (hF.ev rfl) (hF.ev rfl) ?_; clear hF a; intro s28 w18 a hS_ hF; replace hS := hS_; clear hS_
  refine wl hF rfl rfl rfl (r_field fo53_15 (hF.ev rfl)) ?_; clear hF a; intro a hF
  refine wl_store hF hS (i := 10) rfl sz24 (hF.ev rfl) (hF.ev rfl) rfl rfl ?_; intro w19 hS_; replace hS := hS_; clear hS_; dsimp only [List.set, Nat.reduceAdd] at hS
  refine wl_nil (hK7 _ _ ?_)
  refine ws fun K8 hK8 => ?_
  refine wl hF rfl rfl rfl (r_loadn ag53 (hF.ev rfl) (hS.box_rd (i := 10) rfl) sz53) ?_; clear hF a; intro a hF
  refine wl_storew hF hS (i := 11) rfl (hF.ev rfl) (hF.ev rfl) sz53 rfl rfl ?_; intro w20 hS_; replace hS := hS_; clear hS_; dsimp only [List.set, Nat.reduceAdd] at hS
  refine wl_nil (hK8 _ _ ?_)
  refine wp_ret ?_
  try simp only [Exit.then, Exit.inBlock, ↓reduceIte]
  exact ret1c rfl ag53 hF hS (i := 11) rfl sz53 rfl ⟨[s8, s13, s18, s23, s28], rfl, hS.part_of [8, 6, 4, 2, 0] (by decide) rfl⟩
set_option maxHeartbeats 4000000 in
set_option maxRecDepth 20000 in
theorem l8Copy_c {W : World} {s : Sl.State} {cs : List Value} (hm : stateEK.K W s cs) (hz : (s.size : Int) ≤ 1048576) : Calls Tryz.prog 31 #[.agg cs.toArray] W (Ret (Mk W (fun vs => .agg (stateEK.cells s vs).toArray) (fun vs => [Part stateEK s vs]))) := by
  refine calls_fr Tryz.func31 rfl Tryz.ntmps31 rfl ?_
  intro a hF
  have hS := Sep.refl W
  obtain ⟨v0, v1, v2, rfl, r0, r1, r2⟩ := hm
  obtain ⟨A_a, q_a, rfl, hq_a, hn_a⟩ := r0.sl; unfold maxLen at hn_a
  obtain ⟨A_b, q_b, rfl, hq_b, hn_b⟩ := r1.sl; unfold maxLen at hn_b
  obtain ⟨A_c, q_c, rfl, hq_c, hn_c⟩ := r2.sl; unfold maxLen at hn_c
  have hz1 := hz; unfold Sl.State.size at hz1
  refine ws fun K1 hK1 => ?_
  refine wl_box (cs := [_, _, _, _, _, _, _, _, _, _, _, _, _]) hF hS rfl (hF.ev rfl) rfl ?_; clear hF a; intro g1 w1 a hS_ hB_ hF; replace hS := hS_; clear hS_ hB_
  refine wl_alloc hF hS rfl zr32 ?_; clear hF a; intro g2 w2 a hS_ hB_ hF; replace hS := hS_; clear hS_ hB_
  refine wl_nil (hK1 _ _ ?_)
  refine ws fun K2 hK2 => ?_
  refine wl hF rfl rfl rfl (r_loadn ag32 (hF.ev rfl) (hS.box_rd (i := 1) rfl) sz32) ?_; clear hF a; intro a hF
  refine wl_alloc hF hS rfl zr32 ?_; clear hF a; intro g3 w3 a hS_ hB_ hF; replace hS := hS_; clear hS_ hB_
  refine wl_storew hF hS (i := 0) rfl (hF.ev rfl) (hF.ev rfl) sz32 rfl rfl ?_; intro w4 hS_; replace hS := hS_; clear hS_; dsimp only [List.set, Nat.reduceAdd] at hS
  refine wl_nil (hK2 _ _ ?_)
  refine ws fun K3 hK3 => ?_
  refine wl_bslice intEK [] [] rfl hF hS rfl mk24 rfl trivial rfl rfl rfl rfl ?_; clear hF a; intro gl_7 w5 a hS_ hF; replace hS := hS_; clear hS_
  refine wl hF rfl rfl rfl (r_field fo32_1 (hF.ev rfl)) ?_; clear hF a; intro a hF
  refine wl hF rfl rfl rfl (r_load1 sc24 (hF.ev rfl) (hS.box (i := 3) rfl rfl)) ?_; clear hF a; intro a hF
  refine wl_append0 hF hS rfl (hS.rd r0) mk24 rfl (by omega) (by unfold maxLen; omega) (hF.ev rfl) (hF.ev rfl) ?_; clear hF a; intro s10 w6 a hS_ hF; replace hS := hS_; clear hS_
  refine wl hF rfl rfl rfl (r_field fo32_1 (hF.ev rfl)) ?_; clear hF a; intro a hF
  refine wl_store hF hS (i := 2) rfl sz24 (hF.ev rfl) (hF.ev rfl) rfl rfl ?_; intro w7 hS_; replace hS := hS_; clear hS_; dsimp only [List.set, Nat.reduceAdd] at hS
  refine wl_nil (hK3 _ _ ?_)
  refine ws fun K4 hK4 => ?_
  refine wl_bslice intEK [] [] rfl hF hS rfl mk24 rfl trivial rfl rfl rfl rfl ?_; clear hF a; intro gl_12 w8 a hS_ hF; replace hS := hS_; clear hS_
  refine wl hF rfl rfl rfl (r_field fo32_2 (hF.ev rfl)) ?_; clear hF a; intro a hF
  refine wl hF rfl rfl rfl (r_load1 sc24 (hF.ev rfl) (hS.box (i := 5) rfl rfl)) ?_; clear hF a; intro a hF
  refine wl_append0 hF hS rfl (hS.rd r1) mk24 rfl (by omega) (by unfold maxLen; omega) (hF.ev rfl) (hF.ev rfl) ?_; clear hF a; intro s15 w9 a hS_ hF; replace hS := hS_; clear hS_
  refine wl hF rfl rfl rfl (r_field fo32_2 (hF.ev rfl)) ?_; clear hF a; intro a hF
  refine wl_store hF hS (i := 4) rfl sz24 (hF.ev rfl) (hF.ev rfl) rfl rfl ?_; intro w10 hS_; replace hS := hS_; clear hS_; dsimp only [List.set, Nat.reduceAdd] at hS
  refine wl_nil (hK4 _ _ ?_)
  refine ws fun K5 hK5 => ?_
  refine wl_bslice (rawEK 19) [] [] rfl hF hS rfl mk30 rfl trivial rfl rfl rfl rfl ?_; clear hF a; intro gl_17 w11 a hS_ hF; replace hS := hS_; clear hS_
  replace hS := hS.tail.own_nilA threadEK (some ⟨gl_17, 0, none⟩)
  refine wl hF rfl rfl rfl (r_field fo32_3 (hF.ev rfl)) ?_; clear hF a; intro a hF
  refine wl_store hF hS (i := 5) rfl sz30 (hF.ev rfl) (hF.ev rfl) rfl rfl ?_; intro w12 hS_; replace hS := hS_; clear hS_; dsimp only [List.set, Nat.reduceAdd] at hS
  refine wl_nil (hK5 _ _ ?_)
  refine wp_seq_k fun K6 hK6 => ?_
  refine ws fun K7 hK7 => ?_
  refine wl_mvs (A := [_]) hF rfl ?_; clear hF a; intro a hF
  refine wl_nil (hK7 _ _ ?_)
  refine wp_block ?_
  replace hS := hS.pull (p := 5) rfl; dsimp only [List.eraseIdx] at hS
  replace hS := hS.pull (p := 1) rfl; dsimp only [List.eraseIdx] at hS
  have hL_ := (((hF.nil.keep hF (t := 3) rfl).keep hF (t := 2) rfl).keep hF (t := 1) rfl)
  refine wp_loop_m (σ := Nat × Slv) (fun z L_ => (4, vi z.1) :: L_) (fun z l_ => (Own threadEK (sv z.2) (s.threads.take z.1)) :: (Box g3 (s.encv (sv s10) (sv s15) (sv z.2))) :: l_) (fun z => (z.1 ≤ s.threads.length)) (fun z => s.threads.length - z.1) (0, (_, _, _)) (hS) (hL_.keepE hF (t := 4) rfl rfl) ?_ ?_
  · exact Nat.zero_le _
  clear hF hS hL_ a
  rintro ⟨k, q⟩ a w13 hk hS hF; try dsimp only at hF; try dsimp only at hS; try dsimp only at hk
  dsimp only [Sl.State.encv] at hS
  refine wp_seq_k fun K8 hK8 => ?_
  refine ws fun K9 hK9 => ?_
  refine wl_mvs (A := [_]) hF rfl ?_; clear hF a; intro a hF
  refine wl hF rfl rfl rfl (r_field fo32_3 (hF.ev rfl)) ?_; clear hF a; intro a hF
  refine wl hF rfl rfl rfl (r_load1 sc30 (hF.ev rfl) (hS.box (i := 7) rfl rfl)) ?_; clear hF a; intro a hF
  refine wl hF rfl rfl rfl (r_len ul30 (hF.ev rfl)) ?_; clear hF a; intro a hF
  refine wl hF rfl rfl rfl (r_lss (hF.ev rfl) (hF.ev rfl)) ?_; clear hF a; intro a hF
  refine wl_nil (hK9 _ _ ?_)
  refine wc_fx (t := 23) hF rfl ?_ ?_ <;> clear hF <;> intro c23 hF <;> try simp only [zb1, zb2, zb3, zb4, zb5, zb6, zb7, zb8] at c23
  ·
    have hlt : k < s.threads.length := by omega
    have hx := at0_nat hlt
    have hc1 := crow_le1 (c := Sl.Thread.size) hx
    refine wp_skip ?_
    refine hK8 _ _ ?_
    refine wp_seq_k fun K10 hK10 => ?_
    refine wp_block ?_
    refine ws fun K11 hK11 => ?_
    refine wl hF rfl rfl rfl (r_field fo32_3 (hF.ev rfl)) ?_; clear hF a; intro a hF
    refine wl hF rfl rfl rfl (r_load1 sc30 (hF.ev rfl) (hS.box (i := 7) rfl rfl)) ?_; clear hF a; intro a hF
    refine wl_mvs (A := [_]) hF rfl ?_; clear hF a; intro a hF
    obtain ⟨g29, o29, m29, q29, cs29, hv29, hm29, hl29, hk29, hz29, hc29⟩ := Rd.at (r2) (a := a) (X := .tmp 28) (hF.ev rfl) (by omega) (by omega)
    have hkk29 := hk29; obtain ⟨v29_0, v29_1, v29_2, v29_3, v29_4, rfl, r29_0, r29_1, r29_2, r29_3, r29_4⟩ := hk29
    refine wl hF rfl rfl rfl (r_index sl30 ((hF.ev rfl).trans hv29) (hF.ev rfl) (by omega) (by first | omega | (simp at hm29; omega))) ?_; clear hF a; intro a hF
    refine wl hF rfl rfl rfl (r_loadn ag53 (hF.ev rfl) (fun j_ u_ hu_ => cellB hS.old (hc29 j_ u_ hu_)) sz53) ?_; clear hF a; intro a hF
    refine wl_mk hF hS rfl rfl rfl (r_call1 en66 (hF.ev rfl)) (l7Copy_c (hS.k hkk29) (by omega)) ?_; clear hF a; rintro vs31 w14 a hS_ hF; replace hS := hS_; clear hS_; dsimp only [List.cons_append, List.nil_append] at hS
    refine wl_alloc hF hS rfl zr53 ?_; clear hF a; intro g4 w15 a hS_ hB_ hF; replace hS := hS_; clear hS_ hB_
    refine wl_storew hF hS (i := 0) rfl (hF.ev rfl) (hF.ev rfl) sz53 rfl rfl ?_; intro w16 hS_; replace hS := hS_; clear hS_; dsimp only [List.set, Nat.reduceAdd] at hS
    refine wl_nil (hK11 _ _ ?_)
    refine wp_region_lit ?_
    refine wl hF rfl rfl rfl (r_field fo32_3 (hF.ev rfl)) ?_; clear hF a; intro a hF
    refine wl hF rfl rfl rfl (r_load1 sc30 (hF.ev rfl) (hS.box (i := 3) rfl rfl)) ?_; clear hF a; intro a hF
    refine wl hF rfl rfl rfl (r_loadn ag53 (hF.ev rfl) (hS.box_rd (i := 0) rfl) sz53) ?_; clear hF a; intro a hF
    refine wl_bslice (rawEK threadEK.sz) [.agg (threadEK.cells (at0 s.threads (k : Int)) vs31).toArray] [raw threadEK (at0 s.threads (k : Int)) vs31] rfl hF hS rfl mk30 rfl ⟨rfl, (hF.ev rfl), trivial⟩ rfl rfl rfl rfl ?_; clear hF a; intro gl_35 w17 a hS_ hF; replace hS := hS_; clear hS_
    have hu_ := hS.own_rd (i := 0) rfl
    replace hS := hS.pull (p := 2) rfl; dsimp only [List.eraseIdx] at hS
    replace hS := hS.pull (p := 3) rfl; dsimp only [List.eraseIdx] at hS
    refine wl_appendn (ek := threadEK) hF hS rfl hu_ mk30 rfl (hF.ev rfl) (hF.ev rfl) (by simp; omega) (by unfold maxLen; simp; omega) ?_; clear hF a hu_; intro A_36 c_36 w18 a hS_ hF; replace hS := hS_; clear hS_
    refine wl hF rfl rfl rfl (r_field fo32_3 (hF.ev rfl)) ?_; clear hF a; intro a hF
    refine wl_store hF hS (i := 3) rfl sz30 (hF.ev rfl) (hF.ev rfl) rfl rfl ?_; intro w19 hS_; replace hS := hS_; clear hS_; dsimp only [List.set, Nat.reduceAdd] at hS
    refine wl_nil ?_
    simp only [Exit.then, Exit.inBlock, ↓reduceIte]
    refine hK10 _ _ ?_
    refine wp_region_lit ?_
    refine wl_mvs (A := [_]) hF rfl ?_; clear hF a; intro a hF
    refine wl hF rfl rfl rfl (r_add (hF.ev rfl) ec) ?_; clear hF a; intro a hF
    refine wl_mvs (A := [_]) hF rfl ?_; clear hF a; intro a hF
    refine wl_nil ?_
    try simp only [Exit.then, Exit.inBlock, ↓reduceIte]
    rw [← take_at0 (by omega)] at hS
    refine ⟨(k + 1, (_, _, _)), (by dsimp only; omega), (hS.pick [0, 3, 4, 5, 6, 7, 8, 9] (by decide) rfl), ((((hF.nil.keep hF (t := 3) rfl).keep hF (t := 2) rfl).keep hF (t := 1) rfl).keepE hF (t := 4) rfl (wk (by omega))), by dsimp only; omega⟩
  refine wp_exit ?_
  simp only [Exit.then, Exit.inBlock, ↓reduceIte]
  refine hK6 _ _ ?_
  refine ws fun K12 hK12 => ?_
  refine wl hF rfl rfl rfl (r_loadn ag32 (hF.ev rfl) (hS.box_rd (i := 1) rfl) sz32) ?_; clear hF a; intro a hF
  refine wl_storew hF hS (i := 6) rfl (hF.ev rfl) (hF.ev rfl) sz32 rfl rfl ?_; intro w20 hS_; replace hS := hS_; clear hS_; dsimp only [List.set, Nat.reduceAdd] at hS
  refine wl_nil (hK12 _ _ ?_)
  refine wp_ret ?_
  try simp only [Exit.then, Exit.inBlock, ↓reduceIte]
  obtain rfl : k = s.threads.length := by omega
  rw [List.take_length] at hS
  exact ret1c rfl ag32 hF hS (i := 6) rfl sz32 rfl ⟨[s10, s15, q], rfl, hS.part_of [4, 2, 0] (by decide) rfl⟩
end Go.Proofs.YtifhfodphoeeoaaGreat.Wk
namespace Go.Proofs.YtifhfodphoeeoaaGreat.Wk
open Go Go.RowKit Sl
set_option linter.unusedVariables false
set_option linter.unusedSimpArgs false
set_option maxRecDepth 20000
def stepped (s : Sl.State) : Sl.State := { s with steps := IntKind.i64.wrap (s.steps + 1) }
theorem running_of {s : Sl.State} {p : Int} (h : isRunning s p = true) : stateOk s = true ∧ (0 ≤ p ∧ p < s.threads.length) := by
  unfold isRunning at h
  simp only [Bool.and_eq_true, decide_eq_true_eq] at h
  exact ⟨h.1.1, by omega⟩
end Go.Proofs.YtifhfodphoeeoaaGreat.Wk
namespace Go.Proofs.YtifhfodphoeeoaaGreat.Wk
open Go Go.RowKit Sl
set_option linter.unusedVariables false
set_option linter.unusedSimpArgs false
set_option maxRecDepth 20000
def stepI (isf : Int → Bool) (stf : Sl.State → Nat → Sl.State) (s : Sl.State) (p : Int) : Sl.State × Bool := if isRunning s p = true ∧ isf (at0 s.threads p).pc = true then (stepped (stf s p.toNat), true) else (s, false)
set_option maxHeartbeats 4000000 in
set_option maxRecDepth 20000 in
theorem stepIf_c {W : World} {s : Sl.State} {cs : List Value} {p : Int} (hm : stateEK.K W s cs) (hw : s.wf) (hz : (s.size : Int) ≤ 1048576) (hp0 : int64 p) {fi fs : FuncId} {ci cf : Array Value} {isf : Int → Bool} {stf : Sl.State → Nat → Sl.State} (hei : enterB Tryz.prog fi = true) (hef : enterB Tryz.prog fs = true) (hi : ∀ (w : World) (n : Int), Below W.heap.size W w → Calls Tryz.prog fi (#[vi n] ++ ci) w (Ret fun v w' => v = .bool (isf n) ∧ Below w.heap.size w w')) (hf : ∀ (p' : Nat) (z0 z1 : Slv) (gt ot mt ct g : Nat) (l : List Res) (w : World), stateOk s = true → p = (p' : Int) → p' < s.threads.length → mt = s.threads.length → isf (at0 s.threads p).pc = true → Sep W (Box g ((s).encv (sv z0) (sv z1) (.slice (some ⟨gt, ot, none⟩) mt ct)) :: Own intEK (sv z0) (s).cells :: Own intEK (sv z1) (s).generations :: Own threadEK (.slice (some ⟨gt, ot, none⟩) mt ct) (s.threads.set p' (at0 s.threads p)) :: l) w → Calls Tryz.prog fs (#[.agg #[.pointer (some ⟨g, 0, none⟩), .pointer (some ⟨gt, ot + p' * 19, none⟩), vi (p' : Int)]] ++ cf) w (Ret fun v w' => v = .tuple #[] ∧ Sep W (Box g ((stf s p').encv (sv z0) (sv z1) (.slice (some ⟨gt, ot, none⟩) mt ct)) :: Own intEK (sv z0) (stf s p').cells :: Own intEK (sv z1) (stf s p').generations :: Own threadEK (.slice (some ⟨gt, ot, none⟩) mt ct) (stf s p').threads :: l) w')) : Calls Tryz.prog 38 #[.agg cs.toArray, vi p, .func (.func fi) #[] ci, .func (.func fs) #[] cf] W (Ret (Mk W (fun vs => .tuple #[.agg (stateEK.cells (stepI isf stf s p).1 vs).toArray, .bool (stepI isf stf s p).2]) (fun vs => [Part stateEK (stepI isf stf s p).1 vs]))) := by
  refine calls_fr Tryz.func38 rfl Tryz.ntmps38 rfl ?_
  intro a hF
  have hS := Sep.refl W
  obtain ⟨v0, v1, v2, rfl, r0, r1, r2⟩ := hm
  have hm : stateEK.K W s (s.encv v0 v1 v2) := ⟨_, _, _, rfl, r0, r1, r2⟩
  obtain ⟨A_a, q_a, rfl, hq_a, hn_a⟩ := r0.sl; unfold maxLen at hn_a
  obtain ⟨A_b, q_b, rfl, hq_b, hn_b⟩ := r1.sl; unfold maxLen at hn_b
  obtain ⟨A_c, q_c, rfl, hq_c, hn_c⟩ := r2.sl; unfold maxLen at hn_c
  refine ws fun K1 hK1 => ?_
  refine wl_box (cs := [_, _, _, _, _, _, _, _, _, _, _, _, _]) hF hS rfl (hF.ev rfl) rfl ?_; clear hF a; intro g1 w1 a hS_ hB_ hF; replace hS := hS_; clear hS_ hB_
  refine wl_alloc hF hS rfl zr32 ?_; clear hF a; intro g2 w2 a hS_ hB_ hF; replace hS := hS_; clear hS_ hB_
  refine wl_mvs (A := [_]) hF rfl ?_; clear hF a; intro a hF
  refine wl_nil (hK1 _ _ ?_)
  refine ws fun K2 hK2 => ?_
  refine wl hF rfl rfl rfl (r_loadn ag32 (hF.ev rfl) (hS.box_rd (i := 1) rfl) sz32) ?_; clear hF a; intro a hF
  refine wl_mk hF hS rfl rfl rfl (r_call1 en73 (hF.ev rfl)) (copyState_c (hS.k hm) (by omega)) ?_; clear hF a; rintro vs12 w3 a hS_ hF; replace hS := hS_; clear hS_; dsimp only [List.cons_append, List.nil_append] at hS
  refine wl_alloc hF hS rfl zr32 ?_; clear hF a; intro g3 w4 a hS_ hB_ hF; replace hS := hS_; clear hS_ hB_
  refine wl_storew hF hS (i := 0) rfl (hF.ev rfl) (hF.ev rfl) sz32 rfl rfl ?_; intro w5 hS_; replace hS := hS_; clear hS_; dsimp only [List.set, Nat.reduceAdd] at hS
  refine wl_nil (hK2 _ _ ?_)
  refine wp_seq_k fun K3 hK3 => ?_
  refine ws fun K4 hK4 => ?_
  refine wl hF rfl rfl rfl (r_loadn ag32 (hF.ev rfl) (hS.box_rd (i := 3) rfl) sz32) ?_; clear hF a; intro a hF
  refine wl_mvs (A := [_]) hF rfl ?_; clear hF a; intro a hF
  refine wl_call hF rfl rfl rfl (r_call2 en74 (hF.ev rfl) (hF.ev rfl)) (implIsRunning_c (hS.k hm) hw hz hp0) ?_; clear hF a; rintro v w6 a ⟨rfl, hB_⟩ hF; replace hS := hS.ext hB_; clear hB_
  refine wl hF rfl rfl rfl (r_not (hF.ev rfl)) ?_; clear hF a; intro a hF
  refine wl_mvs (A := [_]) hF rfl ?_; clear hF a; intro a hF
  apply wl_or (A := [_, _, _, _, _, _, _, _, _, _]) (pk := 27) hF hS (tc := 17) rfl
  ·
    intro hg17 a hF; try simp only [zb1, zb2, zb3, zb4, zb5, zb6, zb7, zb8] at hg17
    obtain ⟨hso_, hp1_⟩ := running_of hg17
    refine wl_mvs (A := [_]) hF rfl ?_; clear hF a; intro a hF
    refine wl_take hF rfl rfl rfl rfl ?_
    refine wl hF rfl rfl rfl (r_field fo32_3 (hF.ev rfl)) ?_; clear hF a; intro a hF
    refine wl_take hF rfl rfl rfl rfl ?_
    refine wl hF rfl rfl rfl (r_load1 sc30 (hF.ev rfl) (hS.box (i := 3) rfl rfl)) ?_; clear hF a; intro a hF
    refine wl_mvs (A := [_]) hF rfl ?_; clear hF a; intro a hF
    refine wl_take hF rfl rfl rfl rfl ?_
    obtain ⟨g22, o22, m22, q22, cs22, hv22, hm22, hl22, hk22, hz22, hc22⟩ := Rd.at (r2) (a := a) (X := .tmp 21) (hF.ev rfl) (by omega) (by omega)
    have hkk22 := hk22; obtain ⟨v22_0, v22_1, v22_2, v22_3, v22_4, rfl, r22_0, r22_1, r22_2, r22_3, r22_4⟩ := hk22
    refine wl hF rfl rfl rfl (r_index sl30 ((hF.ev rfl).trans hv22) (hF.ev rfl) (by omega) (by first | omega | (simp at hm22; omega))) ?_; clear hF a; intro a hF
    refine wl_take hF rfl rfl rfl rfl ?_
    refine wl hF rfl rfl rfl (r_field fo53_0 (hF.ev rfl)) ?_; clear hF a; intro a hF
    refine wl_take hF rfl rfl rfl rfl ?_
    refine wl hF rfl rfl rfl (r_load1 sc3 (hF.ev rfl) (cellB hS.old (hc22 0 _ rfl))) ?_; clear hF a; intro a hF
    refine wl_take hF rfl rfl rfl rfl ?_
    refine wl_call hF rfl rfl rfl (r_callv1 hei (hF.ev rfl) (hF.ev rfl)) (hi _ _ hS.old) ?_; clear hF a; rintro v w7 a ⟨rfl, hB_⟩ hF; replace hS := hS.ext hB_; clear hB_
    refine wl_take hF rfl rfl rfl rfl ?_
    refine wl hF rfl rfl rfl (r_not (hF.ev rfl)) ?_; clear hF a; intro a hF
    refine wl hF rfl rfl rfl (r_pick_f (hF.ev rfl) (hF.ev rfl)) ?_; clear hF a; intro a hF
    exact wl_nil ⟨rfl, (Fr.pre (A := [_, _, _, _, _, _, _, _, _, _]) hF rfl).keep hF (t := 27) rfl, hS⟩
  ·
    intro hg17 a hF; try simp only [zb1, zb2, zb3, zb4, zb5, zb6, zb7, zb8] at hg17
    refine wl_mvs (A := [_, _, _, _, _, _, _, _, _]) hF rfl ?_; clear hF a; intro a hF
    refine wl hF rfl rfl rfl (r_pick_t (hF.ev rfl) ec) ?_; clear hF a; intro a hF
    exact wl_nil ⟨rfl, (Fr.pre (A := [_, _, _, _, _, _, _, _, _, _]) hF rfl).keep hF (t := 27) rfl, hS⟩
  clear hF a hS; intro a w8 hF hS
  refine wl_nil (hK4 _ _ ?_)
  refine wc_fx (t := 27) hF rfl ?_ ?_ <;> clear hF <;> intro c27 hF <;> try simp only [zb1, zb2, zb3, zb4, zb5, zb6, zb7, zb8] at c27
  ·
    refine ws fun K5 hK5 => ?_
    refine wl hF rfl rfl rfl (r_loadn ag32 (hF.ev rfl) (hS.box_rd (i := 0) rfl) sz32) ?_; clear hF a; intro a hF
    refine wl_storew hF hS (i := 2) rfl (hF.ev rfl) (hF.ev rfl) sz32 rfl rfl ?_; intro w9 hS_; replace hS := hS_; clear hS_; dsimp only [List.set, Nat.reduceAdd] at hS
    refine wl_mvs (A := [_]) hF rfl ?_; clear hF a; intro a hF
    refine wl_nil (hK5 _ _ ?_)
    refine wp_ret ?_
    try simp only [Exit.then, Exit.inBlock, ↓reduceIte]
    have e : stepI isf stf s p = (s, false) := if_neg (fun h => by
      rcases c27 with c | c
      · rw [h.1] at c; cases c
      · rw [h.2] at c; cases c)
    refine ret2c rfl ag32 hF hS (i := 2) rfl sz32 rfl rfl ⟨vs12, ?_, ?_⟩
    · rw [e] <;> rfl
    · rw [e]; exact hS.pick [1] (by decide) rfl
  obtain ⟨hso, hp1⟩ := running_of c27.1
  obtain ⟨p, rfl⟩ : ∃ k : Nat, p = (k : Int) := ⟨p.toNat, by omega⟩
  have hp : p < s.threads.length := by omega
  have hxt := at0_nat hp
  replace hS := hS.pull (p := 1) rfl; dsimp only [List.eraseIdx] at hS
  replace hS : Sep W (Own intEK (sv (vs12.getD 0 (none, 0, 0))) s.cells :: Own intEK (sv (vs12.getD 1 (none, 0, 0))) s.generations :: Own threadEK (sv (vs12.getD 2 (none, 0, 0))) s.threads :: _) _ := hS.part_open
  dsimp only [stateEK] at hS
  generalize vs12.getD 0 (none, 0, 0) = z0 at hS
  generalize vs12.getD 1 (none, 0, 0) = z1 at hS
  generalize vs12.getD 2 (none, 0, 0) = z2 at hS
  obtain ⟨gt, ot, mt, ct, rfl⟩ := hS.elt_form (q := 2) rfl hxt
  have hmt : mt = s.threads.length := hS.own_len (q := 2) (s := (some ⟨gt, ot, none⟩, mt, ct)) rfl
  replace hS := hS.set_form (q := 2) rfl hxt; dsimp only [List.set] at hS
  refine wp_skip ?_
  refine hK3 _ _ ?_
  refine ws fun K6 hK6 => ?_
  refine wl_mvs (A := [_]) hF rfl ?_; clear hF a; intro a hF
  refine wl hF rfl rfl rfl (r_field fo32_3 (hF.ev rfl)) ?_; clear hF a; intro a hF
  refine wl hF rfl rfl rfl (r_load1 sc30 (hF.ev rfl) (hS.box (i := 3) rfl rfl)) ?_; clear hF a; intro a hF
  refine wl_mvs (A := [_]) hF rfl ?_; clear hF a; intro a hF
  refine wl hF rfl rfl rfl (r_index sl30 (hF.ev rfl) (hF.ev rfl) (by omega) (by first | omega | (dsimp only; omega))) ?_; clear hF a; intro a hF
  refine wl_mvs (A := [_]) hF rfl ?_; clear hF a; intro a hF
  refine wl hF rfl rfl rfl (r_build (bd63_0_1_2 _ _ _) ⟨rfl, (hF.ev rfl), rfl, (hF.ev rfl), rfl, (hF.ev rfl), trivial⟩) ?_; clear hF a; intro a hF
  replace hS := Sep.headp (A := [_, _, _, _, _, _]) (B := [_, _, _, _, _, _]) hS [3, 0, 1, 2, 4, 5] (by decide) rfl rfl
  refine wl_call hF rfl rfl rfl (r_callv1 hef (hF.ev rfl) (hF.ev rfl)) (hf p z0 z1 gt ot mt ct _ _ _ hso rfl hp hmt c27.2 hS) ?_; clear hF a; rintro v w10 a ⟨rfl, hS_⟩ hF; replace hS := hS_; clear hS_
  refine wl_nil (hK6 _ _ ?_)
  refine ws fun K7 hK7 => ?_
  refine wl hF rfl rfl rfl (r_field fo32_4 (hF.ev rfl)) ?_; clear hF a; intro a hF
  refine wl hF rfl rfl rfl (r_load1 sc3 (hF.ev rfl) (hS.box (i := 0) rfl rfl)) ?_; clear hF a; intro a hF
  refine wl hF rfl rfl rfl (r_add (hF.ev rfl) ec) ?_; clear hF a; intro a hF
  refine wl hF rfl rfl rfl (r_field fo32_4 (hF.ev rfl)) ?_; clear hF a; intro a hF
  refine wl_store hF hS (i := 0) rfl sz3 (hF.ev rfl) (hF.ev rfl) rfl rfl ?_; intro w11 hS_; replace hS := hS_; clear hS_; dsimp only [List.set, Nat.reduceAdd] at hS
  refine wl_nil (hK7 _ _ ?_)
  refine ws fun K8 hK8 => ?_
  refine wl hF rfl rfl rfl (r_loadn ag32 (hF.ev rfl) (hS.box_rd (i := 0) rfl) sz32) ?_; clear hF a; intro a hF
  refine wl_storew hF hS (i := 4) rfl (hF.ev rfl) (hF.ev rfl) sz32 rfl rfl ?_; intro w12 hS_; replace hS := hS_; clear hS_; dsimp only [List.set, Nat.reduceAdd] at hS
  refine wl_mvs (A := [_]) hF rfl ?_; clear hF a; intro a hF
  refine wl_nil (hK8 _ _ ?_)
  refine wp_ret ?_
  try simp only [Exit.then, Exit.inBlock, ↓reduceIte]
  have e : stepI isf stf s (p : Int) = (stepped (stf s p), true) := if_pos c27
  refine ret2c rfl ag32 hF hS (i := 4) rfl sz32 rfl rfl ⟨[z0, z1, (some ⟨gt, ot, none⟩, mt, ct)], ?_, ?_⟩
  · rw [e] <;> rfl
  · rw [e]; exact hS.part_of [1, 2, 3] (by decide) rfl
end Go.Proofs.YtifhfodphoeeoaaGreat.Wk
namespace Go.Proofs.YtifhfodphoeeoaaGreat.Sl
open Go Go.RowKit
set_option linter.unusedVariables false
set_option linter.unusedSimpArgs false
section
variable {w0 w : World} {l : List Res} {ts : List Thread} {t t' : Thread} {p g o m c : Nat} {v : Value}
theorem Sep.thr_lend (h : Sep w0 (Own threadEK (.slice (some ⟨g, o, none⟩) m c) (ts.set p t) :: l) w) (hp : p < ts.length) : ∃ (A0 A1 A2 A3 A4 : Option Addr) (c0 c1 c2 c3 c4 : Nat), (t.found.length ≤ maxLen ∧ t.free.length ≤ maxLen ∧ t.buffer.length ≤ maxLen ∧ t.work.length ≤ maxLen ∧ t.limbo.length ≤ maxLen) ∧ (t.found.length ≤ c0 ∧ t.free.length ≤ c1 ∧ t.buffer.length ≤ c2 ∧ t.work.length ≤ c3 ∧ t.limbo.length ≤ c4) ∧
    Sep w0 (Own intEK (.slice A0 t.found.length c0) t.found :: Own intEK (.slice A1 t.free.length c1) t.free :: Own entryEK (.slice A2 t.buffer.length c2) t.buffer :: Own entryEK (.slice A3 t.work.length c3) t.work :: Own intEK (.slice A4 t.limbo.length c4) t.limbo :: OwnBut threadEK (.slice (some ⟨g, o, none⟩) m c) (ts.set p t) p (t.encv (.slice A0 t.found.length c0) (.slice A1 t.free.length c1) (.slice A2 t.buffer.length c2) (.slice A3 t.work.length c3) (.slice A4 t.limbo.length c4)) :: l) w := by
  obtain ⟨vs, hb, _⟩ := h.elt_lend (q := 0) hp rfl
  replace hb : Sep w0 (Own intEK (sv (vs.getD 0 (none, 0, 0))) t.found :: Own intEK (sv (vs.getD 1 (none, 0, 0))) t.free :: Own entryEK (sv (vs.getD 2 (none, 0, 0))) t.buffer :: Own entryEK (sv (vs.getD 3 (none, 0, 0))) t.work :: Own intEK (sv (vs.getD 4 (none, 0, 0))) t.limbo :: OwnBut threadEK (.slice (some ⟨g, o, none⟩) m c) (ts.set p t) p (t.encv (sv (vs.getD 0 (none, 0, 0))) (sv (vs.getD 1 (none, 0, 0))) (sv (vs.getD 2 (none, 0, 0))) (sv (vs.getD 3 (none, 0, 0))) (sv (vs.getD 4 (none, 0, 0)))) :: l) w := hb.part_open
  obtain ⟨A0, c0, e0, k0, n0⟩ := (hb.own_rd (i := 0) rfl).sl
  obtain ⟨A1, c1, e1, k1, n1⟩ := (hb.own_rd (i := 1) rfl).sl
  obtain ⟨A2, c2, e2, k2, n2⟩ := (hb.own_rd (i := 2) rfl).sl
  obtain ⟨A3, c3, e3, k3, n3⟩ := (hb.own_rd (i := 3) rfl).sl
  obtain ⟨A4, c4, e4, k4, n4⟩ := (hb.own_rd (i := 4) rfl).sl
  rw [e0, e1, e2, e3, e4] at hb
  exact ⟨A0, A1, A2, A3, A4, c0, c1, c2, c3, c4, ⟨n0, n1, n2, n3, n4⟩, ⟨k0, k1, k2, k3, k4⟩, hb⟩
theorem Sep.thr_back {y0 y1 y2 y3 y4 : Slv} {cs : List Value} (h : Sep w0 (Own intEK (sv y0) t'.found :: Own intEK (sv y1) t'.free :: Own entryEK (sv y2) t'.buffer :: Own entryEK (sv y3) t'.work :: Own intEK (sv y4) t'.limbo :: OwnBut threadEK v (ts.set p t) p cs :: l) w)
    (hc : cs = t'.encv (sv y0) (sv y1) (sv y2) (sv y3) (sv y4)) : Sep w0 (Own threadEK v (ts.set p t') :: l) w := by
  have h1 := Sep.part_mk (ek := threadEK) (x := t') (vs := [y0, y1, y2, y3, y4]) (l := OwnBut threadEK v (ts.set p t) p cs :: l) h rfl
  have h2 := h1.giveback (q := 0) rfl hc
  rw [List.set_cons_zero, List.set_set] at h2
  exact h2
theorem Sep.box7 {l : List Res} {i g : Nat} {u0 u1 u2 u3 u4 u5 u6 : Value} {us : List Value} (h : Sep w0 l w) (hi : l[i]? = some (Box g (u0 :: u1 :: u2 :: u3 :: u4 :: u5 :: u6 :: us))) : ∀ j u, [u0, u1, u2, u3, u4, u5, u6][j]? = some u → w.cell? ⟨g, 0 + j, none⟩ = some u := fun j u hu => by
  refine h.box_rd hi j u ?_
  have h1 : ([u0, u1, u2, u3, u4, u5, u6] ++ us)[j]? = some u := by rw [List.getElem?_append_left (List.getElem?_eq_some_iff.1 hu).1]; exact hu
  exact h1
theorem Sep.own_cell {α : Type} {sz : Nat} {enc : α → List Value} {hl : ∀ x, (enc x).length = sz} {h1 : ∀ x u, u ∈ enc x → u.oneCell' = true} {l : List Res} {q g o m c i j : Nat} {xs : List α} {x : α} {u : Value} (h : Sep w0 l w) (hq : l[q]? = some (Own (flatEK sz enc hl h1) (.slice (some ⟨g, o, none⟩) m c) xs)) (hx : xs[i]? = some x) (hu : (enc x)[j]? = some u) : w.cell? ⟨g, o + i * sz + j, none⟩ = some u := by
  obtain ⟨g', o', m', c', e, _, _, hc⟩ := Rd.idxF (h.own_rd hq) hx
  simp only [Value.slice.injEq, Option.some.injEq, Addr.mk.injEq] at e
  obtain ⟨⟨rfl, rfl, _⟩, rfl, rfl⟩ := e
  exact hc j u hu
end
end Go.Proofs.YtifhfodphoeeoaaGreat.Sl
namespace Go.Proofs.YtifhfodphoeeoaaGreat.Sl
open Go Go.RowKit
set_option linter.unusedVariables false
set_option linter.unusedSimpArgs false
def _root_.Go.Proofs.YtifhfodphoeeoaaGreat.Sl.State.encf (s : State) (v0 v1 v2 : Value) (f : Int) : List Value := [vi s.config.threads, vi s.config.keys, vi s.config.capacity, vi s.config.batch, vi s.config.policy, vi s.config.clockMax, v0, v1, v2, vi s.steps, vi s.changes, vi s.retries, vi f]
def _root_.Go.Proofs.YtifhfodphoeeoaaGreat.Sl.State.encg (s : State) (v0 v1 v2 : Value) (c f : Int) : List Value := [vi s.config.threads, vi s.config.keys, vi s.config.capacity, vi s.config.batch, vi s.config.policy, vi s.config.clockMax, v0, v1, v2, vi s.steps, vi c, vi s.retries, vi f]
abbrev JX {X : Type} (W : World) (lf : X → List Res → List Res) (r : List Res) (w : World) : Prop := ∃ x, Sep W (lf x r) w
def TJ (P : Program) (ops : Array Oper) (Q : Exit → Act → World → Prop) (J : World → Prop) (muts is : List Nat) (a : Act) (w : World) : Prop :=
  ∀ listed : Array Bool, listed.size = ops.size → (∀ j, j < ops.size → listed.getD j false = (!is.contains j && !([] : List Nat).contains j)) → wpM P ops (QN Q) J muts is.length listed a w
section
variable {P : Program} {ops : Array Oper} {Q : Exit → Act → World → Prop} {X : Type} {lf : X → List Res → List Res} {r l : List Res} {W : World} {muts : List Nat} {n : Nat} {L : List (Nat × Value)}
theorem tj_load (Xs : List Nat) {i : Nat} {is : List Nat} {o : Oper} {d : Nat} {v : Value} (hk : loadB ops [] muts Xs i is = true) (ho : ops[i]? = some o) (hg : GW ops n L o) (hd : o.dst = some d) (hdn : Nat.ble (d + 1) n = true)
    (hy : ∀ a w' x, Fr n L a → Sep W (lf x r) w' → (execOp a.eval o).run P w' = .ok (.value v) w')
    (k : ∀ a w, Fr n ((d, v) :: L) a → Sep W l w → JX W lf r w → TJ P ops Q (JX W lf r) muts is a w) :
    ∀ a w, Fr n L a → Sep W l w → JX W lf r w → TJ P ops Q (JX W lf r) muts (i :: is) a w := by
  intro a w hF hS hJ listed hsz hls
  simp only [loadB, pureB, ho, Bool.and_eq_true, decide_eq_true_eq, Bool.not_eq_true', List.all_eq_true, bne_iff_ne] at hk
  obtain ⟨⟨⟨⟨⟨⟨⟨⟨⟨k1, k2⟩, k3⟩, k4⟩, k5⟩, k6⟩, k8⟩, x1⟩, x2⟩, x3⟩ := hk
  have hi0 : listed.getD i true = false := by rw [getD_tf (by omega), hls i k1]; simp
  have hrdy : i ∈ Region.ready .any ops listed := by
    refine depsB_yes k5 hi0 (fun k hk => ?_)
    simp only [Bool.and_eq_true, decide_eq_true_eq, bne_iff_ne, Bool.not_eq_true', List.all_eq_true] at hk
    obtain ⟨⟨⟨q1, q2⟩, q3⟩, q4⟩ := hk
    rw [hls k q1]
    have h1 : (i :: is).contains k = false := by rw [List.contains_cons, q3]; simp [q2]
    rw [h1]; rfl
  refine wpM_firstX (X := Xs) ho (by simpa using x1) (fun m hm => List.contains_iff_mem.1 (x2 m hm)) (Region.noSelect_spec k4) (fun c a w h => by cases h.1) (fun m hm om hom => ?_) _ listed a w ?_ hrdy (.inl ⟨hg a hF, fun w ⟨x, hw⟩ => hy a w x hF hw⟩) hJ ?_ ?_
  · have := (x3 m hm).2
    unfold waitsB at this
    rw [hom] at this
    obtain ⟨e, he, h2⟩ := Array.any_eq_true'.1 this
    simp only [Bool.and_eq_true, Bool.or_eq_true, beq_iff_eq] at h2
    exact ⟨e, he, h2.1, h2.2.imp id List.contains_iff_mem.1⟩
  · intro j oj hj hne hun hno
    have hlt := (Array.getElem?_eq_some_iff.1 hj).1
    rw [getD_tf (by omega), hls j hlt] at hun
    have hmem : j ∈ is ++ ([] : Alcs).map (·.1) := by
      rw [List.mem_append]
      left
      simp [List.contains_cons, hne] at hun; exact hun
    have := k8 j hmem
    simp only [hj, Bool.or_eq_true] at this
    rcases this with h | h
    · unfold waitsB at h
      rw [hj] at h
      obtain ⟨e, he, h2⟩ := Array.any_eq_true'.1 h
      simp only [Bool.and_eq_true, beq_iff_eq] at h2
      exact (hno e he h2.1 h2.2).elim
    · exact h
  · unfold phB
    rw [List.all_eq_true]
    intro m hm
    have hm' := (x3 m hm).1
    rcases Nat.lt_or_ge m ops.size with hlt | hge
    · rw [hls m hlt]
      have : (i :: is).contains m = true := by rw [List.contains_cons, hm']; simp
      rw [this]; rfl
    · simp [Array.getD, hsz, Nat.not_lt.2 hge]
  · have := k (a.put (some d) v) w (hF.put hdn v) hS hJ (listed.setIfInBounds i true) (by simp [hsz]) (listed_set k1 hsz k2 (by simp) hls)
    rw [hd]
    exact this
theorem tj_pureY {i : Nat} {is : List Nat} {o : Oper} {d : Nat} {v : Value} (hk : pureB ops [] muts i is = true) (ho : ops[i]? = some o) (hd : o.dst = some d) (hdn : Nat.ble (d + 1) n = true)
    (hy : ∀ a, Fr n L a → YieldsIf P ops (fun _ => True) o v a)
    (k : ∀ a w, Fr n ((d, v) :: L) a → Sep W l w → JX W lf r w → TJ P ops Q (JX W lf r) muts is a w) :
    ∀ a w, Fr n L a → Sep W l w → JX W lf r w → TJ P ops Q (JX W lf r) muts (i :: is) a w := by
  intro a w hF hS hJ listed hsz hls
  simp only [pureB, ho, Bool.and_eq_true, decide_eq_true_eq, Bool.not_eq_true', List.all_eq_true, bne_iff_ne] at hk
  obtain ⟨⟨⟨⟨⟨⟨k1, k2⟩, k3⟩, k4⟩, k5⟩, k6⟩, k8⟩ := hk
  have hi0 : listed.getD i true = false := by rw [getD_tf (by omega), hls i k1]; simp
  have hrdy : i ∈ Region.ready .any ops listed := by
    refine depsB_yes k5 hi0 (fun k hk => ?_)
    simp only [Bool.and_eq_true, decide_eq_true_eq, bne_iff_ne, Bool.not_eq_true', List.all_eq_true] at hk
    obtain ⟨⟨⟨q1, q2⟩, q3⟩, q4⟩ := hk
    rw [hls k q1]
    have h1 : (i :: is).contains k = false := by rw [List.contains_cons, q3]; simp [q2]
    rw [h1]; rfl
  refine wpM_firstP ho (by simpa using k6) (Region.noSelect_spec k4) (fun c a w h => by cases h.1) _ listed a w ?_ hrdy (hy a hF) (fun _ => hJ) ?_
  · intro j oj hj hne hun hno
    have hlt := (Array.getElem?_eq_some_iff.1 hj).1
    rw [getD_tf (by omega), hls j hlt] at hun
    have hmem : j ∈ is ++ ([] : Alcs).map (·.1) := by
      rw [List.mem_append]
      left
      simp [List.contains_cons, hne] at hun; exact hun
    have := k8 j hmem
    simp only [hj, Bool.or_eq_true] at this
    rcases this with h | h
    · unfold waitsB at h
      rw [hj] at h
      obtain ⟨e, he, h2⟩ := Array.any_eq_true'.1 h
      simp only [Bool.and_eq_true, beq_iff_eq] at h2
      exact (hno e he h2.1 h2.2).elim
    · exact h
  · have := k (a.put (some d) v) w (hF.put hdn v) hS hJ (listed.setIfInBounds i true) (by simp [hsz]) (listed_set k1 hsz k2 (by simp) hls)
    rw [hd]
    exact this
theorem tj_pure {i : Nat} {is : List Nat} {o : Oper} {d : Nat} {v : Value} (hk : pureB ops [] muts i is = true) (ho : ops[i]? = some o) (hg : GW ops n L o) (hd : o.dst = some d) (hdn : Nat.ble (d + 1) n = true)
    (hy : ∀ a w', Fr n L a → (execOp a.eval o).run P w' = .ok (.value v) w')
    (k : ∀ a w, Fr n ((d, v) :: L) a → Sep W l w → JX W lf r w → TJ P ops Q (JX W lf r) muts is a w) :
    ∀ a w, Fr n L a → Sep W l w → JX W lf r w → TJ P ops Q (JX W lf r) muts (i :: is) a w :=
  tj_pureY hk ho hd hdn (fun a hF => .inl ⟨hg a hF, fun w _ => hy a w hF⟩) k
/-- the next in order -/
theorem tj_step {i : Nat} {is : List Nat} (hk : stepB ops [] i is = true)
    (hop : ∀ a w, Fr n L a → Sep W l w → JX W lf r w → wpOp P ops (QN Q) i (fun a' w' => JX W lf r w' ∧ TJ P ops Q (JX W lf r) muts is a' w') a w) :
    ∀ a w, Fr n L a → Sep W l w → JX W lf r w → TJ P ops Q (JX W lf r) muts (i :: is) a w := by
  simp only [stepB, Bool.and_eq_true, decide_eq_true_eq, Bool.not_eq_true', List.all_eq_true, bne_iff_ne] at hk
  obtain ⟨⟨⟨⟨k1, k2⟩, k3⟩, k4⟩, k5⟩ := hk
  intro a w hF hS hJ listed hsz hls
  have hmem : ∀ j ∈ Region.ready .any ops listed, j = i := fun j hj => by
    have h0 := (mem_ready.1 hj).1
    obtain ⟨o, ho, _⟩ := (mem_ready.1 hj).2
    have hlt := (Array.getElem?_eq_some_iff.1 ho).1
    rw [getD_tf (by omega), hls j hlt] at h0
    by_cases e : j = i
    · exact e
    · have hm : j ∈ is := by
        simp [List.contains_cons, e] at h0; exact h0
      refine (waitsB_no (k4 j hm) (fun k hk => ?_) hj).elim
      rcases Nat.lt_or_ge k ops.size with hlt | hge
      · rw [hls k hlt]
        have : (i :: is).contains k = true := by simpa [List.contains_cons] using hk
        rw [this]; rfl
      · simp [Array.getD, hsz, Nat.not_lt.2 hge]
  have hrdy : i ∈ Region.ready .any ops listed := by
    refine depsB_yes k5 ?_ (fun k hk => ?_)
    · rw [getD_tf (by omega), hls i k1]; simp
    · simp only [Bool.and_eq_true, decide_eq_true_eq, bne_iff_ne, Bool.not_eq_true'] at hk
      rw [hls k hk.1.1]
      have : (i :: is).contains k = false := by rw [List.contains_cons, hk.2]; simp [hk.1.2]
      rw [this]; rfl
  refine ⟨fun h => (by rw [h] at hrdy; cases hrdy), fun j hj => ?_⟩
  obtain rfl := hmem j hj
  exact wpOp_mono (fun a' w' h => ⟨fun _ => h.1, h.2 (listed.setIfInBounds j true) (by simp [hsz]) (listed_set k1 hsz k2 (by simp) hls)⟩) (hop a w hF hS hJ)
/-- a call that changes parts, the others' reads stand -/
theorem tj_mc {Γ : Type} {i : Nat} {is : List Nat} {o : Oper} {d : Nat} {f : FuncId} {args : Array Value} {val : Γ → Value} {l2 : Γ → List Res} (hk : stepB ops [] i is = true) (ho : ops[i]? = some o) (hg : GW ops n L o) (hd : o.dst = some d) (hdn : Nat.ble (d + 1) n = true)
    (hr : ∀ a w, Fr n L a → (execOp a.eval o).run P w = .ok (.enter f args) w) (hc : ∀ w, Sep W l w → Calls P f args w (Ret fun v w' => ∃ γ, v = val γ ∧ Sep W (l2 γ) w'))
    (hx : ∀ γ w', Sep W (l2 γ) w' → JX W lf r w')
    (k : ∀ γ a w, Fr n ((d, val γ) :: L) a → Sep W (l2 γ) w → JX W lf r w → TJ P ops Q (JX W lf r) muts is a w) :
    ∀ a w, Fr n L a → Sep W l w → JX W lf r w → TJ P ops Q (JX W lf r) muts (i :: is) a w := by
  refine tj_step hk (fun a w hF hS hJ => wpOp_ofW ho (hg a hF) ?_)
  unfold Oper.wp
  rw [hr a w hF, Oper.upon_enter]
  refine (hc w hS).mono ?_
  rintro e w1 ⟨v, rfl, γ, rfl, hS⟩
  show _ ∧ _
  rw [hd]
  exact ⟨hx γ w1 hS, k γ _ _ (hF.put hdn _) hS (hx γ w1 hS)⟩
/-- a call that reads -/
theorem tj_rd {i : Nat} {is : List Nat} {o : Oper} {d : Nat} {f : FuncId} {args : Array Value} {v : Value} (hk : stepB ops [] i is = true) (ho : ops[i]? = some o) (hg : GW ops n L o) (hd : o.dst = some d) (hdn : Nat.ble (d + 1) n = true)
    (hr : ∀ a w, Fr n L a → (execOp a.eval o).run P w = .ok (.enter f args) w) (hc : ∀ w, Sep W l w → Calls P f args w (Ret fun u w' => u = v ∧ Below w.heap.size w w'))
    (k : ∀ a w, Fr n ((d, v) :: L) a → Sep W l w → JX W lf r w → TJ P ops Q (JX W lf r) muts is a w) :
    ∀ a w, Fr n L a → Sep W l w → JX W lf r w → TJ P ops Q (JX W lf r) muts (i :: is) a w := by
  refine tj_step hk (fun a w hF hS hJ => wpOp_ofW ho (hg a hF) ?_)
  unfold Oper.wp
  rw [hr a w hF, Oper.upon_enter]
  refine (hc w hS).mono ?_
  rintro e w1 ⟨u, rfl, rfl, hb⟩
  show _ ∧ _
  rw [hd]
  obtain ⟨x, hx⟩ := hJ
  exact ⟨⟨x, hx.ext hb⟩, k _ _ (hF.put hdn _) (hS.ext hb) ⟨x, hx.ext hb⟩⟩
theorem wpM_seqJ {S : World → Prop} : ∀ (ts : List Nat) (tl : List Oper) (listed : Array Bool) (a : Act) (w : World), tailB ops ts = true → (∀ m ∈ ts, m ∈ muts) → ts.map (fun i => ops[i]?) = tl.map some → listed.size = ops.size →
    (∀ j, j < ops.size → listed.getD j false = !ts.contains j) → wpList P ops (QN Q) tl a w → wpM P ops (QN Q) S muts ts.length listed a w
  | [], tl, listed, a, w, _, _, hts, hsz, hls, h => by
    obtain rfl : tl = [] := by cases tl <;> simp_all
    refine ⟨?_, h⟩
    apply List.eq_nil_iff_forall_not_mem.2
    intro j hj
    obtain ⟨o, ho, _⟩ := (mem_ready.1 hj).2
    have hlt := (Array.getElem?_eq_some_iff.1 ho).1
    have h0 := (mem_ready.1 hj).1
    rw [getD_tf (by omega), hls j hlt] at h0
    simp at h0
  | i :: is, tl, listed, a, w, hB, hmu, hts, hsz, hls, h => by
    simp only [tailB, Bool.and_eq_true, decide_eq_true_eq, Bool.not_eq_true', List.all_eq_true] at hB
    obtain ⟨⟨⟨⟨k1, k2⟩, k4⟩, k5⟩, k6⟩ := hB
    match tl, hts with
    | [], hts => simp at hts
    | o :: tl, hts =>
      simp only [List.map_cons, List.cons.injEq] at hts
      have hrdy : i ∈ Region.ready .any ops listed := by
        refine depsB_yes k5 ?_ (fun k hk => ?_)
        · rw [getD_tf (by omega), hls i k1]; simp
        · simp only [Bool.and_eq_true, decide_eq_true_eq, bne_iff_ne, Bool.not_eq_true'] at hk
          rw [hls k hk.1.1]
          have : (i :: is).contains k = false := by rw [List.contains_cons, hk.2]; simp [hk.1.2]
          rw [this]; rfl
      refine ⟨fun h => (by rw [h] at hrdy; cases hrdy), fun j hj => ?_⟩
      have h0 := (mem_ready.1 hj).1
      obtain ⟨oj, hoj, _⟩ := (mem_ready.1 hj).2
      have hlt := (Array.getElem?_eq_some_iff.1 hoj).1
      rw [getD_tf (by omega), hls j hlt] at h0
      by_cases e : j = i
      · subst e
        have hl' : ∀ k, k < ops.size → (listed.setIfInBounds j true).getD k false = !is.contains k := fun k hk => by
          have := listed_set (rem := []) k1 hsz k2 (by simp) (fun k hk => by rw [hls k hk]; simp) k hk
          rw [this]; simp
        have hph : ¬ phB muts (listed.setIfInBounds j true) = true := by
          intro hp
          have := List.all_eq_true.1 hp j (hmu j (by simp))
          simp [Array.getD, hsz, k1] at this
        unfold wpOp
        rw [hts.1]
        simp only []
        unfold wpList at h
        split
        · rename_i hw
          rw [if_pos hw] at h
          exact h.imp (Oper.wp_mono (fun a w h => ⟨fun x => (hph x).elim, wpM_seqJ is tl _ a w k6 (fun m hm => hmu m (by simp [hm])) hts.2 (by simp [hsz]) hl' h⟩)) id
        · rename_i hw
          rw [if_neg hw] at h
          exact ⟨fun x => (hph x).elim, wpM_seqJ is tl _ _ w k6 (fun m hm => hmu m (by simp [hm])) hts.2 (by simp [hsz]) hl' h⟩
      · have hm : j ∈ is := by
          simp [List.contains_cons, e] at h0; exact h0
        refine (waitsB_no (k4 j hm) (fun k hk => ?_) hj).elim
        rcases Nat.lt_or_ge k ops.size with hlt | hge
        · rw [hls k hlt]
          have : (i :: is).contains k = true := by simpa [List.contains_cons] using hk
          rw [this]; rfl
        · simp [Array.getD, hsz, Nat.not_lt.2 hge]
theorem tj_fin {ts : List Nat} {tl : List Oper} (hk : tailB ops ts = true) (hts : ts.map (fun i => ops[i]?) = tl.map some)
    (k : ∀ a w, Fr n L a → Sep W l w → wpList P ops (QN Q) tl a w) :
    ∀ a w, Fr n L a → Sep W l w → JX W lf r w → TJ P ops Q (JX W lf r) ts ts a w :=
  fun a w hF hS hJ listed hsz hls => wpM_seqJ ts tl listed a w hk (fun m hm => hm) hts hsz (fun j hj => by rw [hls j hj]; simp) (k a w hF hS)
theorem wp_region_J {id : Nat} {lo : List Oper} {is : List Nat} {a : Act} {w : World} (lf : X → List Res → List Res) (r : List Res) (x : X) (muts : List Nat) (hm : P.follows .mixedOrders = true) (hF : Fr n L a) (hS : Sep W (lf x r) w)
    (hc : ((List.range lo.length).all (fun j => is.contains j) && is.length == lo.length) = true)
    (k : ∀ a w, Fr n L a → Sep W (lf x r) w → JX W lf r w → TJ P lo.toArray Q (JX W lf r) muts is a w) : (Code.region id lo.toArray true).wp P Q a w := by
  have hw : (Code.region id lo.toArray true).wp P (QN Q) a w := by
    refine wp_region_any hm (wpAny_of_M (S := JX W lf r) (muts := muts) _ _ _ _ ?_)
    simp only [Bool.and_eq_true, List.all_eq_true, List.mem_range, beq_iff_eq] at hc
    have := k a { w with drawn := w.drawn + 1 } hF hS.drawn ⟨x, hS.drawn⟩ (Array.replicate lo.toArray.size false) (by simp) (fun j hj => by
          have := hc.1 j (by simpa using hj)
          simp only [List.size_toArray] at hj
          rw [this]; simp [Array.getD, hj])
    rw [hc.2] at this
    simpa using this
  exact wp_mono hw (fun e a w ⟨h1, h2⟩ => by subst h1; exact h2)
end
end Go.Proofs.YtifhfodphoeeoaaGreat.Sl
namespace Go.Proofs.YtifhfodphoeeoaaGreat.Wk
open Go Go.RowKit Sl
set_option linter.unusedVariables false
set_option linter.unusedSimpArgs false
set_option maxRecDepth 20000
/-- a step by what it does to the state and to the thread that steps -/
def stepBy (f : Sl.State → Sl.Thread → Int → Sl.State × Sl.Thread) (s : Sl.State) (p : Nat) : Sl.State := { (f s (at0 s.threads (p : Int)) p).1 with threads := s.threads.set p (f s (at0 s.threads (p : Int)) p).2 }
def stepOf (isf : Int → Bool) (f : Sl.State → Sl.Thread → Int → Sl.State × Sl.Thread) (s : Sl.State) (p : Int) : Sl.State × Bool := if isRunning s p = true ∧ isf (at0 s.threads p).pc = true then (stepBy f (stepped s) p.toNat, true) else (s, false)
theorem stepI_of {isf : Int → Bool} {f : Sl.State → Sl.Thread → Int → Sl.State × Sl.Thread} (hc : ∀ s t p, f (stepped s) t p = (stepped (f s t p).1, (f s t p).2)) (s : Sl.State) (p : Int) : stepI isf (stepBy f) s p = stepOf isf f s p := by
  unfold stepI stepOf
  split
  · unfold stepBy; rw [hc]; rfl
  · rfl
/-- what a step leans on -/
structure Fit (s : Sl.State) (t : Sl.Thread) : Prop where
  ok : s.config.ok
  lc : (s.cells.length : Int) = cellCount s.config
  lg : (s.generations.length : Int) = s.config.capacity
  wc : ∀ x ∈ s.cells, int64 x
  wg : ∀ x ∈ s.generations, int64 x
  wt : t.wf
  th : threadOk s.config t = true
theorem Fit.of {s : Sl.State} {p : Nat} (hs : stateOk s = true) (hw : s.wf) (hp : p < s.threads.length) : Fit s (at0 s.threads (p : Int)) := by
  obtain ⟨h1, h2, h3, h4⟩ := stateOk_shape hs
  exact ⟨h1, h2, h3, hw.2.1, hw.2.2.1, hw.2.2.2.1 _ (at0_mem (by omega) (by omega)), state_thread hs (by omega) (by omega)⟩
theorem Fit.stepped {s : Sl.State} {t : Sl.Thread} (h : Fit s t) : Fit (stepped s) t := ⟨h.ok, h.lc, h.lg, h.wc, h.wg, h.wt, h.th⟩
theorem Fit.curr {s : Sl.State} {t : Sl.Thread} (h : Fit s t) : int64 t.curr := h.wt.2.2.2.2.2.2.1
theorem Fit.prev {s : Sl.State} {t : Sl.Thread} (h : Fit s t) : int64 t.prev := h.wt.2.2.2.2.2.1
theorem Fit.next {s : Sl.State} {t : Sl.Thread} (h : Fit s t) : int64 t.next := h.wt.2.2.2.2.2.2.2.1
theorem Fit.seen {s : Sl.State} {t : Sl.Thread} (h : Fit s t) : int64 t.seen := h.wt.2.2.2.2.2.2.2.2.1
end Go.Proofs.YtifhfodphoeeoaaGreat.Wk
namespace Go.Proofs.YtifhfodphoeeoaaGreat.Wk
open Go Go.RowKit Sl
set_option linter.unusedVariables false
set_option linter.unusedSimpArgs false
set_option maxRecDepth 20000
set_option maxHeartbeats 4000000 in
set_option maxRecDepth 20000 in
theorem stpNext_c {W w : World} {l : List Res} {g gt ot mt ct p : Nat} {v0 v1 : Value} {s : Sl.State} {ts : List Sl.Thread} {t : Sl.Thread} (hp : p < ts.length) {b : Bool} {x y : Int} (hS : Sep W (Box g ((s).encv v0 v1 (.slice (some ⟨gt, ot, none⟩) mt ct)) :: Own threadEK (.slice (some ⟨gt, ot, none⟩) mt ct) (ts.set p (t)) :: l) w) : Calls Tryz.prog 81 #[.agg #[.pointer (some ⟨g, 0, none⟩), .pointer (some ⟨gt, ot + p * 19, none⟩), vi (p : Int)], .bool b, vi x, vi y] w (Ret fun u w' => u = .tuple #[] ∧ Sep W (Box g (({ s with retries := if b = true then s.retries else IntKind.i64.wrap (s.retries + 1) }).encv v0 v1 (.slice (some ⟨gt, ot, none⟩) mt ct)) :: Own threadEK (.slice (some ⟨gt, ot, none⟩) mt ct) (ts.set p ({ t with pc := if b = true then x else y })) :: l) w') := by
  refine calls_fr Tryz.func81 rfl Tryz.ntmps81 rfl ?_
  intro a hF
  have hmt := hS.own_len (s := (some ⟨gt, ot, none⟩, mt, ct)) (q := 1) rfl
  simp only [List.length_set] at hmt
  refine ws fun K1 hK1 => ?_
  refine wl_box (cs := [_, _, _]) hF hS rfl (hF.ev rfl) rfl ?_; clear hF a; intro g1 w1 a hS_ hB_ hF; replace hS := hS_; clear hS_ hB_
  refine wl_nil (hK1 _ _ ?_)
  refine ws fun K2 hK2 => ?_
  refine wl hF rfl rfl rfl (r_field fo63_1 (hF.ev rfl)) ?_; clear hF a; intro a hF
  refine wl hF rfl rfl rfl (r_load1 sc61 (hF.ev rfl) (hS.box (i := 0) rfl rfl)) ?_; clear hF a; intro a hF
  refine wl_mvs (A := [_]) hF rfl ?_; clear hF a; intro a hF
  refine wl hF rfl rfl rfl (r_nilCheck (hF.ev rfl)) ?_; clear hF a; intro a hF
  refine wl hF rfl rfl rfl (r_field fo53_0 (hF.ev rfl)) ?_; clear hF a; intro a hF
  refine wl_estore (q := 2) (j := 0) (⟨_, ⟨_, _, _⟩, ⟨_, _⟩, _, _, _, _, _, _, _, _, _, _, _, _, _⟩ : Sl.Thread) hF hS hp rfl sz3 (hF.ev rfl) rfl (hF.ev rfl) rfl (fun _ => rfl) (fun _ => by dsimp only [threadEK, Thread.encv, List.set] <;> rfl) (by intro _; rfl) ?_; intro w2 hS_; replace hS := hS_; clear hS_; dsimp only [List.set] at hS
  refine wl_nil (hK2 _ _ ?_)
  refine ws fun K3 hK3 => ?_
  refine wl_mvs (A := [_]) hF rfl ?_; clear hF a; intro a hF
  refine wl hF rfl rfl rfl (r_not (hF.ev rfl)) ?_; clear hF a; intro a hF
  refine wl_nil (hK3 _ _ ?_)
  refine wc_fx (t := 14) hF rfl ?_ ?_ <;> clear hF <;> intro c14 hF <;> try simp only [zb1, zb2, zb3, zb4, zb5, zb6, zb7, zb8] at c14
  ·
    refine ws fun K4 hK4 => ?_
    refine wl hF rfl rfl rfl (r_field fo63_1 (hF.ev rfl)) ?_; clear hF a; intro a hF
    refine wl hF rfl rfl rfl (r_load1 sc61 (hF.ev rfl) (hS.box (i := 0) rfl rfl)) ?_; clear hF a; intro a hF
    refine wl_mvs (A := [_]) hF rfl ?_; clear hF a; intro a hF
    refine wl hF rfl rfl rfl (r_nilCheck (hF.ev rfl)) ?_; clear hF a; intro a hF
    refine wl hF rfl rfl rfl (r_field fo53_0 (hF.ev rfl)) ?_; clear hF a; intro a hF
    refine wl_estore (q := 2) (j := 0) (⟨_, ⟨_, _, _⟩, ⟨_, _⟩, _, _, _, _, _, _, _, _, _, _, _, _, _⟩ : Sl.Thread) hF hS hp rfl sz3 (hF.ev rfl) rfl (hF.ev rfl) rfl (fun _ => rfl) (fun _ => by dsimp only [threadEK, Thread.encv, List.set] <;> rfl) (by intro _; rfl) ?_; intro w3 hS_; replace hS := hS_; clear hS_; dsimp only [List.set] at hS
    refine wl_nil (hK4 _ _ ?_)
    refine wp_region_lit ?_
    refine wl hF rfl rfl rfl (r_field fo63_0 (hF.ev rfl)) ?_; clear hF a; intro a hF
    refine wl hF rfl rfl rfl (r_load1 sc55 (hF.ev rfl) (hS.box (i := 0) rfl rfl)) ?_; clear hF a; intro a hF
    refine wl hF rfl rfl rfl (r_nilCheck (hF.ev rfl)) ?_; clear hF a; intro a hF
    refine wl hF rfl rfl rfl (r_field fo32_6 (hF.ev rfl)) ?_; clear hF a; intro a hF
    refine wl hF rfl rfl rfl (r_load1 sc3 (hF.ev rfl) (hS.box (i := 1) rfl rfl)) ?_; clear hF a; intro a hF
    refine wl hF rfl rfl rfl (r_add (hF.ev rfl) ec) ?_; clear hF a; intro a hF
    refine wl hF rfl rfl rfl (r_nilCheck (hF.ev rfl)) ?_; clear hF a; intro a hF
    refine wl hF rfl rfl rfl (r_field fo32_6 (hF.ev rfl)) ?_; clear hF a; intro a hF
    refine wl_store hF hS (i := 1) rfl sz3 (hF.ev rfl) (hF.ev rfl) rfl rfl ?_; intro w4 hS_; replace hS := hS_; clear hS_; dsimp only [List.set, Nat.reduceAdd] at hS
    refine wl_nil ?_
    try simp only [Exit.then, Exit.inBlock, ↓reduceIte]
    cases b with
    | true => first | (exfalso; simp at c14; done) | exact ret0n rfl hF ⟨rfl, (Sep.headp (A := [_, _, _]) (B := [_, _]) hS [1, 2] (by decide) rfl rfl)⟩
    | false => first | (exfalso; simp at c14; done) | exact ret0n rfl hF ⟨rfl, (Sep.headp (A := [_, _, _]) (B := [_, _]) hS [1, 2] (by decide) rfl rfl)⟩
  refine wp_skip ?_
  try simp only [Exit.then, Exit.inBlock, ↓reduceIte]
  cases b with
  | true => first | (exfalso; simp at c14; done) | exact ret0n rfl hF ⟨rfl, (Sep.headp (A := [_, _, _]) (B := [_, _]) hS [1, 2] (by decide) rfl rfl)⟩
  | false => first | (exfalso; simp at c14; done) | exact ret0n rfl hF ⟨rfl, (Sep.headp (A := [_, _, _]) (B := [_, _]) hS [1, 2] (by decide) rfl rfl)⟩
set_option maxHeartbeats 4000000 in
set_option maxRecDepth 20000 in
theorem stpSwap_c {W w : World} {l : List Res} {g gt ot p : Nat} {v0 v1 v2 : Value} {s : Sl.State} {a_ u_ v : Int} (hS : Sep W (Box g (s.encv v0 v1 v2) :: Own intEK v0 s.cells :: l) w) : Calls Tryz.prog 82 #[.agg #[.pointer (some ⟨g, 0, none⟩), .pointer (some ⟨gt, ot + p * 19, none⟩), vi (p : Int)], vi a_, vi u_, vi v] w (Ret fun r w' => r = .bool (hitB s.cells a_ u_) ∧ Sep W (Box g ((swapS s a_ u_ v).encv v0 v1 v2) :: Own intEK v0 (swapS s a_ u_ v).cells :: l) w') := by
  refine calls_fr Tryz.func82 rfl Tryz.ntmps82 rfl ?_
  intro a hF
  obtain ⟨z0, rfl⟩ := hS.own_sv (q := 1) rfl
  have hl0 := hS.own_len (q := 1) rfl
  obtain ⟨A0, q0, e0, h0, hn0⟩ := (hS.own_rd (i := 1) rfl).sl; unfold maxLen at hn0
  refine ws fun K1 hK1 => ?_
  refine wl_box (cs := [_, _, _]) hF hS rfl (hF.ev rfl) rfl ?_; clear hF a; intro g1 w1 a hS_ hB_ hF; replace hS := hS_; clear hS_ hB_
  refine wl_mvs (A := [_]) hF rfl ?_; clear hF a; intro a hF
  refine wl_nil (hK1 _ _ ?_)
  refine wp_seq_k fun K2 hK2 => ?_
  refine ws fun K3 hK3 => ?_
  refine wl_mvs (A := [_]) hF rfl ?_; clear hF a; intro a hF
  refine wl hF rfl rfl rfl (r_field fo63_0 (hF.ev rfl)) ?_; clear hF a; intro a hF
  refine wl hF rfl rfl rfl (r_load1 sc55 (hF.ev rfl) (hS.box (i := 0) rfl rfl)) ?_; clear hF a; intro a hF
  refine wl hF rfl rfl rfl (r_nilCheck (hF.ev rfl)) ?_; clear hF a; intro a hF
  refine wl hF rfl rfl rfl (r_field fo32_1 (hF.ev rfl)) ?_; clear hF a; intro a hF
  refine wl hF rfl rfl rfl (r_load1 sc24 (hF.ev rfl) (hS.box (i := 1) rfl rfl)) ?_; clear hF a; intro a hF
  refine wl hF rfl rfl rfl (r_len ul24 (hF.ev rfl)) ?_; clear hF a; intro a hF
  refine wl hF rfl rfl rfl (r_sub (hF.ev rfl) ec) ?_; clear hF a; intro a hF
  refine wl_call hF rfl rfl rfl (r_call3 en75 (hF.ev rfl) ec (hF.ev rfl)) (in_c _ _ _) ?_; clear hF a; rintro v w2 a ⟨rfl, hB_⟩ hF; replace hS := hS.ext hB_; clear hB_
  refine wl hF rfl rfl rfl (r_not (hF.ev rfl)) ?_; clear hF a; intro a hF
  refine wl_mvs (A := [_]) hF rfl ?_; clear hF a; intro a hF
  apply wl_or (A := [_, _, _, _, _, _, _, _, _, _, _]) (pk := 30) hF hS (tc := 19) rfl
  ·
    intro hg19 a hF; try simp only [zb1, zb2, zb3, zb4, zb5, zb6, zb7, zb8] at hg19
    rw [w64_id (by omega) (by omega)] at hg19
    refine wl_take hF rfl rfl rfl rfl ?_
    refine wl hF rfl rfl rfl (r_field fo63_0 (hF.ev rfl)) ?_; clear hF a; intro a hF
    refine wl_take hF rfl rfl rfl rfl ?_
    refine wl hF rfl rfl rfl (r_load1 sc55 (hF.ev rfl) (hS.box (i := 0) rfl rfl)) ?_; clear hF a; intro a hF
    refine wl_take hF rfl rfl rfl rfl ?_
    refine wl hF rfl rfl rfl (r_nilCheck (hF.ev rfl)) ?_; clear hF a; intro a hF
    refine wl_take hF rfl rfl rfl rfl ?_
    refine wl hF rfl rfl rfl (r_field fo32_1 (hF.ev rfl)) ?_; clear hF a; intro a hF
    refine wl_take hF rfl rfl rfl rfl ?_
    refine wl hF rfl rfl rfl (r_load1 sc24 (hF.ev rfl) (hS.box (i := 1) rfl rfl)) ?_; clear hF a; intro a hF
    refine wl_mvs (A := [_]) hF rfl ?_; clear hF a; intro a hF
    refine wl_take hF rfl rfl rfl rfl ?_
    obtain ⟨g26, o26, m26, q26, hv26, hm26, hl26, hc26⟩ := Rd.atF ((hS.own_rd (i := 2) rfl)) (a := a) (X := .tmp 25) (hF.ev rfl) (by omega) (by omega)
    refine wl hF rfl rfl rfl (r_index sl24 ((hF.ev rfl).trans hv26) (hF.ev rfl) (by omega) (by first | omega | (simp at hm26; omega))) ?_; clear hF a; intro a hF
    refine wl_take hF rfl rfl rfl rfl ?_
    refine wl hF rfl rfl rfl (r_load1 sc3 (hF.ev rfl) (hc26 0 _ rfl)) ?_; clear hF a; intro a hF
    refine wl_mvs (A := [_]) hF rfl ?_; clear hF a; intro a hF
    refine wl_take hF rfl rfl rfl rfl ?_
    refine wl hF rfl rfl rfl (r_neq (hF.ev rfl) (hF.ev rfl)) ?_; clear hF a; intro a hF
    refine wl hF rfl rfl rfl (r_pick_f (hF.ev rfl) (hF.ev rfl)) ?_; clear hF a; intro a hF
    exact wl_nil ⟨rfl, (Fr.pre (A := [_, _, _, _, _, _, _, _, _, _, _]) hF rfl).keep hF (t := 30) rfl, hS⟩
  ·
    intro hg19 a hF; try simp only [zb1, zb2, zb3, zb4, zb5, zb6, zb7, zb8] at hg19
    refine wl_mvs (A := [_, _, _, _, _, _, _, _, _, _]) hF rfl ?_; clear hF a; intro a hF
    refine wl hF rfl rfl rfl (r_pick_t (hF.ev rfl) ec) ?_; clear hF a; intro a hF
    exact wl_nil ⟨rfl, (Fr.pre (A := [_, _, _, _, _, _, _, _, _, _, _]) hF rfl).keep hF (t := 30) rfl, hS⟩
  clear hF a hS; intro a w3 hF hS
  refine wl_nil (hK3 _ _ ?_)
  refine wc_fx (t := 30) hF rfl ?_ ?_ <;> clear hF <;> intro c30 hF <;> try simp only [zb1, zb2, zb3, zb4, zb5, zb6, zb7, zb8] at c30
  ·
    refine ws fun K4 hK4 => ?_
    refine wl_mvs (A := [_]) hF rfl ?_; clear hF a; intro a hF
    refine wl_nil (hK4 _ _ ?_)
    refine wp_ret ?_
    try simp only [Exit.then, Exit.inBlock, ↓reduceIte]
    have hw_ : IntKind.i64.wrap ((z0.2.1 : Int) - 1) = (s.cells.length : Int) - 1 := by rw [w64_id (by omega) (by omega)]; omega
    rw [hw_] at c30
    first
      | (have e : ¬ hitB s.cells a_ u_ = true := fun h => by unfold hitB at h; simp only [Bool.and_eq_true, decide_eq_true_eq] at h; rcases c30 with c | c; omega; exact c h.2
         refine ret1 rfl hF rfl ⟨congrArg Value.bool (Eq.symm (by simpa using e)), ?_⟩; unfold swapS; rw [if_neg e, if_neg e]; exact (Sep.headp (A := [_, _, _]) (B := [_, _]) hS [1, 2] (by decide) rfl rfl))
      | (have e : hitB s.cells a_ u_ = true := by unfold hitB; simp only [Bool.and_eq_true, decide_eq_true_eq]; exact ⟨by omega, c30.2⟩
         refine ret1 rfl hF rfl ⟨congrArg Value.bool e.symm, ?_⟩; unfold swapS; rw [if_pos e, if_pos e]; exact (Sep.headp (A := [_, _, _]) (B := [_, _]) hS [1, 2] (by decide) rfl rfl))
  refine wp_skip ?_
  refine hK2 _ _ ?_
  refine ws fun K5 hK5 => ?_
  refine wl hF rfl rfl rfl (r_loadn ag63 (hF.ev rfl) (hS.box_rd (i := 0) rfl) sz63) ?_; clear hF a; intro a hF
  refine wl_mvs (A := [_, _]) hF rfl ?_; clear hF a; intro a hF
  replace hS := Sep.headp (A := [_, _, _]) (B := [_, _, _]) hS [1, 2, 0] (by decide) rfl rfl
  refine wl_call hF rfl rfl rfl (r_call3 en80 (hF.ev rfl) (hF.ev rfl) (hF.ev rfl)) (stpStore_c (s := s) hS) ?_; clear hF a; rintro v w4 a ⟨rfl, hS_⟩ hF; replace hS := hS_; clear hS_
  refine wl_nil (hK5 _ _ ?_)
  refine ws fun K6 hK6 => ?_
  refine wl_mvs (A := [_]) hF rfl ?_; clear hF a; intro a hF
  refine wl_nil (hK6 _ _ ?_)
  refine wp_ret ?_
  try simp only [Exit.then, Exit.inBlock, ↓reduceIte]
  have hw_ : IntKind.i64.wrap ((z0.2.1 : Int) - 1) = (s.cells.length : Int) - 1 := by rw [w64_id (by omega) (by omega)]; omega
  rw [hw_] at c30
  first
    | (have e : ¬ hitB s.cells a_ u_ = true := fun h => by unfold hitB at h; simp only [Bool.and_eq_true, decide_eq_true_eq] at h; rcases c30 with c | c; omega; exact c h.2
       refine ret1 rfl hF rfl ⟨congrArg Value.bool (Eq.symm (by simpa using e)), ?_⟩; unfold swapS; rw [if_neg e, if_neg e]; exact (Sep.headp (A := [_, _, _]) (B := [_, _]) hS [0, 1] (by decide) rfl rfl))
    | (have e : hitB s.cells a_ u_ = true := by unfold hitB; simp only [Bool.and_eq_true, decide_eq_true_eq]; exact ⟨by omega, c30.2⟩
       refine ret1 rfl hF rfl ⟨congrArg Value.bool e.symm, ?_⟩; unfold swapS; rw [if_pos e, if_pos e]; exact (Sep.headp (A := [_, _, _]) (B := [_, _]) hS [0, 1] (by decide) rfl rfl))
end Go.Proofs.YtifhfodphoeeoaaGreat.Wk
namespace Go.Proofs.YtifhfodphoeeoaaGreat.Wk
open Go Go.RowKit Sl
set_option linter.unusedVariables false
set_option linter.unusedSimpArgs false
set_option maxRecDepth 20000
set_option maxHeartbeats 4000000 in
set_option maxRecDepth 20000 in
theorem implLoadCell_c {W : World} {va : Value} {xs : List Int} {a_ : Int} (ha : intEK.Rd W va xs) : Calls Tryz.prog 138 #[va, vi a_] W (Ret fun v w' => v = .tuple #[vi (loadC xs a_), .bool (decide (0 ≤ a_ ∧ a_ < xs.length))] ∧ Below W.heap.size W w') := by
  refine calls_fr Tryz.func138 rfl Tryz.ntmps138 rfl ?_
  intro a hF
  have hS := Sep.refl W
  obtain ⟨A_a, q_a, rfl, hq_a, hn_a⟩ := ha.sl; unfold maxLen at hn_a
  refine ws fun K1 hK1 => ?_
  refine wl_mvs (A := [_, _]) hF rfl ?_; clear hF a; intro a hF
  refine wl_nil (hK1 _ _ ?_)
  refine wp_seq_k fun K2 hK2 => ?_
  refine ws fun K3 hK3 => ?_
  refine wl_mvs (A := [_, _]) hF rfl ?_; clear hF a; intro a hF
  refine wl hF rfl rfl rfl (r_len ul24 (hF.ev rfl)) ?_; clear hF a; intro a hF
  refine wl hF rfl rfl rfl (r_sub (hF.ev rfl) ec) ?_; clear hF a; intro a hF
  refine wl_call hF rfl rfl rfl (r_call3 en75 (hF.ev rfl) ec (hF.ev rfl)) (in_c _ _ _) ?_; clear hF a; rintro v w1 a ⟨rfl, hB_⟩ hF; replace hS := hS.ext hB_; clear hB_
  refine wl hF rfl rfl rfl (r_not (hF.ev rfl)) ?_; clear hF a; intro a hF
  refine wl_nil (hK3 _ _ ?_)
  refine wc_fx (t := 11) hF rfl ?_ ?_ <;> clear hF <;> intro c11 hF <;> try simp only [zb1, zb2, zb3, zb4, zb5, zb6, zb7, zb8] at c11
  ·
    rw [w64_id (by omega) (by omega)] at c11
    refine ws fun K4 hK4 => ?_
    refine wl_mvs (A := [_, _]) hF rfl ?_; clear hF a; intro a hF
    refine wl_nil (hK4 _ _ ?_)
    refine wp_ret ?_
    try simp only [Exit.then, Exit.inBlock, ↓reduceIte]
    refine ret2 rfl hF rfl rfl ⟨?_, hS.old⟩
    first
      | (rw [show loadC xs a_ = 0 from if_neg (by omega), decide_eq_false (by omega)]; done)
      | (rw [show loadC xs a_ = at0 xs a_ from if_pos (by omega), decide_eq_true (show 0 ≤ a_ ∧ a_ < xs.length by omega)]; done)
  rw [w64_id (by omega) (by omega)] at c11
  refine wp_skip ?_
  refine hK2 _ _ ?_
  refine ws fun K5 hK5 => ?_
  refine wl_mvs (A := [_, _]) hF rfl ?_; clear hF a; intro a hF
  obtain ⟨g14, o14, m14, q14, hv14, hm14, hl14, hc14⟩ := Rd.atF (ha) (a := a) (X := .tmp 13) (hF.ev rfl) (by omega) (by omega)
  refine wl hF rfl rfl rfl (r_index sl24 ((hF.ev rfl).trans hv14) (hF.ev rfl) (by omega) (by first | omega | (simp at hm14; omega))) ?_; clear hF a; intro a hF
  refine wl hF rfl rfl rfl (r_load1 sc3 (hF.ev rfl) (cellB hS.old (hc14 0 _ rfl))) ?_; clear hF a; intro a hF
  refine wl_mvs (A := [_, _]) hF rfl ?_; clear hF a; intro a hF
  refine wl_nil (hK5 _ _ ?_)
  refine wp_ret ?_
  try simp only [Exit.then, Exit.inBlock, ↓reduceIte]
  refine ret2 rfl hF rfl rfl ⟨?_, hS.old⟩
  first
    | (rw [show loadC xs a_ = 0 from if_neg (by omega), decide_eq_false (by omega)]; done)
    | (rw [show loadC xs a_ = at0 xs a_ from if_pos (by omega), decide_eq_true (show 0 ≤ a_ ∧ a_ < xs.length by omega)]; done)
set_option maxHeartbeats 4000000 in
set_option maxRecDepth 20000 in
theorem stpLoad_c {W : World} {u0 u1 u2 u3 u4 u5 va : Value} {xs : List Int} {g gt ot p : Nat} (hc : ∀ j u, [u0, u1, u2, u3, u4, u5, va][j]? = some u → W.cell? ⟨g, 0 + j, none⟩ = some u) (hr : intEK.Rd W va xs) {a_ : Int} : Calls Tryz.prog 77 #[.agg #[.pointer (some ⟨g, 0, none⟩), .pointer (some ⟨gt, ot + p * 19, none⟩), vi (p : Int)], vi a_] W (Ret fun v w' => v = vi (loadC xs a_) ∧ Below W.heap.size W w') := by
  refine calls_fr Tryz.func77 rfl Tryz.ntmps77 rfl ?_
  intro a hF
  have hS := Sep.refl W
  obtain ⟨A_a, q_a, rfl, hq_a, hn_a⟩ := hr.sl; unfold maxLen at hn_a
  refine ws fun K1 hK1 => ?_
  refine wl_box (cs := [_, _, _]) hF hS rfl (hF.ev rfl) rfl ?_; clear hF a; intro g1 w1 a hS_ hB_ hF; replace hS := hS_; clear hS_ hB_
  refine wl_mvs (A := [_]) hF rfl ?_; clear hF a; intro a hF
  refine wl_nil (hK1 _ _ ?_)
  refine ws fun K2 hK2 => ?_
  refine wl hF rfl rfl rfl (r_field fo63_0 (hF.ev rfl)) ?_; clear hF a; intro a hF
  refine wl hF rfl rfl rfl (r_load1 sc55 (hF.ev rfl) (hS.box (i := 0) rfl rfl)) ?_; clear hF a; intro a hF
  refine wl hF rfl rfl rfl (r_nilCheck (hF.ev rfl)) ?_; clear hF a; intro a hF
  refine wl hF rfl rfl rfl (r_field fo32_1 (hF.ev rfl)) ?_; clear hF a; intro a hF
  refine wl hF rfl rfl rfl (r_load1 sc24 (hF.ev rfl) (cellB hS.old (hc 6 _ rfl))) ?_; clear hF a; intro a hF
  refine wl_mvs (A := [_]) hF rfl ?_; clear hF a; intro a hF
  refine wl_call hF rfl rfl rfl (r_call2 en138 (hF.ev rfl) (hF.ev rfl)) (implLoadCell_c (hS.rd hr)) ?_; clear hF a; rintro v w2 a ⟨rfl, hB_⟩ hF; replace hS := hS.ext hB_; clear hB_
  refine wl_mvs (A := [_]) hF rfl ?_; clear hF a; intro a hF
  refine wl hF rfl rfl rfl (r_extract (hF.ev rfl) rfl) ?_; clear hF a; intro a hF
  refine wl hF rfl rfl rfl (r_extract (hF.ev rfl) rfl) ?_; clear hF a; intro a hF
  refine wl_mvs (A := [_, _]) hF rfl ?_; clear hF a; intro a hF
  refine wl_nil (hK2 _ _ ?_)
  refine ws fun K3 hK3 => ?_
  refine wl_mvs (A := [_, _]) hF rfl ?_; clear hF a; intro a hF
  refine wl_nil (hK3 _ _ ?_)
  refine wp_ret ?_
  try simp only [Exit.then, Exit.inBlock, ↓reduceIte]
  exact ret1 rfl hF rfl ⟨rfl, hS.old⟩
set_option maxHeartbeats 4000000 in
set_option maxRecDepth 20000 in
theorem stpGuard_c {W w : World} {l : List Res} {g gt ot p : Nat} {v0 v1 v2 : Value} {s : Sl.State} {i_ v : Int} (hS : Sep W (Box g (s.encv v0 v1 v2) :: Own intEK v0 s.cells :: l) w) : Calls Tryz.prog 99 #[.agg #[.pointer (some ⟨g, 0, none⟩), .pointer (some ⟨gt, ot + p * 19, none⟩), vi (p : Int)], vi i_, vi v] w (Ret fun u w' => u = .tuple #[] ∧ Sep W (Box g ((putS s (hazardCell s.config (p : Int) i_) v).encv v0 v1 v2) :: Own intEK v0 (putS s (hazardCell s.config (p : Int) i_) v).cells :: l) w') := by
  refine calls_fr Tryz.func99 rfl Tryz.ntmps99 rfl ?_
  intro a hF
  obtain ⟨z0, rfl⟩ := hS.own_sv (q := 1) rfl
  have hl0 := hS.own_len (q := 1) rfl
  refine ws fun K1 hK1 => ?_
  refine wl_box (cs := [_, _, _]) hF hS rfl (hF.ev rfl) rfl ?_; clear hF a; intro g1 w1 a hS_ hB_ hF; replace hS := hS_; clear hS_ hB_
  refine wl_nil (hK1 _ _ ?_)
  refine wp_region_todo (is := [0, 1, 2, 3, 4, 5, 6, 7, 8, 10, 9, 11]) [] [11] (by kernel_rfl) hF hS ⟨trivial, by decide, by decide, by decide⟩ (by kernel_rfl) ?_; clear hF; intro hl_ wd hSd
  refine todo_load [11] hl_ (by kernel_rfl) rfl (gw0 rfl) rfl rfl rfl (fun a w_ hF hB_ => r_loadn ag63 (hF.ev rfl) ((hSd.ext hB_).box_rd (i := 0) rfl) sz63) ?_
  refine todo_pure hl_ (by kernel_rfl) rfl (gw0 rfl) rfl rfl rfl (fun a w_ hF => r_field fo63_0 (hF.ev rfl)) ?_
  refine todo_load [3, 4, 5, 9, 11] hl_ (by kernel_rfl) rfl (gw0 rfl) rfl rfl rfl (fun a w_ hF hB_ => r_load1 sc55 (hF.ev rfl) ((hSd.ext hB_).box (i := 0) rfl rfl)) ?_
  refine todo_pure hl_ (by kernel_rfl) rfl (gw0 rfl) rfl rfl rfl (fun a w_ hF => r_nilCheck (hF.ev rfl)) ?_
  refine todo_pure hl_ (by kernel_rfl) rfl (gw0 rfl) rfl rfl rfl (fun a w_ hF => r_field fo32_0 (hF.ev rfl)) ?_
  refine todo_load [9, 11] hl_ (by kernel_rfl) rfl (gw0 rfl) rfl rfl rfl (fun a w_ hF hB_ => r_loadn ag29 (hF.ev rfl) ((hSd.ext hB_).boxn (vs := [_, _, _, _, _, _]) (i := 1) (m := 6) rfl rfl) sz29) ?_
  refine todo_pure hl_ (by kernel_rfl) rfl (gw0 rfl) rfl rfl rfl (fun a w_ hF => r_field fo63_2 (hF.ev rfl)) ?_
  refine todo_load [9, 11] hl_ (by kernel_rfl) rfl (gw0 rfl) rfl rfl rfl (fun a w_ hF hB_ => r_load1 sc3 (hF.ev rfl) ((hSd.ext hB_).box (i := 0) rfl rfl)) ?_
  refine todo_pure hl_ (by kernel_rfl) rfl (gw0 rfl) rfl rfl rfl (fun a w_ hF => r_move (hF.ev rfl)) ?_
  refine todo_pure hl_ (by kernel_rfl) rfl (gw0 rfl) rfl rfl rfl (fun a w_ hF => r_move (hF.ev rfl)) ?_
  refine todo_rd hl_ rfl (by kernel_rfl) rfl rfl rfl rfl rfl (fun a w_ hF => r_call3 en105 (hF.ev rfl) (hF.ev rfl) (hF.ev rfl)) (fun w_ hS => implHazardCell_c _ _ _) ?_
  refine todo_fork [(11, [])] hl_ rfl (by kernel_rfl) (List.forall_mem_cons.2 ⟨?_, fun _ h_ => nomatch h_⟩)
  ·
    refine op_mc (Γ := Unit) (m' := []) rfl (gw0 rfl) rfl rfl rfl (fun a w_ hF => r_call3 en80 (hF.ev rfl) (hF.ev rfl) (hF.ev rfl)) (fun w_ hS => calls_unit (stpStore_c (s := s) (Sep.headp (A := [_, _, _]) (B := [_, _, _]) hS [1, 2, 0] (by decide) rfl rfl))) ?_; intro _; try clear hSd; try clear wd; intro wd hSd
    refine todo_fin hl_ rfl (by kernel_rfl) (tl := []) rfl ?_; clear hS a; intro a w2 hF hA_
    have hS := hA_.sep; clear hA_
    clear hl_; try clear hSd
    try dsimp only [List.cons_append, List.nil_append, List.set] at hS
    try clear wd
    refine wl_nil ⟨rfl, ?_⟩
    try simp only [Exit.then, Exit.inBlock, ↓reduceIte]
    exact ret0n rfl hF ⟨rfl, (Sep.headp (A := [_, _, _]) (B := [_, _]) hS [0, 1] (by decide) rfl rfl)⟩
end Go.Proofs.YtifhfodphoeeoaaGreat.Wk
namespace Go.Proofs.YtifhfodphoeeoaaGreat.Wk
open Go Go.RowKit Sl
set_option linter.unusedVariables false
set_option linter.unusedSimpArgs false
set_option maxRecDepth 20000
end Go.Proofs.YtifhfodphoeeoaaGreat.Wk
namespace Go.Proofs.YtifhfodphoeeoaaGreat.Wk
open Go Go.RowKit Sl
set_option linter.unusedVariables false
set_option linter.unusedSimpArgs false
set_option maxRecDepth 20000
set_option maxHeartbeats 4000000 in
set_option maxRecDepth 20000 in
theorem l9LoadR_c {W : World} {u0 u1 u2 u3 u4 u5 va : Value} {xs : List Int} {g : Nat} (hc : ∀ j u, [u0, u1, u2, u3, u4, u5, va][j]? = some u → W.cell? ⟨g, 0 + j, none⟩ = some u) (hr : intEK.Rd W va xs) {a_ : Int} : Calls Tryz.prog 88 #[.pointer (some ⟨g, 0, none⟩), vi a_] W (Ret fun v w' => v = vi (loadC xs a_) ∧ Below W.heap.size W w') := by
  refine calls_fr Tryz.func88 rfl Tryz.ntmps88 rfl ?_
  intro a hF
  have hS := Sep.refl W
  obtain ⟨A_a, q_a, rfl, hq_a, hn_a⟩ := hr.sl; unfold maxLen at hn_a
  refine ws fun K1 hK1 => ?_
  refine wl_mvs (A := [_]) hF rfl ?_; clear hF a; intro a hF
  refine wl_nil (hK1 _ _ ?_)
  refine wp_seq_k fun K2 hK2 => ?_
  refine ws fun K3 hK3 => ?_
  refine wl_mvs (A := [_]) hF rfl ?_; clear hF a; intro a hF
  refine wl hF rfl rfl rfl (r_lss (hF.ev rfl) ec) ?_; clear hF a; intro a hF
  refine wl_mvs (A := [_]) hF rfl ?_; clear hF a; intro a hF
  apply wl_or (A := [_, _, _, _, _, _, _, _]) (pk := 15) hF hS (tc := 7) rfl
  ·
    intro hg7 a hF; try simp only [zb1, zb2, zb3, zb4, zb5, zb6, zb7, zb8] at hg7
    refine wl_mvs (A := [_, _]) hF rfl ?_; clear hF a; intro a hF
    refine wl_take hF rfl rfl rfl rfl ?_
    refine wl hF rfl rfl rfl (r_nilCheck (hF.ev rfl)) ?_; clear hF a; intro a hF
    refine wl_take hF rfl rfl rfl rfl ?_
    refine wl hF rfl rfl rfl (r_field fo32_1 (hF.ev rfl)) ?_; clear hF a; intro a hF
    refine wl_take hF rfl rfl rfl rfl ?_
    refine wl hF rfl rfl rfl (r_load1 sc24 (hF.ev rfl) (cellB hS.old (hc 6 _ rfl))) ?_; clear hF a; intro a hF
    refine wl_take hF rfl rfl rfl rfl ?_
    refine wl hF rfl rfl rfl (r_len ul24 (hF.ev rfl)) ?_; clear hF a; intro a hF
    refine wl_take hF rfl rfl rfl rfl ?_
    refine wl hF rfl rfl rfl (r_geq (hF.ev rfl) (hF.ev rfl)) ?_; clear hF a; intro a hF
    refine wl hF rfl rfl rfl (r_pick_f (hF.ev rfl) (hF.ev rfl)) ?_; clear hF a; intro a hF
    exact wl_nil ⟨rfl, (Fr.pre (A := [_, _, _, _, _, _, _, _]) hF rfl).keep hF (t := 15) rfl, hS⟩
  ·
    intro hg7 a hF; try simp only [zb1, zb2, zb3, zb4, zb5, zb6, zb7, zb8] at hg7
    refine wl_mvs (A := [_, _, _, _, _, _, _]) hF rfl ?_; clear hF a; intro a hF
    refine wl hF rfl rfl rfl (r_pick_t (hF.ev rfl) ec) ?_; clear hF a; intro a hF
    exact wl_nil ⟨rfl, (Fr.pre (A := [_, _, _, _, _, _, _, _]) hF rfl).keep hF (t := 15) rfl, hS⟩
  clear hF a hS; intro a w1 hF hS
  refine wl_nil (hK3 _ _ ?_)
  refine wc_fx (t := 15) hF rfl ?_ ?_ <;> clear hF <;> intro c15 hF <;> try simp only [zb1, zb2, zb3, zb4, zb5, zb6, zb7, zb8] at c15
  ·
    refine ws fun K4 hK4 => ?_
    refine wl_mvs (A := [_]) hF rfl ?_; clear hF a; intro a hF
    refine wl_nil (hK4 _ _ ?_)
    refine wp_ret ?_
    try simp only [Exit.then, Exit.inBlock, ↓reduceIte]
    first
      | (refine ret1 rfl hF rfl ⟨congrArg vi (Eq.symm (if_neg (by omega))), hS.old⟩)
      | (refine ret1 rfl hF rfl ⟨congrArg vi (Eq.symm (if_pos (by omega))), hS.old⟩)
  refine wp_skip ?_
  refine hK2 _ _ ?_
  refine ws fun K5 hK5 => ?_
  refine wl_mvs (A := [_]) hF rfl ?_; clear hF a; intro a hF
  refine wl hF rfl rfl rfl (r_nilCheck (hF.ev rfl)) ?_; clear hF a; intro a hF
  refine wl hF rfl rfl rfl (r_field fo32_1 (hF.ev rfl)) ?_; clear hF a; intro a hF
  refine wl hF rfl rfl rfl (r_load1 sc24 (hF.ev rfl) (cellB hS.old (hc 6 _ rfl))) ?_; clear hF a; intro a hF
  refine wl_mvs (A := [_]) hF rfl ?_; clear hF a; intro a hF
  obtain ⟨g21, o21, m21, q21, hv21, hm21, hl21, hc21⟩ := Rd.atF (hr) (a := a) (X := .tmp 20) (hF.ev rfl) (by omega) (by omega)
  refine wl hF rfl rfl rfl (r_index sl24 ((hF.ev rfl).trans hv21) (hF.ev rfl) (by omega) (by first | omega | (simp at hm21; omega))) ?_; clear hF a; intro a hF
  refine wl hF rfl rfl rfl (r_load1 sc3 (hF.ev rfl) (cellB hS.old (hc21 0 _ rfl))) ?_; clear hF a; intro a hF
  refine wl_mvs (A := [_]) hF rfl ?_; clear hF a; intro a hF
  refine wl_nil (hK5 _ _ ?_)
  refine wp_ret ?_
  try simp only [Exit.then, Exit.inBlock, ↓reduceIte]
  first
    | (refine ret1 rfl hF rfl ⟨congrArg vi (Eq.symm (if_neg (by omega))), hS.old⟩)
    | (refine ret1 rfl hF rfl ⟨congrArg vi (Eq.symm (if_pos (by omega))), hS.old⟩)
theorem Fit.sizes {s : Sl.State} {t : Sl.Thread} (h : Fit s t) : sizesOk t := by
  have := h.th
  unfold threadOk at this; simp only [Bool.and_eq_true, decide_eq_true_eq] at this
  exact this.2
end Go.Proofs.YtifhfodphoeeoaaGreat.Wk
namespace Go.Proofs.YtifhfodphoeeoaaGreat.Wk
open Go Go.RowKit Sl
set_option linter.unusedVariables false
set_option linter.unusedSimpArgs false
set_option maxRecDepth 20000
theorem crow_set_le {α : Type} {c : α → Nat} {y : α} {x : α} {k : Nat} : ∀ {xs : List α} {i : Nat}, xs[i]? = some y → c x ≤ c y + k → crow c (xs.set i x) ≤ crow c xs + k
  | [], i, h, _ => by simp at h
  | z :: xs, 0, h, hl => by simp at h; subst h; simp only [List.set_cons_zero, crow]; omega
  | z :: xs, i + 1, h, hl => by
    have := crow_set_le (xs := xs) (i := i) (by simpa using h) hl
    simp only [List.set_cons_succ, crow]; omega
theorem putC_len {xs : List Int} {a v : Int} : (putC xs a v).length = xs.length := by unfold putC; split <;> simp
theorem endT_size {t : Sl.Thread} {c x : Int} : (endT t c x).size ≤ t.size := by unfold endT clearT Sl.Thread.size; simp only [List.length_nil]; omega
/-- a step makes a state longer by at most k -/
theorem stepOf_size {isf : Int → Bool} {f : Sl.State → Sl.Thread → Int → Sl.State × Sl.Thread} {s : Sl.State} {p : Int} (k : Nat) (hk : ∀ s t p, ((f s t p).1.cells.length = s.cells.length ∧ (f s t p).1.generations.length = s.generations.length) ∧ (f s t p).2.size ≤ t.size + k) : (stepOf isf f s p).1.size ≤ s.size + k := by
  unfold stepOf
  split
  · rename_i h
    have hp := (running_of h.1).2
    have hx : s.threads[p.toNat]? = some (at0 s.threads ((p.toNat : Nat) : Int)) := at0_nat (by omega)
    obtain ⟨⟨h1, h2⟩, h3⟩ := hk (stepped s) (at0 s.threads ((p.toNat : Nat) : Int)) ((p.toNat : Nat) : Int)
    have h4 := crow_set_le (c := Sl.Thread.size) hx h3
    have e1 : (stepBy f (stepped s) p.toNat).size = (f (stepped s) (at0 s.threads ((p.toNat : Nat) : Int)) ((p.toNat : Nat) : Int)).1.cells.length + (f (stepped s) (at0 s.threads ((p.toNat : Nat) : Int)) ((p.toNat : Nat) : Int)).1.generations.length + ((s.threads.set p.toNat (f (stepped s) (at0 s.threads ((p.toNat : Nat) : Int)) ((p.toNat : Nat) : Int)).2).length + crow Sl.Thread.size (s.threads.set p.toNat (f (stepped s) (at0 s.threads ((p.toNat : Nat) : Int)) ((p.toNat : Nat) : Int)).2)) := rfl
    have e2 : s.size = s.cells.length + s.generations.length + (s.threads.length + crow Sl.Thread.size s.threads) := rfl
    have h5 : (stepped s).cells.length = s.cells.length := rfl
    have h6 : (stepped s).generations.length = s.generations.length := rfl
    show (stepBy f (stepped s) p.toNat).size ≤ s.size + k
    rw [e1, e2, List.length_set]
    omega
  · exact Nat.le_add_right _ _
end Go.Proofs.YtifhfodphoeeoaaGreat.Wk
namespace Go.Proofs.YtifhfodphoeeoaaGreat.Wk
open Go Go.RowKit Sl
set_option linter.unusedVariables false
set_option linter.unusedSimpArgs false
set_option maxRecDepth 20000
def foundN (t : Sl.Thread) (n : Int) : List Int := if n = 0 then t.found else t.found ++ [n]
section
variable {gs fr hs : List Int} {h : Int} {k : Nat}
end
theorem foundN_len {t : Sl.Thread} {n : Int} : (foundN t n).length ≤ t.found.length + 1 := by unfold foundN; split <;> simp
end Go.Proofs.YtifhfodphoeeoaaGreat.Wk
namespace Go.Proofs.YtifhfodphoeeoaaGreat.Wk
open Go Go.RowKit Sl
set_option linter.unusedVariables false
set_option linter.unusedSimpArgs false
set_option maxRecDepth 20000
set_option maxHeartbeats 4000000 in
set_option maxRecDepth 20000 in
theorem current2_c {W : World} {s : Sl.State} {g : Nat} {v0 v1 v2 : Value} (hc : ∀ j u, (s.encv v0 v1 v2)[j]? = some u → W.cell? ⟨g, 0 + j, none⟩ = some u) (hr : intEK.Rd W v1 s.generations) (hg : (s.generations.length : Int) = s.config.capacity) {h : Int} (hh : int64 h) : Calls Tryz.prog 145 #[.pointer (some ⟨g, 0, none⟩), vi h] W (Ret fun v w' => v = .bool (isNode s.config h && decide (at0 s.generations (indexOf h) = genOf h)) ∧ Below W.heap.size W w') := by
  refine calls_fr Tryz.func145 rfl Tryz.ntmps145 rfl ?_
  intro a hF
  have hS := Sep.refl W
  obtain ⟨A_a, q_a, rfl, hq_a, hn_a⟩ := hr.sl; unfold maxLen at hn_a
  refine ws fun K1 hK1 => ?_
  refine wl_mvs (A := [_]) hF rfl ?_; clear hF a; intro a hF
  refine wl_nil (hK1 _ _ ?_)
  refine wp_seq_k fun K2 hK2 => ?_
  refine wp_region_calm (by kernel_rfl) (by kernel_rfl) ?_
  refine wq_mvs (A := [_]) hF rfl ?_; clear hF a; intro a hF
  refine wq hF rfl rfl rfl (fun w_ hB_ => r_nilCheck (hF.ev rfl)) ?_; clear hF a; intro a hF
  refine wq hF rfl rfl rfl (fun w_ hB_ => r_field fo32_0 (hF.ev rfl)) ?_; clear hF a; intro a hF
  refine wq hF rfl rfl rfl (fun w_ hB_ => r_loadn ag29 (hF.ev rfl) (fun j_ u_ hu_ => cellB (hS.ext hB_).old ((subcells (vs := [_, _, _, _, _, _]) hc 0 6 rfl) j_ u_ hu_)) sz29) ?_; clear hF a; intro a hF
  refine wq_mvs (A := [_]) hF rfl ?_; clear hF a; intro a hF
  refine wq_call hF rfl rfl rfl (fun w_ hB_ => r_call2 en158 (hF.ev rfl) (hF.ev rfl)) (fun w_ hB_ => isNode_c hh) ?_; clear hF a; intro a hF
  refine wq_mvs (A := [_]) hF rfl ?_; clear hF a; intro a hF
  apply wq_and (A := [_, _, _, _, _, _, _, _, _, _, _, _]) (pk := 23) hF (tc := 11) rfl
  ·
    intro hg11 a hF; try simp only [zb1, zb2, zb3, zb4, zb5, zb6, zb7, zb8] at hg11
    have hg11b := hg11; unfold isNode at hg11b; simp only [Bool.and_eq_true, decide_eq_true_eq] at hg11b
    have hi0 := indexOf_pos hg11b.1
    refine wq_mvs (A := [_]) hF rfl ?_; clear hF a; intro a hF
    refine wq_take hF rfl rfl rfl rfl ?_
    refine wq hF rfl rfl rfl (fun w_ hB_ => r_nilCheck (hF.ev rfl)) ?_; clear hF a; intro a hF
    refine wq_take hF rfl rfl rfl rfl ?_
    refine wq hF rfl rfl rfl (fun w_ hB_ => r_field fo32_2 (hF.ev rfl)) ?_; clear hF a; intro a hF
    refine wq_take hF rfl rfl rfl rfl ?_
    refine wq hF rfl rfl rfl (fun w_ hB_ => r_load1 sc24 (hF.ev rfl) (cellB (hS.ext hB_).old (hc 7 _ rfl))) ?_; clear hF a; intro a hF
    refine wq_mvs (A := [_]) hF rfl ?_; clear hF a; intro a hF
    refine wq_take hF rfl rfl rfl rfl ?_
    refine wq_call hF rfl rfl rfl (fun w_ hB_ => r_call1 en107 (hF.ev rfl)) (fun w_ hB_ => implIndexOf_c hh) ?_; clear hF a; intro a hF
    refine wq_take hF rfl rfl rfl rfl ?_
    obtain ⟨g18, o18, m18, q18, hv18, hm18, hl18, hc18⟩ := Rd.atF (hr) (a := a) (X := .tmp 17) (hF.ev rfl) (by omega) (by omega)
    refine wq hF rfl rfl rfl (fun w_ hB_ => r_index sl24 ((hF.ev rfl).trans hv18) (hF.ev rfl) (by omega) (by first | omega | (simp at hm18; omega))) ?_; clear hF a; intro a hF
    refine wq_take hF rfl rfl rfl rfl ?_
    refine wq hF rfl rfl rfl (fun w_ hB_ => r_load1 sc3 (hF.ev rfl) (cellB (hS.ext hB_).old (hc18 0 _ rfl))) ?_; clear hF a; intro a hF
    refine wq_mvs (A := [_]) hF rfl ?_; clear hF a; intro a hF
    refine wq_take hF rfl rfl rfl rfl ?_
    refine wq_call hF rfl rfl rfl (fun w_ hB_ => r_call1 en180 (hF.ev rfl)) (fun w_ hB_ => implGenOf_c hh) ?_; clear hF a; intro a hF
    refine wq_take hF rfl rfl rfl rfl ?_
    refine wq hF rfl rfl rfl (fun w_ hB_ => r_eql (hF.ev rfl) (hF.ev rfl)) ?_; clear hF a; intro a hF
    refine wq hF rfl rfl rfl (fun w_ hB_ => r_pick_t (hF.ev rfl) (hF.ev rfl)) ?_; clear hF a; intro a hF
    exact wpQuiet_nil ((Fr.pre (A := [_, _, _, _, _, _, _, _, _, _, _, _]) hF rfl).keep hF (t := 23) rfl)
  ·
    intro hg11 a hF; try simp only [zb1, zb2, zb3, zb4, zb5, zb6, zb7, zb8] at hg11
    refine wq_mvs (A := [_, _, _, _, _, _, _, _, _, _, _]) hF rfl ?_; clear hF a; intro a hF
    refine wq hF rfl rfl rfl (fun w_ hB_ => r_pick_f (hF.ev rfl) ec) ?_; clear hF a; intro a hF
    exact wpQuiet_nil ((Fr.pre (A := [_, _, _, _, _, _, _, _, _, _, _, _]) hF rfl).keep hF (t := 23) rfl)
  clear hF a; intro a hF
  refine wq_mvs (A := [_]) hF rfl ?_; clear hF a; intro a hF
  refine wpQuiet_nil ?_; intro w2 hB_; replace hS := hS.ext hB_; clear hB_
  refine hK2 _ _ ?_
  refine wp_ret ?_
  try simp only [Exit.then, Exit.inBlock, ↓reduceIte]
  exact ret1 rfl hF rfl ⟨rfl, hS.old⟩
set_option maxHeartbeats 4000000 in
set_option maxRecDepth 20000 in
theorem stpField_c {W w : World} {l : List Res} {g gt ot p : Nat} {v0 v2 : Value} {z1 : Slv} {s : Sl.State} {h f : Int} (hh : int64 h) (hg : (s.generations.length : Int) = s.config.capacity) (hS : Sep W (Box g ((s).encv v0 (sv z1) v2) :: Own intEK (sv z1) s.generations :: l) w) : Calls Tryz.prog 101 #[.agg #[.pointer (some ⟨g, 0, none⟩), .pointer (some ⟨gt, ot + p * 19, none⟩), vi (p : Int)], vi h, vi f] w (Ret fun r w' => r = vi (cellOf s h f) ∧ Sep W (Box g ((faultS s h).encv v0 (sv z1) v2) :: Own intEK (sv z1) s.generations :: l) w') := by
  refine calls_fr Tryz.func101 rfl Tryz.ntmps101 rfl ?_
  intro a hF
  have hu := int64_unmarked hh
  refine ws fun K1 hK1 => ?_
  refine wl_box (cs := [_, _, _]) hF hS rfl (hF.ev rfl) rfl ?_; clear hF a; intro g1 w1 a hS_ hB_ hF; replace hS := hS_; clear hS_ hB_
  refine wl_mvs (A := [_]) hF rfl ?_; clear hF a; intro a hF
  refine wl_nil (hK1 _ _ ?_)
  refine ws fun K2 hK2 => ?_
  refine wl_mvs (A := [_]) hF rfl ?_; clear hF a; intro a hF
  refine wl_call hF rfl rfl rfl (r_call1 en95 (hF.ev rfl)) (implUnmarked_c hh) ?_; clear hF a; rintro v w2 a ⟨rfl, hB_⟩ hF; replace hS := hS.ext hB_; clear hB_
  refine wl_mvs (A := [_]) hF rfl ?_; clear hF a; intro a hF
  refine wl_nil (hK2 _ _ ?_)
  refine wp_seq_k fun K3 hK3 => ?_
  refine ws fun K4 hK4 => ?_
  refine wl hF rfl rfl rfl (r_field fo63_0 (hF.ev rfl)) ?_; clear hF a; intro a hF
  refine wl hF rfl rfl rfl (r_load1 sc55 (hF.ev rfl) (hS.box (i := 0) rfl rfl)) ?_; clear hF a; intro a hF
  refine wl_mvs (A := [_]) hF rfl ?_; clear hF a; intro a hF
  refine wl_call hF rfl rfl rfl (r_call2 en145 (hF.ev rfl) (hF.ev rfl)) (current2_c (fun j u hu => hS.box_rd (i := 1) rfl j u hu) (hS.own_rd (i := 2) rfl) hg hu) ?_; clear hF a; rintro v w3 a ⟨rfl, hB_⟩ hF; replace hS := hS.ext hB_; clear hB_
  refine wl hF rfl rfl rfl (r_not (hF.ev rfl)) ?_; clear hF a; intro a hF
  refine wl_nil (hK4 _ _ ?_)
  refine wc_fx (t := 13) hF rfl ?_ ?_ <;> clear hF <;> intro c13 hF <;> try simp only [zb1, zb2, zb3, zb4, zb5, zb6, zb7, zb8] at c13
  ·
    refine ws fun K5 hK5 => ?_
    refine wl hF rfl rfl rfl (r_field fo63_0 (hF.ev rfl)) ?_; clear hF a; intro a hF
    refine wl hF rfl rfl rfl (r_load1 sc55 (hF.ev rfl) (hS.box (i := 0) rfl rfl)) ?_; clear hF a; intro a hF
    refine wl hF rfl rfl rfl (r_nilCheck (hF.ev rfl)) ?_; clear hF a; intro a hF
    refine wl hF rfl rfl rfl (r_field fo32_7 (hF.ev rfl)) ?_; clear hF a; intro a hF
    refine wl hF rfl rfl rfl (r_load1 sc3 (hF.ev rfl) (hS.box (i := 1) rfl rfl)) ?_; clear hF a; intro a hF
    refine wl hF rfl rfl rfl (r_add (hF.ev rfl) ec) ?_; clear hF a; intro a hF
    refine wl hF rfl rfl rfl (r_nilCheck (hF.ev rfl)) ?_; clear hF a; intro a hF
    refine wl hF rfl rfl rfl (r_field fo32_7 (hF.ev rfl)) ?_; clear hF a; intro a hF
    refine wl_store hF hS (i := 1) rfl sz3 (hF.ev rfl) (hF.ev rfl) rfl rfl ?_; intro w4 hS_; replace hS := hS_; clear hS_; dsimp only [List.set, Nat.reduceAdd] at hS
    refine wl_nil (hK5 _ _ ?_)
    refine ws fun K6 hK6 => ?_
    refine wl_mvs (A := [_]) hF rfl ?_; clear hF a; intro a hF
    refine wl_nil (hK6 _ _ ?_)
    refine wp_ret ?_
    try simp only [Exit.then, Exit.inBlock, ↓reduceIte]
    first
      | (have e : ¬ curB s.config s.generations h = true := fun h' => by unfold curB at h'; simp_all
         refine ret1 rfl hF rfl ⟨congrArg vi (Eq.symm (if_neg e)), ?_⟩; unfold faultS; rw [if_neg e]; exact (Sep.headp (A := [_, _, _]) (B := [_, _]) hS [1, 2] (by decide) rfl rfl))
      | (have e : curB s.config s.generations h = true := by unfold curB; simp_all
         refine ret1 rfl hF rfl ⟨congrArg vi (Eq.symm (if_pos e)), ?_⟩; unfold faultS; rw [if_pos e]; exact (Sep.headp (A := [_, _, _]) (B := [_, _]) hS [1, 2] (by decide) rfl rfl))
  refine wp_skip ?_
  refine hK3 _ _ ?_
  refine wp_seq_k fun K7 hK7 => ?_
  refine wp_region_calm (by kernel_rfl) (by kernel_rfl) ?_
  refine wq hF rfl rfl rfl (fun w_ hB_ => r_field fo63_0 (hF.ev rfl)) ?_; clear hF a; intro a hF
  refine wq hF rfl rfl rfl (fun w_ hB_ => r_load1 sc55 (hF.ev rfl) ((hS.ext hB_).box (i := 0) rfl rfl)) ?_; clear hF a; intro a hF
  refine wq hF rfl rfl rfl (fun w_ hB_ => r_nilCheck (hF.ev rfl)) ?_; clear hF a; intro a hF
  refine wq hF rfl rfl rfl (fun w_ hB_ => r_field fo32_0 (hF.ev rfl)) ?_; clear hF a; intro a hF
  refine wq hF rfl rfl rfl (fun w_ hB_ => r_loadn ag29 (hF.ev rfl) ((hS.ext hB_).boxn (vs := [_, _, _, _, _, _]) (i := 1) (m := 6) rfl rfl) sz29) ?_; clear hF a; intro a hF
  refine wq_mvs (A := [_]) hF rfl ?_; clear hF a; intro a hF
  refine wq_call hF rfl rfl rfl (fun w_ hB_ => r_call1 en107 (hF.ev rfl)) (fun w_ hB_ => implIndexOf_c hu) ?_; clear hF a; intro a hF
  refine wq_mvs (A := [_]) hF rfl ?_; clear hF a; intro a hF
  refine wq_call hF rfl rfl rfl (fun w_ hB_ => r_call3 en124 (hF.ev rfl) (hF.ev rfl) (hF.ev rfl)) (fun w_ hB_ => implNodeCell_c _ _ _) ?_; clear hF a; intro a hF
  refine wq_mvs (A := [_]) hF rfl ?_; clear hF a; intro a hF
  refine wpQuiet_nil ?_; intro w5 hB_; replace hS := hS.ext hB_; clear hB_
  refine hK7 _ _ ?_
  refine wp_ret ?_
  try simp only [Exit.then, Exit.inBlock, ↓reduceIte]
  first
    | (have e : ¬ curB s.config s.generations h = true := fun h' => by unfold curB at h'; simp_all
       refine ret1 rfl hF rfl ⟨congrArg vi (Eq.symm (if_neg e)), ?_⟩; unfold faultS; rw [if_neg e]; exact (Sep.headp (A := [_, _, _]) (B := [_, _]) hS [1, 2] (by decide) rfl rfl))
    | (have e : curB s.config s.generations h = true := by unfold curB; simp_all
       refine ret1 rfl hF rfl ⟨congrArg vi (Eq.symm (if_pos e)), ?_⟩; unfold faultS; rw [if_pos e]; exact (Sep.headp (A := [_, _, _]) (B := [_, _]) hS [1, 2] (by decide) rfl rfl))
end Go.Proofs.YtifhfodphoeeoaaGreat.Wk
namespace Go.Proofs.YtifhfodphoeeoaaGreat.Wk
open Go Go.RowKit Sl
set_option linter.unusedVariables false
set_option linter.unusedSimpArgs false
set_option maxRecDepth 20000
def keyF (t : Sl.Thread) : Int := if t.op.kind = 5 then -1 else t.op.key
def scanA (s : Sl.State) (t : Sl.Thread) : Int := loadC s.cells (announceCell s.config t.at_)
def scanF (s : Sl.State) (t : Sl.Thread) : List Int := foundN t (scanA s t)
def afterT (c : Config) (t : Sl.Thread) : Sl.Thread := if limboLimit c ≤ (t.limbo.length : Int) ∨ t.op.kind = 5 ∧ (0 : Int) < t.limbo.length then { clearT t with pc := 70 } else endT t 0 0
def mergeT (s : Sl.State) (t : Sl.Thread) : Sl.Thread := { t with found := scanF s t, at_ := IntKind.i64.wrap (t.at_ + 1), buffer := splitK s.config.policy (keyF t) t.buffer (scanF s t), work := t.work ++ splitD s.config.policy (keyF t) t.buffer (scanF s t), pc := 60 }
def scanT (s : Sl.State) (t : Sl.Thread) : Sl.Thread :=
  if IntKind.i64.wrap (t.at_ + 1) < s.config.threads then { t with found := scanF s t, at_ := IntKind.i64.wrap (t.at_ + 1) }
  else if ((t.work.length + (splitD s.config.policy (keyF t) t.buffer (scanF s t)).length : Nat) : Int) = 0 then afterT s.config (mergeT s t) else mergeT s t
def flushS (s : Sl.State) (t : Sl.Thread) (p : Int) : Sl.State × Sl.Thread :=
  if t.pc = 50 then (s, scanT s t)
  else if t.pc = 60 then (faultS s (at0 t.work 0).handle, { t with seen := loadC s.cells (cellOf s (at0 t.work 0).handle 2), pc := 61 })
  else if t.pc = 61 then
    if hitB s.cells (cellOf s (at0 t.work 0).handle 2) t.seen = true then (swapS (faultS s (at0 t.work 0).handle) (cellOf s (at0 t.work 0).handle 2) t.seen (marked t.seen), { t with pc := 10 })
    else ({ swapS (faultS s (at0 t.work 0).handle) (cellOf s (at0 t.work 0).handle 2) t.seen (marked t.seen) with retries := IntKind.i64.wrap (s.retries + 1) }, { t with pc := 60 })
  else if t.pc = 62 then (putS s (hazardCell s.config p 0) 0, { t with pc := 63 })
  else if t.pc = 63 then (putS s (hazardCell s.config p 1) 0, afterT s.config t)
  else (s, t)
def isF (n : Int) : Bool := decide (n = 50) || decide (60 ≤ n ∧ n ≤ 63)
theorem flush_steps (s : Sl.State) (t : Sl.Thread) (p : Int) : flushS (stepped s) t p = (stepped (flushS s t p).1, (flushS s t p).2) := by
  have e1 : hitB (stepped s).cells (cellOf (stepped s) (at0 t.work 0).handle 2) t.seen = hitB s.cells (cellOf s (at0 t.work 0).handle 2) t.seen := rfl
  unfold flushS
  rw [e1]
  split; · rfl
  split; · rfl
  split; · split <;> rfl
  split; · rfl
  split <;> rfl
theorem afterT_size {c : Config} {t : Sl.Thread} : (afterT c t).size ≤ t.size := by
  unfold afterT
  split
  · unfold clearT Sl.Thread.size; simp only [List.length_nil]; omega
  · exact endT_size
theorem mergeT_size {s : Sl.State} {t : Sl.Thread} : (mergeT s t).size ≤ t.size + 1 := by
  have h1 := foundN_len (t := t) (n := scanA s t)
  have h2 := splitE_len s.config.policy (keyF t) t.buffer (scanF s t)
  unfold mergeT Sl.Thread.size scanF at *; dsimp only; simp only [List.length_append]; omega
theorem scanT_size {s : Sl.State} {t : Sl.Thread} : (scanT s t).size ≤ t.size + 1 := by
  have h1 := foundN_len (t := t) (n := scanA s t)
  have h2 := mergeT_size (s := s) (t := t)
  unfold scanT
  split
  · unfold Sl.Thread.size scanF; dsimp only; omega
  split
  · exact Nat.le_trans afterT_size h2
  · exact h2
theorem flushS_size (s : Sl.State) (t : Sl.Thread) (p : Int) : ((flushS s t p).1.cells.length = s.cells.length ∧ (flushS s t p).1.generations.length = s.generations.length) ∧ (flushS s t p).2.size ≤ t.size + 1 := by
  unfold flushS
  repeat' split
  all_goals (refine ⟨⟨?_, rfl⟩, ?_⟩)
  all_goals first | rfl | exact Nat.le_succ _ | exact scanT_size | exact Nat.le_trans afterT_size (Nat.le_succ _) | exact putC_len | (unfold swapS faultS; dsimp only; split <;> first | rfl | exact putC_len)
theorem Fit.work {s : Sl.State} {t : Sl.Thread} (hf : Fit s t) (h : t.pc = 60 ∨ t.pc = 61) : 0 < t.work.length := by
  have h2 := hf.th
  unfold threadOk at h2; simp only [Bool.and_eq_true, decide_eq_true_eq] at h2
  have h3 := h2.1.1.1.2
  unfold pcOk at h3
  have := h3.2.1
  omega
theorem Fit.hand {s : Sl.State} {t : Sl.Thread} (hf : Fit s t) (h : 0 < t.work.length) : int64 (at0 t.work 0).handle := (hf.wt.2.2.2.2.2.2.2.2.2.2.2.2.2.2.1 _ (at0_mem (by omega) (by omega))).1
set_option maxHeartbeats 4000000 in
set_option maxRecDepth 20000 in
theorem l15After_c {W w : World} {l : List Res} {g gt ot mt ct p : Nat} {v0 v1 : Value} {s : Sl.State} {ts : List Sl.Thread} {t : Sl.Thread} (hp : p < ts.length) (hS : Sep W (Box g (s.encv v0 v1 (.slice (some ⟨gt, ot, none⟩) mt ct)) :: Own threadEK (.slice (some ⟨gt, ot, none⟩) mt ct) (ts.set p (t)) :: l) w) : Calls Tryz.prog 110 #[.pointer (some ⟨g, 0, none⟩), vi (p : Int)] w (Ret fun v w' => v = .tuple #[] ∧ Sep W (Box g (s.encv v0 v1 (.slice (some ⟨gt, ot, none⟩) mt ct)) :: Own threadEK (.slice (some ⟨gt, ot, none⟩) mt ct) (ts.set p (afterT s.config t)) :: l) w') := by
  refine calls_fr Tryz.func110 rfl Tryz.ntmps110 rfl ?_
  intro a hF
  have hmt := hS.own_len (s := (some ⟨gt, ot, none⟩, mt, ct)) (q := 1) rfl
  simp only [List.length_set] at hmt
  refine ws fun K1 hK1 => ?_
  refine wl_mvs (A := [_]) hF rfl ?_; clear hF a; intro a hF
  refine wl hF rfl rfl rfl (r_nilCheck (hF.ev rfl)) ?_; clear hF a; intro a hF
  refine wl hF rfl rfl rfl (r_field fo32_3 (hF.ev rfl)) ?_; clear hF a; intro a hF
  refine wl hF rfl rfl rfl (r_load1 sc30 (hF.ev rfl) (hS.box (i := 0) rfl rfl)) ?_; clear hF a; intro a hF
  refine wl_mvs (A := [_]) hF rfl ?_; clear hF a; intro a hF
  refine wl hF rfl rfl rfl (r_index sl30 (hF.ev rfl) (hF.ev rfl) (by omega) (by first | omega | (dsimp only; omega))) ?_; clear hF a; intro a hF
  refine wl_mvs (A := [_]) hF rfl ?_; clear hF a; intro a hF
  refine wl_nil (hK1 _ _ ?_)
  refine ws fun K2 hK2 => ?_
  refine wl_mvs (A := [_]) hF rfl ?_; clear hF a; intro a hF
  refine wl hF rfl rfl rfl (r_nilCheck (hF.ev rfl)) ?_; clear hF a; intro a hF
  refine wl hF rfl rfl rfl (r_field fo53_15 (hF.ev rfl)) ?_; clear hF a; intro a hF
  obtain ⟨ce15, ke15, ze15, he15⟩ := hS.eltK (q := 1) hp rfl; have kk15 := ke15; obtain ⟨u15_0, u15_1, u15_2, u15_3, u15_4, rfl, f15_0, f15_1, f15_2, f15_3, f15_4⟩ := ke15
  obtain ⟨Ae15, qe15, rfl, _, hme15⟩ := f15_4.sl; unfold maxLen at hme15
  refine wl hF rfl rfl rfl (r_load1 sc24 (hF.ev rfl) (he15 18 _ rfl)) ?_; clear hF a; intro a hF
  refine wl hF rfl rfl rfl (r_len ul24 (hF.ev rfl)) ?_; clear hF a; intro a hF
  refine wl_mvs (A := [_]) hF rfl ?_; clear hF a; intro a hF
  refine wl_nil (hK2 _ _ ?_)
  refine wp_seq_k fun K3 hK3 => ?_
  refine ws fun K4 hK4 => ?_
  refine wl_mvs (A := [_, _]) hF rfl ?_; clear hF a; intro a hF
  refine wl hF rfl rfl rfl (r_nilCheck (hF.ev rfl)) ?_; clear hF a; intro a hF
  refine wl hF rfl rfl rfl (r_field fo32_0 (hF.ev rfl)) ?_; clear hF a; intro a hF
  refine wl hF rfl rfl rfl (r_loadn ag29 (hF.ev rfl) (hS.boxn (vs := [_, _, _, _, _, _]) (i := 0) (m := 6) rfl rfl) sz29) ?_; clear hF a; intro a hF
  refine wl_call hF rfl rfl rfl (r_call1 en150 (hF.ev rfl)) (specLimboLimit_c _) ?_; clear hF a; rintro v w1 a ⟨rfl, hB_⟩ hF; replace hS := hS.ext hB_; clear hB_
  refine wl hF rfl rfl rfl (r_geq (hF.ev rfl) (hF.ev rfl)) ?_; clear hF a; intro a hF
  refine wl_mvs (A := [_]) hF rfl ?_; clear hF a; intro a hF
  apply wl_or (A := [_, _, _, _, _, _, _, _, _, _, _]) (pk := 35) hF hS (tc := 24) rfl
  ·
    intro hg24 a hF; try simp only [zb1, zb2, zb3, zb4, zb5, zb6, zb7, zb8] at hg24
    refine wl_mvs (A := [_]) hF rfl ?_; clear hF a; intro a hF
    refine wl_take hF rfl rfl rfl rfl ?_
    refine wl hF rfl rfl rfl (r_nilCheck (hF.ev rfl)) ?_; clear hF a; intro a hF
    refine wl_take hF rfl rfl rfl rfl ?_
    refine wl hF rfl rfl rfl (r_field fo53_1 (hF.ev rfl)) ?_; clear hF a; intro a hF
    refine wl_take hF rfl rfl rfl rfl ?_
    refine wl hF rfl rfl rfl (r_field fo48_0 (hF.ev rfl)) ?_; clear hF a; intro a hF
    refine wl_take hF rfl rfl rfl rfl ?_
    refine wl hF rfl rfl rfl (r_load1 sc3 (hF.ev rfl) (hS.elt1 (q := 1) (j := 1) hp rfl (fun _ => rfl))) ?_; clear hF a; intro a hF
    refine wl_take hF rfl rfl rfl rfl ?_
    refine wl hF rfl rfl rfl (r_eql (hF.ev rfl) ec) ?_; clear hF a; intro a hF
    refine wl_mvs (A := [_]) hF rfl ?_; clear hF a; intro a hF
    apply wl_and (A := [_, _, _]) (pk := 34) hF hS (tc := 31) rfl
    ·
      intro hg31 a hF; try simp only [zb1, zb2, zb3, zb4, zb5, zb6, zb7, zb8] at hg31
      refine wl_mvs (A := [_]) hF rfl ?_; clear hF a; intro a hF
      refine wl_take hF rfl rfl rfl rfl ?_
      refine wl hF rfl rfl rfl (r_gtr (hF.ev rfl) ec) ?_; clear hF a; intro a hF
      refine wl_take hF rfl rfl rfl rfl ?_
      refine wl hF rfl rfl rfl (r_pick_t (hF.ev rfl) (hF.ev rfl)) ?_; clear hF a; intro a hF
      exact wl_nil ⟨rfl, (Fr.pre (A := [_, _, _]) hF rfl).keep hF (t := 34) rfl, hS⟩
    ·
      intro hg31 a hF; try simp only [zb1, zb2, zb3, zb4, zb5, zb6, zb7, zb8] at hg31
      refine wl_mvs (A := [_, _]) hF rfl ?_; clear hF a; intro a hF
      refine wl_take hF rfl rfl rfl rfl ?_
      refine wl hF rfl rfl rfl (r_pick_f (hF.ev rfl) ec) ?_; clear hF a; intro a hF
      exact wl_nil ⟨rfl, (Fr.pre (A := [_, _, _]) hF rfl).keep hF (t := 34) rfl, hS⟩
    intro a w2 hF hS
    refine wl hF rfl rfl rfl (r_pick_f (hF.ev rfl) (hF.ev rfl)) ?_; clear hF a; intro a hF
    exact wl_nil ⟨rfl, (Fr.pre (A := [_, _, _, _, _, _, _, _, _]) hF rfl).keep hF (t := 35) rfl, hS⟩
  ·
    intro hg24 a hF; try simp only [zb1, zb2, zb3, zb4, zb5, zb6, zb7, zb8] at hg24
    refine wl_mvs (A := [_, _, _, _, _, _, _, _, _, _]) hF rfl ?_; clear hF a; intro a hF
    refine wl hF rfl rfl rfl (r_pick_t (hF.ev rfl) ec) ?_; clear hF a; intro a hF
    exact wl_nil ⟨rfl, (Fr.pre (A := [_, _, _, _, _, _, _, _, _, _, _]) hF rfl).keep hF (t := 35) rfl, hS⟩
  clear hF a hS; intro a w3 hF hS
  refine wl_nil (hK4 _ _ ?_)
  refine wc_fx (t := 35) hF rfl ?_ ?_ <;> clear hF <;> intro c35 hF <;> try simp only [zb1, zb2, zb3, zb4, zb5, zb6, zb7, zb8] at c35
  ·
    refine ws fun K5 hK5 => ?_
    refine wl_mvs (A := [_]) hF rfl ?_; clear hF a; intro a hF
    replace hS := Sep.headp (A := [_, _]) (B := [_, _]) hS [1, 0] (by decide) rfl rfl
    refine wl_call hF rfl rfl rfl (r_call1 en131 (hF.ev rfl)) (l10Clear_c hp hS) ?_; clear hF a; rintro v w4 a ⟨rfl, hS_⟩ hF; replace hS := hS_; clear hS_
    refine wl_nil (hK5 _ _ ?_)
    refine ws fun K6 hK6 => ?_
    refine wl_mvs (A := [_]) hF rfl ?_; clear hF a; intro a hF
    refine wl hF rfl rfl rfl (r_nilCheck (hF.ev rfl)) ?_; clear hF a; intro a hF
    refine wl hF rfl rfl rfl (r_field fo53_0 (hF.ev rfl)) ?_; clear hF a; intro a hF
    refine wl_estore (q := 0) (j := 0) (⟨_, ⟨_, _, _⟩, ⟨_, _⟩, _, _, _, _, _, _, _, _, _, _, _, _, _⟩ : Sl.Thread) hF hS hp rfl sz3 (hF.ev rfl) rfl ec rfl (fun _ => rfl) (fun _ => by dsimp only [threadEK, Thread.encv, List.set] <;> rfl) (by intro _; rfl) ?_; intro w5 hS_; replace hS := hS_; clear hS_; dsimp only [List.set] at hS
    refine wl_nil (hK6 _ _ ?_)
    refine wp_ret ?_
    try simp only [Exit.then, Exit.inBlock, ↓reduceIte]
    refine ret0 rfl hF ⟨rfl, ?_⟩
    unfold afterT
    rw [if_pos c35]
    exact (Sep.headp (A := [_, _]) (B := [_, _]) hS [1, 0] (by decide) rfl rfl)
  refine wp_skip ?_
  refine hK3 _ _ ?_
  refine wp_region_lit ?_
  refine wl_mvs (A := [_, _]) hF rfl ?_; clear hF a; intro a hF
  refine wl_call hF rfl rfl rfl (r_call4 en71 (hF.ev rfl) (hF.ev rfl) ec ec) (l10Finish_c (s := s) hp hS) ?_; clear hF a; rintro v w6 a ⟨rfl, hS_⟩ hF; replace hS := hS_; clear hS_
  refine wl_nil ?_
  try simp only [Exit.then, Exit.inBlock, ↓reduceIte]
  refine ret0n rfl hF ⟨rfl, ?_⟩
  unfold afterT
  rw [if_neg (by omega)]
  exact hS
set_option maxHeartbeats 4000000 in
set_option maxRecDepth 20000 in
theorem stpFin_c {W w : World} {l : List Res} {g gt ot mt ct p : Nat} {v0 v1 : Value} {s : Sl.State} {ts : List Sl.Thread} {t : Sl.Thread} (hp : p < ts.length) (hS : Sep W (Box g (s.encv v0 v1 (.slice (some ⟨gt, ot, none⟩) mt ct)) :: Own threadEK (.slice (some ⟨gt, ot, none⟩) mt ct) (ts.set p (t)) :: l) w) : Calls Tryz.prog 112 #[.agg #[.pointer (some ⟨g, 0, none⟩), .pointer (some ⟨gt, ot + p * 19, none⟩), vi (p : Int)]] w (Ret fun v w' => v = .tuple #[] ∧ Sep W (Box g (s.encv v0 v1 (.slice (some ⟨gt, ot, none⟩) mt ct)) :: Own threadEK (.slice (some ⟨gt, ot, none⟩) mt ct) (ts.set p (afterT s.config t)) :: l) w') := by
  refine calls_fr Tryz.func112 rfl Tryz.ntmps112 rfl ?_
  intro a hF
  have hmt := hS.own_len (s := (some ⟨gt, ot, none⟩, mt, ct)) (q := 1) rfl
  simp only [List.length_set] at hmt
  refine ws fun K1 hK1 => ?_
  refine wl_box (cs := [_, _, _]) hF hS rfl (hF.ev rfl) rfl ?_; clear hF a; intro g1 w1 a hS_ hB_ hF; replace hS := hS_; clear hS_ hB_
  refine wl_nil (hK1 _ _ ?_)
  refine ws fun K2 hK2 => ?_
  refine wl hF rfl rfl rfl (r_field fo63_1 (hF.ev rfl)) ?_; clear hF a; intro a hF
  refine wl hF rfl rfl rfl (r_load1 sc61 (hF.ev rfl) (hS.box (i := 0) rfl rfl)) ?_; clear hF a; intro a hF
  refine wl_mvs (A := [_]) hF rfl ?_; clear hF a; intro a hF
  refine wl_nil (hK2 _ _ ?_)
  refine wp_seq_k fun K3 hK3 => ?_
  refine wp_seq_k fun K4 hK4 => ?_
  refine wp_region_calm (by kernel_rfl) (by kernel_rfl) ?_
  refine wq_mvs (A := [_]) hF rfl ?_; clear hF a; intro a hF
  refine wq hF rfl rfl rfl (fun w_ hB_ => r_nilCheck (hF.ev rfl)) ?_; clear hF a; intro a hF
  refine wq hF rfl rfl rfl (fun w_ hB_ => r_field fo53_15 (hF.ev rfl)) ?_; clear hF a; intro a hF
  obtain ⟨ce8, ke8, ze8, he8⟩ := hS.eltK (q := 2) hp rfl; have kk8 := ke8; obtain ⟨u8_0, u8_1, u8_2, u8_3, u8_4, rfl, f8_0, f8_1, f8_2, f8_3, f8_4⟩ := ke8
  obtain ⟨Ae8, qe8, rfl, _, hme8⟩ := f8_4.sl; unfold maxLen at hme8
  refine wq hF rfl rfl rfl (fun w_ hB_ => r_load1 sc24 (hF.ev rfl) (cellB hB_ (he8 18 _ rfl))) ?_; clear hF a; intro a hF
  refine wq hF rfl rfl rfl (fun w_ hB_ => r_len ul24 (hF.ev rfl)) ?_; clear hF a; intro a hF
  refine wq hF rfl rfl rfl (fun w_ hB_ => r_field fo63_0 (hF.ev rfl)) ?_; clear hF a; intro a hF
  refine wq hF rfl rfl rfl (fun w_ hB_ => r_load1 sc55 (hF.ev rfl) ((hS.ext hB_).box (i := 0) rfl rfl)) ?_; clear hF a; intro a hF
  refine wq hF rfl rfl rfl (fun w_ hB_ => r_nilCheck (hF.ev rfl)) ?_; clear hF a; intro a hF
  refine wq hF rfl rfl rfl (fun w_ hB_ => r_field fo32_0 (hF.ev rfl)) ?_; clear hF a; intro a hF
  refine wq hF rfl rfl rfl (fun w_ hB_ => r_loadn ag29 (hF.ev rfl) ((hS.ext hB_).boxn (vs := [_, _, _, _, _, _]) (i := 1) (m := 6) rfl rfl) sz29) ?_; clear hF a; intro a hF
  refine wq_call hF rfl rfl rfl (fun w_ hB_ => r_call1 en153 (hF.ev rfl)) (fun w_ hB_ => implLimboLimit_c _) ?_; clear hF a; intro a hF
  refine wq hF rfl rfl rfl (fun w_ hB_ => r_geq (hF.ev rfl) (hF.ev rfl)) ?_; clear hF a; intro a hF
  refine wq_mvs (A := [_]) hF rfl ?_; clear hF a; intro a hF
  apply wq_or (A := [_, _, _, _, _, _, _, _, _, _, _, _, _, _, _]) (pk := 32) hF (tc := 17) rfl
  ·
    intro hg17 a hF; try simp only [zb1, zb2, zb3, zb4, zb5, zb6, zb7, zb8] at hg17
    refine wq_mvs (A := [_]) hF rfl ?_; clear hF a; intro a hF
    refine wq_take hF rfl rfl rfl rfl ?_
    refine wq hF rfl rfl rfl (fun w_ hB_ => r_nilCheck (hF.ev rfl)) ?_; clear hF a; intro a hF
    refine wq_take hF rfl rfl rfl rfl ?_
    refine wq hF rfl rfl rfl (fun w_ hB_ => r_field fo53_1 (hF.ev rfl)) ?_; clear hF a; intro a hF
    refine wq_take hF rfl rfl rfl rfl ?_
    refine wq hF rfl rfl rfl (fun w_ hB_ => r_field fo48_0 (hF.ev rfl)) ?_; clear hF a; intro a hF
    refine wq_take hF rfl rfl rfl rfl ?_
    refine wq hF rfl rfl rfl (fun w_ hB_ => r_load1 sc3 (hF.ev rfl) ((hS.ext hB_).elt1 (q := 2) (j := 1) hp rfl (fun _ => rfl))) ?_; clear hF a; intro a hF
    refine wq_take hF rfl rfl rfl rfl ?_
    refine wq hF rfl rfl rfl (fun w_ hB_ => r_eql (hF.ev rfl) ec) ?_; clear hF a; intro a hF
    refine wq_mvs (A := [_]) hF rfl ?_; clear hF a; intro a hF
    apply wq_and (A := [_, _, _, _, _, _, _]) (pk := 31) hF (tc := 24) rfl
    ·
      intro hg24 a hF; try simp only [zb1, zb2, zb3, zb4, zb5, zb6, zb7, zb8] at hg24
      refine wq_mvs (A := [_]) hF rfl ?_; clear hF a; intro a hF
      refine wq_take hF rfl rfl rfl rfl ?_
      refine wq hF rfl rfl rfl (fun w_ hB_ => r_nilCheck (hF.ev rfl)) ?_; clear hF a; intro a hF
      refine wq_take hF rfl rfl rfl rfl ?_
      refine wq hF rfl rfl rfl (fun w_ hB_ => r_field fo53_15 (hF.ev rfl)) ?_; clear hF a; intro a hF
      refine wq_take hF rfl rfl rfl rfl ?_
      obtain ⟨ce28, ke28, ze28, he28⟩ := hS.eltK (q := 2) hp rfl; have kk28 := ke28; obtain ⟨u28_0, u28_1, u28_2, u28_3, u28_4, rfl, f28_0, f28_1, f28_2, f28_3, f28_4⟩ := ke28
      obtain ⟨Ae28, qe28, rfl, _, hme28⟩ := f28_4.sl; unfold maxLen at hme28
      refine wq hF rfl rfl rfl (fun w_ hB_ => r_load1 sc24 (hF.ev rfl) (cellB hB_ (he28 18 _ rfl))) ?_; clear hF a; intro a hF
      refine wq_take hF rfl rfl rfl rfl ?_
      refine wq hF rfl rfl rfl (fun w_ hB_ => r_len ul24 (hF.ev rfl)) ?_; clear hF a; intro a hF
      refine wq_take hF rfl rfl rfl rfl ?_
      refine wq hF rfl rfl rfl (fun w_ hB_ => r_gtr (hF.ev rfl) ec) ?_; clear hF a; intro a hF
      refine wq_take hF rfl rfl rfl rfl ?_
      refine wq hF rfl rfl rfl (fun w_ hB_ => r_pick_t (hF.ev rfl) (hF.ev rfl)) ?_; clear hF a; intro a hF
      exact wpQuiet_nil ((Fr.pre (A := [_, _, _, _, _, _, _]) hF rfl).keep hF (t := 31) rfl)
    ·
      intro hg24 a hF; try simp only [zb1, zb2, zb3, zb4, zb5, zb6, zb7, zb8] at hg24
      refine wq_mvs (A := [_, _, _, _, _, _]) hF rfl ?_; clear hF a; intro a hF
      refine wq_take hF rfl rfl rfl rfl ?_
      refine wq hF rfl rfl rfl (fun w_ hB_ => r_pick_f (hF.ev rfl) ec) ?_; clear hF a; intro a hF
      exact wpQuiet_nil ((Fr.pre (A := [_, _, _, _, _, _, _]) hF rfl).keep hF (t := 31) rfl)
    intro a hF
    refine wq hF rfl rfl rfl (fun w_ hB_ => r_pick_f (hF.ev rfl) (hF.ev rfl)) ?_; clear hF a; intro a hF
    exact wpQuiet_nil ((Fr.pre (A := [_, _, _, _, _, _, _, _, _]) hF rfl).keep hF (t := 32) rfl)
  ·
    intro hg17 a hF; try simp only [zb1, zb2, zb3, zb4, zb5, zb6, zb7, zb8] at hg17
    refine wq_mvs (A := [_, _, _, _, _, _, _, _, _, _, _, _, _, _]) hF rfl ?_; clear hF a; intro a hF
    refine wq hF rfl rfl rfl (fun w_ hB_ => r_pick_t (hF.ev rfl) ec) ?_; clear hF a; intro a hF
    exact wpQuiet_nil ((Fr.pre (A := [_, _, _, _, _, _, _, _, _, _, _, _, _, _, _]) hF rfl).keep hF (t := 32) rfl)
  clear hF a; intro a hF
  refine wpQuiet_nil ?_; intro w4 hB_; replace hS := hS.ext hB_; clear hB_
  refine hK4 _ _ ?_
  refine wc_fx (t := 32) hF rfl ?_ ?_ <;> clear hF <;> intro c32 hF <;> try simp only [zb1, zb2, zb3, zb4, zb5, zb6, zb7, zb8] at c32
  ·
    refine ws fun K5 hK5 => ?_
    refine wl_mvs (A := [_]) hF rfl ?_; clear hF a; intro a hF
    replace hS := Sep.headp (A := [_, _, _]) (B := [_, _, _]) hS [2, 0, 1] (by decide) rfl rfl
    refine wl_call hF rfl rfl rfl (r_call1 en139 (hF.ev rfl)) (thClear_c hp hS) ?_; clear hF a; rintro v w5 a ⟨rfl, hS_⟩ hF; replace hS := hS_; clear hS_
    refine wl_nil (hK5 _ _ ?_)
    refine ws fun K6 hK6 => ?_
    refine wl_mvs (A := [_]) hF rfl ?_; clear hF a; intro a hF
    refine wl hF rfl rfl rfl (r_nilCheck (hF.ev rfl)) ?_; clear hF a; intro a hF
    refine wl hF rfl rfl rfl (r_field fo53_0 (hF.ev rfl)) ?_; clear hF a; intro a hF
    refine wl_estore (q := 0) (j := 0) (⟨_, ⟨_, _, _⟩, ⟨_, _⟩, _, _, _, _, _, _, _, _, _, _, _, _, _⟩ : Sl.Thread) hF hS hp rfl sz3 (hF.ev rfl) rfl ec rfl (fun _ => rfl) (fun _ => by dsimp only [threadEK, Thread.encv, List.set] <;> rfl) (by intro _; rfl) ?_; intro w6 hS_; replace hS := hS_; clear hS_; dsimp only [List.set] at hS
    refine wl_nil (hK6 _ _ ?_)
    refine wp_ret ?_
    try simp only [Exit.then, Exit.inBlock, ↓reduceIte]
    refine ret0 rfl hF ⟨rfl, ?_⟩
    unfold afterT
    rw [if_pos c32]
    exact (Sep.headp (A := [_, _, _]) (B := [_, _]) hS [2, 0] (by decide) rfl rfl)
  refine wp_skip ?_
  refine hK3 _ _ ?_
  refine wp_region_lit ?_
  refine wl_mvs (A := [_]) hF rfl ?_; clear hF a; intro a hF
  refine wl hF rfl rfl rfl (r_build (bd50) trivial) ?_; clear hF a; intro a hF
  replace hS := Sep.headp (A := [_, _, _]) (B := [_, _, _]) hS [2, 0, 1] (by decide) rfl rfl
  refine wl_call hF rfl rfl rfl (r_call2 en83 (hF.ev rfl) (hF.ev rfl)) (thEnd_c (r := ⟨0, 0⟩) hp hS) ?_; clear hF a; rintro v w7 a ⟨rfl, hS_⟩ hF; replace hS := hS_; clear hS_
  refine wl_nil ?_
  try simp only [Exit.then, Exit.inBlock, ↓reduceIte]
  refine ret0n rfl hF ⟨rfl, ?_⟩
  unfold afterT
  rw [if_neg (by omega)]
  exact (Sep.headp (A := [_, _, _]) (B := [_, _]) hS [2, 0] (by decide) rfl rfl)
end Go.Proofs.YtifhfodphoeeoaaGreat.Wk
