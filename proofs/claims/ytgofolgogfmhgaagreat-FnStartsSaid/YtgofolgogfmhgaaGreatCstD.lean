/- Lemmas for the row of RwSt. -/
import Derived.Test.YtgofolgogfmhgaaGreatCstC
namespace Go.Proofs.YtgofolgogfmhgaaGreat.Wk
open Go Go.RowKit Sl
set_option linter.unusedVariables false
set_option linter.unusedSimpArgs false
set_option maxRecDepth 20000
def marked (h : Int) : Int := if h = 0 ∨ isHandle h = true ∧ h.tmod 2 = 0 then IntKind.i64.wrap (h + 1) else h
def isNeeded (e : Entry) (ns : List Int) : Bool := ns.any fun n => decide (e.low ≤ n) && decide (n < e.high)
def isPast (e : Entry) (ns : List Int) : Bool := !ns.any fun n => decide (n < e.high)
def dropB (pol key : Int) (ns : List Int) (e : Entry) : Bool := if pol = 1 then isPast e ns else if pol = 2 then !isNeeded e ns && (decide (key < 0) || decide (e.key = key)) else !isNeeded e ns
def splitK (pol key : Int) (es : List Entry) (ns : List Int) : List Entry := es.filter fun e => !dropB pol key ns e
def splitD (pol key : Int) (es : List Entry) (ns : List Int) : List Entry := es.filter fun e => dropB pol key ns e
section
variable {α : Type} {xs : List α} {x : α} {k : Nat} {q : α → Bool}
theorem any_nxt (h : (xs.take k).any q = false) (hx : xs[k]? = some x) (hp : q x = false) : (xs.take (k + 1)).any q = false := by
 rw [List.take_add_one, hx, List.any_append, h]; simp [hp]
theorem any_yes (hx : xs[k]? = some x) (hp : q x = true) : xs.any q = true := List.any_eq_true.2 ⟨x, List.mem_of_getElem? hx, hp⟩
theorem any_done (h : (xs.take k).any q = false) (hk : xs.length ≤ k) : xs.any q = false := by rwa [List.take_of_length_le hk] at h
theorem flt_yes (hx : xs[k]? = some x) (hp : q x = true) : (xs.take (k + 1)).filter q = (xs.take k).filter q ++ [x] := by
 rw [List.take_add_one, hx, List.filter_append]; simp [hp]
theorem flt_no (hx : xs[k]? = some x) (hp : q x = false) : (xs.take (k + 1)).filter q = (xs.take k).filter q := by
 rw [List.take_add_one, hx, List.filter_append]; simp [hp]
theorem flt_le (xs : List α) (q : α → Bool) (k : Nat) : ((xs.take k).filter q).length ≤ xs.length := Nat.le_trans (List.length_filter_le _ _) (by simp; omega)
end
theorem splitE_len (pol key : Int) (es : List Entry) (ns : List Int) : (splitK pol key es ns).length + (splitD pol key es ns).length = es.length := by
 unfold splitK splitD
 induction es with
 | nil => rfl
 | cons x xs ih =>
   simp only [List.filter_cons]
   cases h : dropB pol key ns x <;> simp <;> omega
set_option maxHeartbeats 4000000 in
set_option maxRecDepth 20000 in
theorem specMarked_c {W : World} {h : Int} (h1 : int64 h) : Calls Tryz.prog 170 #[vi h] W (Ret fun v w' => v = vi (marked h) ∧ Below W.heap.size W w') := by
 refine calls_fr Tryz.func170 rfl Tryz.ntmps170 rfl ?_
 intro a hF
 have hS := Sep.refl W
 refine ws fun K1 hK1 => ?_
 refine ra 1 hF tk rfl fun a hF => ?_
 refine wl_nil (hK1 _ _ ?_)
 refine wp_seq_k fun K2 hK2 => ?_
 refine ws fun K3 hK3 => ?_
 refine ra 3 hF tk rfl fun a hF => ?_
 apply wl_or (A := [_, _, _, _, _, _, _, _]) (pk := 13) hF hS (tc := 5) rfl
 ·
  intro hg5 a hF; try simp only [zb] at hg5
  refine ra 1 hF tk rfl fun a hF => ?_
  refine wl_take hF rfl rfl rfl rfl ?_
  refine wl_call hF rfl rfl rfl (r_call1 en157 (hF.ev rfl)) (specIsHandle_c h1) ?_; clear hF a; rintro v w1 a ⟨rfl, hB_⟩ hF; have hS := hS.ext hB_
  refine ra 1 hF tk rfl fun a hF => ?_
  apply wl_and (A := [_, _, _, _]) (pk := 12) hF hS (tc := 8) rfl
  ·
   intro hg8 a hF; try simp only [zb] at hg8
   refine ra 1 hF tk rfl fun a hF => ?_
   refine wl_take hF rfl rfl rfl rfl ?_
   refine wl hF rfl rfl rfl (r_rem (by first | decide | omega) (hF.ev rfl) ec) fun a hF => ?_
   refine ra 2 hF tk rfl fun a hF => ?_
   exact wl_nil ⟨rfl, (Fr.pre (A := [_, _, _, _]) hF rfl).keep hF (t := 12) rfl, hS⟩
  ·
   intro hg8 a hF; try simp only [zb] at hg8
   refine ra 4 hF tk rfl fun a hF => ?_
   exact wl_nil ⟨rfl, (Fr.pre (A := [_, _, _, _]) hF rfl).keep hF (t := 12) rfl, hS⟩
  intro a w2 hF hS
  refine ra 1 hF tk rfl fun a hF => ?_
  exact wl_nil ⟨rfl, (Fr.pre (A := [_, _, _, _, _]) hF rfl).keep hF (t := 13) rfl, hS⟩
 ·
  intro hg5 a hF; try simp only [zb] at hg5
  refine ra 8 hF tk rfl fun a hF => ?_
  exact wl_nil ⟨rfl, (Fr.pre (A := [_, _, _, _, _, _, _, _]) hF rfl).keep hF (t := 13) rfl, hS⟩
 clear hF a hS; intro a w3 hF hS
 refine wl_nil (hK3 _ _ ?_)
 refine wc_fx (t := 13) hF rfl ?_ ?_ <;> clear hF <;> intro c13 hF <;> try simp only [zb] at c13
 ·
  refine ws fun K4 hK4 => ?_
  refine ra 3 hF tk rfl fun a hF => ?_
  refine wl_nil (hK4 _ _ ?_)
  refine wp_ret ?_
  try simp only [Exit.then, Exit.inBlock, ↓reduceIte]
  refine ret1 rfl hF rfl ⟨congrArg vi (Eq.symm ?_), hS.old⟩
  unfold marked
  first | exact if_pos c13 | exact if_neg (by rintro (a | ⟨a, b⟩); exact c13.1 a; rcases c13.2 with c | c; (rw [c] at a; cases a); exact c b)
 refine wp_skip ?_
 refine hK2 _ _ ?_
 refine ws fun K5 hK5 => ?_
 refine ra 2 hF tk rfl fun a hF => ?_
 refine wl_nil (hK5 _ _ ?_)
 refine wp_ret ?_
 try simp only [Exit.then, Exit.inBlock, ↓reduceIte]
 refine ret1 rfl hF rfl ⟨congrArg vi (Eq.symm ?_), hS.old⟩
 unfold marked
 first | exact if_pos c13 | exact if_neg (by rintro (a | ⟨a, b⟩); exact c13.1 a; rcases c13.2 with c | c; (rw [c] at a; cases a); exact c b)
set_option maxHeartbeats 4000000 in
set_option maxRecDepth 20000 in
theorem specNeeded_c {W : World} {e : Entry} {va : Value} {xs : List Int} (ha : intEK.Rd W va xs) : Calls Tryz.prog 204 #[.agg e.enc.toArray, va] W (Ret fun v w' => v = .bool (isNeeded e xs) ∧ Below W.heap.size W w') := by
 refine calls_fr Tryz.func204 rfl Tryz.ntmps204 rfl ?_
 intro a hF
 have hS := Sep.refl W
 obtain ⟨A_a, q_a, rfl, hq_a, hn_a⟩ := ha.sl; unfold maxLen at hn_a
 refine ws fun K1 hK1 => ?_
 refine wl_box (cs := [_, _, _, _]) hF hS rfl (hF.ev rfl) rfl ?_; clear hF a; intro g1 w1 a hS_ hB_ hF; replace hS := hS_; clear hS_ hB_
 refine ra 1 hF tk rfl fun a hF => ?_
 refine wl_nil (hK1 _ _ ?_)
 refine wp_seq_k fun K2 hK2 => ?_
 refine ws fun K3 hK3 => ?_
 refine ra 1 hF tk rfl fun a hF => ?_
 refine wl_nil (hK3 _ _ ?_)
 refine wp_block ?_
 have hL_ := (((hF.nil.keep hF (t := 4) rfl).keep hF (t := 2) rfl).keep hF (t := 1) rfl)
 refine wp_loop_r (σ := Nat) (fun k L_ => (5, vi k) :: L_) (fun k => (k ≤ xs.length) ∧ ((xs.take k).any (fun n => decide (e.low ≤ n) && decide (n < e.high)) = false)) (fun k => xs.length - k) 0 hS (hL_.keepE hF (t := 5) rfl rfl) ?_ ?_
 · exact ⟨Nat.zero_le _, rfl⟩
 clear hF hS hL_ a
 rintro k a w2 ⟨hk, hn⟩ hS hF; try dsimp only at hF; try dsimp only at hS
 refine wp_seq_k fun K4 hK4 => ?_
 refine ws fun K5 hK5 => ?_
 refine ra 4 hF tk rfl fun a hF => ?_
 refine wl_nil (hK5 _ _ ?_)
 refine wc_fx (t := 9) hF rfl ?_ ?_ <;> clear hF <;> intro c9 hF <;> try simp only [zb] at c9
 ·
  have hlt : k < xs.length := by omega
  have hx := at0_nat hlt
  refine wp_skip ?_
  refine hK4 _ _ ?_
  refine wp_seq_k fun K6 hK6 => ?_
  refine wp_block ?_
  refine wp_seq_k fun K7 hK7 => ?_
  refine wp_region_calm (by kernel_rfl) (by kernel_rfl) ?_
  refine qb 4 0 hF tk hS rfl rfl rfl fun a hF => ?_
  obtain ⟨g16, o16, m16, q16, hv16, hm16, hl16, hc16⟩ := Rd.atF (ha) (a := a) (X := .tmp 15) (hF.ev rfl) (by omega) (by omega)
  refine wq hF rfl rfl rfl (fun w_ hB_ => r_index sl26 ((hF.ev rfl).trans hv16) (hF.ev rfl) (by omega) (by first | omega | (simp at hm16; omega))) fun a hF => ?_
  refine wq hF rfl rfl rfl (fun w_ hB_ => r_load1 sc3 (hF.ev rfl) (cellB (hS.ext hB_).old (hc16 0 _ rfl))) fun a hF => ?_
  refine qa 2 hF tk rfl fun a hF => ?_
  apply wq_and (A := [_, _, _, _, _, _, _, _]) (pk := 27) hF (tc := 19) rfl
  ·
   intro hg19 a hF; try simp only [zb] at hg19
   refine qa 2 hF tk rfl fun a hF => ?_
   refine wq_take hF rfl rfl rfl rfl ?_
   obtain ⟨g22, o22, m22, q22, hv22, hm22, hl22, hc22⟩ := Rd.atF (ha) (a := a) (X := .tmp 21) (hF.ev rfl) (by omega) (by omega)
   refine wq hF rfl rfl rfl (fun w_ hB_ => r_index sl26 ((hF.ev rfl).trans hv22) (hF.ev rfl) (by omega) (by first | omega | (simp at hm22; omega))) fun a hF => ?_
   refine wq_take hF rfl rfl rfl rfl ?_
   refine wq hF rfl rfl rfl (fun w_ hB_ => r_load1 sc3 (hF.ev rfl) (cellB (hS.ext hB_).old (hc22 0 _ rfl))) fun a hF => ?_
   refine qb 4 0 hF tk hS rfl rfl rfl fun a hF => ?_
   exact wpQuiet_nil ((Fr.pre (A := [_, _, _, _, _, _, _, _]) hF rfl).keep hF (t := 27) rfl)
  ·
   intro hg19 a hF; try simp only [zb] at hg19
   refine qa 8 hF tk rfl fun a hF => ?_
   exact wpQuiet_nil ((Fr.pre (A := [_, _, _, _, _, _, _, _]) hF rfl).keep hF (t := 27) rfl)
  clear hF a; intro a hF
  refine wpQuiet_nil ?_; intro w4 hB_; have hS := hS.ext hB_
  refine hK7 _ _ ?_
  refine wc_fx (t := 27) hF rfl ?_ ?_ <;> clear hF <;> intro c27 hF <;> try simp only [zb] at c27
  ·
   refine ws fun K8 hK8 => ?_
   refine ra 1 hF tk rfl fun a hF => ?_
   refine wl_nil (hK8 _ _ ?_)
   refine wp_ret ?_
   try simp only [Exit.then, Exit.inBlock, ↓reduceIte]
   first
     | (refine ret1 rfl hF rfl ⟨congrArg Value.bool (Eq.symm ?_), hS.old⟩; exact any_yes hx (by simp only [Bool.and_eq_true, decide_eq_true_eq]; exact c27))
     | (refine ret1 rfl hF rfl ⟨congrArg Value.bool (Eq.symm ?_), hS.old⟩; exact any_done hn (by omega))
  refine wp_skip ?_
  simp only [Exit.then, Exit.inBlock, ↓reduceIte]
  refine hK6 _ _ ?_
  refine wp_region_lit ?_
  refine ra 3 hF tk rfl fun a hF => ?_
  refine wl_nil ?_
  try simp only [Exit.then, Exit.inBlock, ↓reduceIte]
  refine ⟨k + 1, ⟨by omega, any_nxt hn hx (by rw [Bool.and_eq_false_iff, decide_eq_false_iff_not, decide_eq_false_iff_not]; omega)⟩, hS, ((((hF.nil.keep hF (t := 4) rfl).keep hF (t := 2) rfl).keep hF (t := 1) rfl).keepE hF (t := 5) rfl (wk (by omega))), by omega⟩
 refine wp_exit ?_
 simp only [Exit.then, Exit.inBlock, ↓reduceIte]
 refine hK2 _ _ ?_
 refine ws fun K9 hK9 => ?_
 refine ra 1 hF tk rfl fun a hF => ?_
 refine wl_nil (hK9 _ _ ?_)
 refine wp_ret ?_
 try simp only [Exit.then, Exit.inBlock, ↓reduceIte]
 first
   | (refine ret1 rfl hF rfl ⟨congrArg Value.bool (Eq.symm ?_), hS.old⟩; exact any_yes hx (by simp only [Bool.and_eq_true, decide_eq_true_eq]; exact c27))
   | (refine ret1 rfl hF rfl ⟨congrArg Value.bool (Eq.symm ?_), hS.old⟩; exact any_done hn (by omega))
set_option maxHeartbeats 4000000 in
set_option maxRecDepth 20000 in
theorem specPast_c {W : World} {e : Entry} {va : Value} {xs : List Int} (ha : intEK.Rd W va xs) : Calls Tryz.prog 205 #[.agg e.enc.toArray, va] W (Ret fun v w' => v = .bool (isPast e xs) ∧ Below W.heap.size W w') := by
 refine calls_fr Tryz.func205 rfl Tryz.ntmps205 rfl ?_
 intro a hF
 have hS := Sep.refl W
 obtain ⟨A_a, q_a, rfl, hq_a, hn_a⟩ := ha.sl; unfold maxLen at hn_a
 refine ws fun K1 hK1 => ?_
 refine wl_box (cs := [_, _, _, _]) hF hS rfl (hF.ev rfl) rfl ?_; clear hF a; intro g1 w1 a hS_ hB_ hF; replace hS := hS_; clear hS_ hB_
 refine ra 1 hF tk rfl fun a hF => ?_
 refine wl_nil (hK1 _ _ ?_)
 refine wp_seq_k fun K2 hK2 => ?_
 refine ws fun K3 hK3 => ?_
 refine ra 1 hF tk rfl fun a hF => ?_
 refine wl_nil (hK3 _ _ ?_)
 refine wp_block ?_
 have hL_ := (((hF.nil.keep hF (t := 4) rfl).keep hF (t := 2) rfl).keep hF (t := 1) rfl)
 refine wp_loop_r (σ := Nat) (fun k L_ => (5, vi k) :: L_) (fun k => (k ≤ xs.length) ∧ ((xs.take k).any (fun n => decide (n < e.high)) = false)) (fun k => xs.length - k) 0 hS (hL_.keepE hF (t := 5) rfl rfl) ?_ ?_
 · exact ⟨Nat.zero_le _, rfl⟩
 clear hF hS hL_ a
 rintro k a w2 ⟨hk, hn⟩ hS hF; try dsimp only at hF; try dsimp only at hS
 refine wp_seq_k fun K4 hK4 => ?_
 refine ws fun K5 hK5 => ?_
 refine ra 4 hF tk rfl fun a hF => ?_
 refine wl_nil (hK5 _ _ ?_)
 refine wc_fx (t := 9) hF rfl ?_ ?_ <;> clear hF <;> intro c9 hF <;> try simp only [zb] at c9
 ·
  have hlt : k < xs.length := by omega
  have hx := at0_nat hlt
  refine wp_skip ?_
  refine hK4 _ _ ?_
  refine wp_seq_k fun K6 hK6 => ?_
  refine wp_block ?_
  refine wp_seq_k fun K7 hK7 => ?_
  refine wp_region_calm (by kernel_rfl) (by kernel_rfl) ?_
  refine qa 2 hF tk rfl fun a hF => ?_
  obtain ⟨g14, o14, m14, q14, hv14, hm14, hl14, hc14⟩ := Rd.atF (ha) (a := a) (X := .tmp 13) (hF.ev rfl) (by omega) (by omega)
  refine wq hF rfl rfl rfl (fun w_ hB_ => r_index sl26 ((hF.ev rfl).trans hv14) (hF.ev rfl) (by omega) (by first | omega | (simp at hm14; omega))) fun a hF => ?_
  refine wq hF rfl rfl rfl (fun w_ hB_ => r_load1 sc3 (hF.ev rfl) (cellB (hS.ext hB_).old (hc14 0 _ rfl))) fun a hF => ?_
  refine qb 3 0 hF tk hS rfl rfl rfl fun a hF => ?_
  refine wpQuiet_nil ?_; intro w3 hB_; have hS := hS.ext hB_
  refine hK7 _ _ ?_
  refine wc_fx (t := 18) hF rfl ?_ ?_ <;> clear hF <;> intro c18 hF <;> try simp only [zb] at c18
  ·
   refine ws fun K8 hK8 => ?_
   refine ra 1 hF tk rfl fun a hF => ?_
   refine wl_nil (hK8 _ _ ?_)
   refine wp_ret ?_
   try simp only [Exit.then, Exit.inBlock, ↓reduceIte]
   refine ret1 rfl hF rfl ⟨congrArg Value.bool (Eq.symm ?_), hS.old⟩; unfold isPast
   first
     | (rw [any_yes (q := fun n => decide (n < e.high)) hx (decide_eq_true c18)]; rfl)
     | (rw [any_done (q := fun n => decide (n < e.high)) hn (by omega)]; rfl)
  refine wp_skip ?_
  simp only [Exit.then, Exit.inBlock, ↓reduceIte]
  refine hK6 _ _ ?_
  refine wp_region_lit ?_
  refine ra 3 hF tk rfl fun a hF => ?_
  refine wl_nil ?_
  try simp only [Exit.then, Exit.inBlock, ↓reduceIte]
  refine ⟨k + 1, ⟨by omega, any_nxt hn hx (decide_eq_false (by omega))⟩, hS, ((((hF.nil.keep hF (t := 4) rfl).keep hF (t := 2) rfl).keep hF (t := 1) rfl).keepE hF (t := 5) rfl (wk (by omega))), by omega⟩
 refine wp_exit ?_
 simp only [Exit.then, Exit.inBlock, ↓reduceIte]
 refine hK2 _ _ ?_
 refine ws fun K9 hK9 => ?_
 refine ra 1 hF tk rfl fun a hF => ?_
 refine wl_nil (hK9 _ _ ?_)
 refine wp_ret ?_
 try simp only [Exit.then, Exit.inBlock, ↓reduceIte]
 refine ret1 rfl hF rfl ⟨congrArg Value.bool (Eq.symm ?_), hS.old⟩; unfold isPast
 first
   | (rw [any_yes (q := fun n => decide (n < e.high)) hx (decide_eq_true c18)]; rfl)
   | (rw [any_done (q := fun n => decide (n < e.high)) hn (by omega)]; rfl)
set_option maxHeartbeats 4000000 in
set_option maxRecDepth 20000 in
theorem specSplitE_c {W : World} {pol key : Int} {va vb : Value} {es : List Entry} {ns : List Int} (ha : entryEK.Rd W va es) (hb : intEK.Rd W vb ns) (hz : es.length ≤ 1048576) : Calls Tryz.prog 190 #[vi pol, vi key, va, vb] W (Ret (Mk W (fun (γ : Slv × Slv) => .tuple #[sv γ.1, sv γ.2]) (fun γ => [Own entryEK (sv γ.1) (splitK pol key es ns), Own entryEK (sv γ.2) (splitD pol key es ns)]))) := by
 refine calls_fr Tryz.func190 rfl Tryz.ntmps190 rfl ?_
 intro a hF
 have hS := Sep.refl W
 obtain ⟨A_a, q_a, rfl, hq_a, hn_a⟩ := ha.sl; unfold maxLen at hn_a
 obtain ⟨A_b, q_b, rfl, hq_b, hn_b⟩ := hb.sl; unfold maxLen at hn_b
 refine ws fun K1 hK1 => ?_
 refine ra 2 hF tk rfl fun a hF => ?_
 refine wl_nil (hK1 _ _ ?_)
 refine ws fun K2 hK2 => ?_
 refine wl_bslice entryEK [] [] rfl hF hS rfl mk40 rfl trivial rfl rfl rfl rfl ?_; clear hF a; intro gl_14 w1 a hS_ hF; replace hS := hS_; clear hS_
 refine ra 1 hF tk rfl fun a hF => ?_
 refine wl_nil (hK2 _ _ ?_)
 refine ws fun K3 hK3 => ?_
 refine wl_bslice entryEK [] [] rfl hF hS rfl mk40 rfl trivial rfl rfl rfl rfl ?_; clear hF a; intro gl_15 w2 a hS_ hF; replace hS := hS_; clear hS_
 refine ra 1 hF tk rfl fun a hF => ?_
 refine wl_nil (hK3 _ _ ?_)
 refine wp_seq_k fun K4 hK4 => ?_
 refine ws fun K5 hK5 => ?_
 refine ra 1 hF tk rfl fun a hF => ?_
 refine wl_nil (hK5 _ _ ?_)
 refine wp_block ?_
 replace hS := hS.pull (p := 0) rfl; dsimp only [List.eraseIdx] at hS
 replace hS := hS.pull (p := 1) rfl; dsimp only [List.eraseIdx] at hS
 have hL_ := ((((((hF.nil.keep hF (t := 9) rfl).keep hF (t := 8) rfl).keep hF (t := 3) rfl).keep hF (t := 2) rfl).keep hF (t := 1) rfl).keep hF (t := 0) rfl)
 refine wp_loop_m (σ := Nat × Slv × Slv) (fun z L_ => (12, vi z.1) :: (10, sv z.2.1) :: (11, sv z.2.2) :: L_) (fun z l_ => (Own entryEK (sv z.2.1) ((es.take z.1).filter fun e => !dropB pol key ns e)) :: (Own entryEK (sv z.2.2) ((es.take z.1).filter fun e => dropB pol key ns e)) :: l_) (fun z => (z.1 ≤ es.length)) (fun z => es.length - z.1) (0, (_, _, _), (_, _, _)) (hS) (((hL_.keepE hF (t := 11) rfl rfl).keepE hF (t := 10) rfl rfl).keepE hF (t := 12) rfl rfl) ?_ ?_
 · exact Nat.zero_le _
 clear hF hS hL_ a
 rintro ⟨k, ⟨Ak, nk, ck⟩, ⟨Ad, nd, cd⟩⟩ a w3 hk hS hF; try dsimp only at hF; try dsimp only at hS; try dsimp only at hk
 have hnk := hS.own_len (q := 0) (s := (Ak, nk, ck)) rfl
 have hnd := hS.own_len (q := 1) (s := (Ad, nd, cd)) rfl
 replace hS : Sep W (Own entryEK (.slice Ak nk ck) _ :: Own entryEK (.slice Ad nd cd) _ :: _) _ := hS
 have hk1 := flt_le es (fun e => !dropB pol key ns e) k
 have hd1 := flt_le es (fun e => dropB pol key ns e) k
 refine wp_seq_k fun K6 hK6 => ?_
 refine ws fun K7 hK7 => ?_
 refine ra 4 hF tk rfl fun a hF => ?_
 refine wl_nil (hK7 _ _ ?_)
 refine wc_fx (t := 19) hF rfl ?_ ?_ <;> clear hF <;> intro c19 hF <;> try simp only [zb] at c19
 ·
  have hlt : k < es.length := by omega
  have hx := at0_nat hlt
  refine wp_skip ?_
  refine hK6 _ _ ?_
  refine wp_seq_k fun K8 hK8 => ?_
  refine wp_block ?_
  refine ws fun K9 hK9 => ?_
  refine ra 2 hF tk rfl fun a hF => ?_
  obtain ⟨g24, o24, m24, q24, hv24, hm24, hl24, hc24⟩ := Rd.atF (ha) (a := a) (X := .tmp 23) (hF.ev rfl) (by omega) (by omega)
  refine wl hF rfl rfl rfl (r_index sl40 ((hF.ev rfl).trans hv24) (hF.ev rfl) (by omega) (by first | omega | (simp at hm24; omega))) fun a hF => ?_
  refine wl hF rfl rfl rfl (r_loadn ag83 (hF.ev rfl) (fun j_ u_ hu_ => cellB hS.old (hc24 j_ u_ hu_)) sz83) fun a hF => ?_
  refine ra 1 hF tk rfl fun a hF => ?_
  refine wl_call hF rfl rfl rfl (r_call2 en204 (hF.ev rfl) (hF.ev rfl)) (specNeeded_c (e := at0 es (k : Int)) (hS.rd hb)) ?_; clear hF a; rintro v w4 a ⟨rfl, hB_⟩ hF; have hS := hS.ext hB_
  refine ra 2 hF tk rfl fun a hF => ?_
  refine wl_nil (hK9 _ _ ?_)
  refine wp_seq_k fun K10 hK10 => ?_
  refine ws fun K11 hK11 => ?_
  refine ra 1 hF tk rfl fun a hF => ?_
  refine wl_nil (hK11 _ _ ?_)
  refine wp_block ?_
  refine ws fun K12 hK12 => ?_
  refine ra 2 hF tk rfl fun a hF => ?_
  refine wl_nil (hK12 _ _ ?_)
  refine wc_fx (t := 30) hF rfl ?_ ?_ <;> clear hF <;> intro c30 hF <;> try simp only [zb] at c30
  ·
   refine wp_region_lit ?_
   refine ra 2 hF tk rfl fun a hF => ?_
   obtain ⟨g34, o34, m34, q34, hv34, hm34, hl34, hc34⟩ := Rd.atF (ha) (a := a) (X := .tmp 33) (hF.ev rfl) (by omega) (by omega)
   refine wl hF rfl rfl rfl (r_index sl40 ((hF.ev rfl).trans hv34) (hF.ev rfl) (by omega) (by first | omega | (simp at hm34; omega))) fun a hF => ?_
   refine wl hF rfl rfl rfl (r_loadn ag83 (hF.ev rfl) (fun j_ u_ hu_ => cellB hS.old (hc34 j_ u_ hu_)) sz83) fun a hF => ?_
   refine ra 1 hF tk rfl fun a hF => ?_
   refine wl_call hF rfl rfl rfl (r_call2 en205 (hF.ev rfl) (hF.ev rfl)) (specPast_c (e := at0 es (k : Int)) (hS.rd hb)) ?_; clear hF a; rintro v w5 a ⟨rfl, hB_⟩ hF; have hS := hS.ext hB_
   refine ra 1 hF tk rfl fun a hF => ?_
   refine wl_nil ?_
   simp only [Exit.then, Exit.inBlock, ↓reduceIte]
   refine hK10 _ _ ?_
   refine ws fun K13 hK13 => ?_
   refine ra 1 hF tk rfl fun a hF => ?_
   refine wl_nil (hK13 _ _ ?_)
   refine wc_fx (t := 54) hF rfl ?_ ?_ <;> clear hF <;> intro c54 hF <;> try simp only [zb] at c54
   ·
    refine wp_region_lit ?_
    refine ra 3 hF tk rfl fun a hF => ?_
    obtain ⟨g58, o58, m58, q58, hv58, hm58, hl58, hc58⟩ := Rd.atF (ha) (a := a) (X := .tmp 57) (hF.ev rfl) (by omega) (by omega)
    refine wl hF rfl rfl rfl (r_index sl40 ((hF.ev rfl).trans hv58) (hF.ev rfl) (by omega) (by first | omega | (simp at hm58; omega))) fun a hF => ?_
    refine wl hF rfl rfl rfl (r_loadn ag83 (hF.ev rfl) (fun j_ u_ hu_ => cellB hS.old (hc58 j_ u_ hu_)) sz83) fun a hF => ?_
    refine wl_bslice entryEK [.agg (at0 es (k : Int)).enc.toArray] [at0 es (k : Int)] rfl hF hS rfl mk40 rfl ⟨rfl, (hF.ev rfl), trivial⟩ rfl rfl rfl rfl ?_; clear hF a; intro gl_60 w6 a hS_ hF; replace hS := hS_; clear hS_
    refine wl_append (q := 2) hF hS rfl rfl (hS.own_rd (i := 0) rfl) mk40 rfl (hF.ev rfl) (hF.ev rfl) (by simp; omega) (by unfold maxLen; simp; omega) ?_; clear hF a; intro A_61 c_61 w7 a hS_ hF; replace hS := hS_; clear hS_; dsimp only [List.set, List.length_cons, List.length_nil] at hS hF
    refine ra 1 hF tk rfl fun a hF => ?_
    refine wl_nil ?_
    simp only [Exit.then, Exit.inBlock, ↓reduceIte]
    refine hK8 _ _ ?_
    refine wp_region_lit ?_
    refine ra 3 hF tk rfl fun a hF => ?_
    refine wl_nil ?_
    try simp only [Exit.then, Exit.inBlock, ↓reduceIte]
    have hd_ : dropB pol key ns (at0 es (k : Int)) = true := by
      unfold dropB
      rw [if_pos c30]; exact c54
    rw [← flt_yes (q := fun e => dropB pol key ns e) hx hd_, ← flt_no (q := fun e => !dropB pol key ns e) hx (by rw [hd_]; rfl)] at hS
    refine ⟨(k + 1, (_, _, _), (_, _, _)), (by dsimp only; omega), (hS.pick [1, 2] (by decide) rfl), (((((((((hF.nil.keep hF (t := 9) rfl).keep hF (t := 8) rfl).keep hF (t := 3) rfl).keep hF (t := 2) rfl).keep hF (t := 1) rfl).keep hF (t := 0) rfl).keepE hF (t := 11) rfl rfl).keepE hF (t := 10) rfl rfl).keepE hF (t := 12) rfl (wk (by omega))), by dsimp only; omega⟩
   refine wp_region_lit ?_
   refine ra 3 hF tk rfl fun a hF => ?_
   obtain ⟨g65, o65, m65, q65, hv65, hm65, hl65, hc65⟩ := Rd.atF (ha) (a := a) (X := .tmp 64) (hF.ev rfl) (by omega) (by omega)
   refine wl hF rfl rfl rfl (r_index sl40 ((hF.ev rfl).trans hv65) (hF.ev rfl) (by omega) (by first | omega | (simp at hm65; omega))) fun a hF => ?_
   refine wl hF rfl rfl rfl (r_loadn ag83 (hF.ev rfl) (fun j_ u_ hu_ => cellB hS.old (hc65 j_ u_ hu_)) sz83) fun a hF => ?_
   refine wl_bslice entryEK [.agg (at0 es (k : Int)).enc.toArray] [at0 es (k : Int)] rfl hF hS rfl mk40 rfl ⟨rfl, (hF.ev rfl), trivial⟩ rfl rfl rfl rfl ?_; clear hF a; intro gl_67 w8 a hS_ hF; replace hS := hS_; clear hS_
   refine wl_append (q := 1) hF hS rfl rfl (hS.own_rd (i := 0) rfl) mk40 rfl (hF.ev rfl) (hF.ev rfl) (by simp; omega) (by unfold maxLen; simp; omega) ?_; clear hF a; intro A_68 c_68 w9 a hS_ hF; replace hS := hS_; clear hS_; dsimp only [List.set, List.length_cons, List.length_nil] at hS hF
   refine ra 1 hF tk rfl fun a hF => ?_
   refine wl_nil ?_
   simp only [Exit.then, Exit.inBlock, ↓reduceIte]
   refine hK8 _ _ ?_
   refine wp_region_lit ?_
   refine ra 3 hF tk rfl fun a hF => ?_
   refine wl_nil ?_
   try simp only [Exit.then, Exit.inBlock, ↓reduceIte]
   have hd_ : dropB pol key ns (at0 es (k : Int)) = false := by
     unfold dropB
     rw [if_pos c30]; exact c54
   rw [← flt_no (q := fun e => dropB pol key ns e) hx hd_, ← flt_yes (q := fun e => !dropB pol key ns e) hx (by rw [hd_]; rfl)] at hS
   refine ⟨(k + 1, (_, _, _), (_, _, _)), (by dsimp only; omega), (hS.pick [1, 2] (by decide) rfl), (((((((((hF.nil.keep hF (t := 9) rfl).keep hF (t := 8) rfl).keep hF (t := 3) rfl).keep hF (t := 2) rfl).keep hF (t := 1) rfl).keep hF (t := 0) rfl).keepE hF (t := 11) rfl rfl).keepE hF (t := 10) rfl rfl).keepE hF (t := 12) rfl (wk (by omega))), by dsimp only; omega⟩
  refine ws fun K14 hK14 => ?_
  refine ra 2 hF tk rfl fun a hF => ?_
  refine wl_nil (hK14 _ _ ?_)
  refine wc_fx (t := 38) hF rfl ?_ ?_ <;> clear hF <;> intro c38 hF <;> try simp only [zb] at c38
  ·
   refine wp_region_lit ?_
   refine ra 2 hF tk rfl fun a hF => ?_
   apply wl_and (A := [_, _, _, _, _, _, _, _, _, _, _, _]) (pk := 53) hF hS (tc := 41) rfl
   ·
    intro hg41 a hF; try simp only [zb] at hg41
    refine ra 3 hF tk rfl fun a hF => ?_
    apply wl_or (A := [_, _, _, _, _, _, _, _]) (pk := 52) hF hS (tc := 44) rfl
    ·
     intro hg44 a hF; try simp only [zb] at hg44
     refine ra 2 hF tk rfl fun a hF => ?_
     refine wl_take hF rfl rfl rfl rfl ?_
     obtain ⟨g47, o47, m47, q47, hv47, hm47, hl47, hc47⟩ := Rd.atF (ha) (a := a) (X := .tmp 46) (hF.ev rfl) (by omega) (by omega)
     refine wl hF rfl rfl rfl (r_index sl40 ((hF.ev rfl).trans hv47) (hF.ev rfl) (by omega) (by first | omega | (simp at hm47; omega))) fun a hF => ?_
     refine ra 1 hF tk rfl fun a hF => ?_
     refine wl_take hF rfl rfl rfl rfl ?_
     refine wl hF rfl rfl rfl (r_load1 sc3 (hF.ev rfl) (cellB hS.old (hc47 1 _ rfl))) fun a hF => ?_
     refine ra 3 hF tk rfl fun a hF => ?_
     exact wl_nil ⟨rfl, (Fr.pre (A := [_, _, _, _, _, _, _, _]) hF rfl).keep hF (t := 52) rfl, hS⟩
    ·
     intro hg44 a hF; try simp only [zb] at hg44
     refine ra 8 hF tk rfl fun a hF => ?_
     exact wl_nil ⟨rfl, (Fr.pre (A := [_, _, _, _, _, _, _, _]) hF rfl).keep hF (t := 52) rfl, hS⟩
    intro a w10 hF hS
    refine ra 1 hF tk rfl fun a hF => ?_
    exact wl_nil ⟨rfl, (Fr.pre (A := [_, _, _, _, _]) hF rfl).keep hF (t := 53) rfl, hS⟩
   ·
    intro hg41 a hF; try simp only [zb] at hg41
    refine ra 12 hF tk rfl fun a hF => ?_
    exact wl_nil ⟨rfl, (Fr.pre (A := [_, _, _, _, _, _, _, _, _, _, _, _]) hF rfl).keep hF (t := 53) rfl, hS⟩
   clear hF a hS; intro a w11 hF hS
   refine ra 1 hF tk rfl fun a hF => ?_
   refine wl_nil ?_
   simp only [Exit.then, Exit.inBlock, ↓reduceIte]
   refine hK10 _ _ ?_
   refine ws fun K15 hK15 => ?_
   refine ra 1 hF tk rfl fun a hF => ?_
   refine wl_nil (hK15 _ _ ?_)
   refine wc_fx (t := 54) hF rfl ?_ ?_ <;> clear hF <;> intro c54 hF <;> try simp only [zb] at c54
   ·
    refine wp_region_lit ?_
    refine ra 3 hF tk rfl fun a hF => ?_
    obtain ⟨g58, o58, m58, q58, hv58, hm58, hl58, hc58⟩ := Rd.atF (ha) (a := a) (X := .tmp 57) (hF.ev rfl) (by omega) (by omega)
    refine wl hF rfl rfl rfl (r_index sl40 ((hF.ev rfl).trans hv58) (hF.ev rfl) (by omega) (by first | omega | (simp at hm58; omega))) fun a hF => ?_
    refine wl hF rfl rfl rfl (r_loadn ag83 (hF.ev rfl) (fun j_ u_ hu_ => cellB hS.old (hc58 j_ u_ hu_)) sz83) fun a hF => ?_
    refine wl_bslice entryEK [.agg (at0 es (k : Int)).enc.toArray] [at0 es (k : Int)] rfl hF hS rfl mk40 rfl ⟨rfl, (hF.ev rfl), trivial⟩ rfl rfl rfl rfl ?_; clear hF a; intro gl_60 w12 a hS_ hF; replace hS := hS_; clear hS_
    refine wl_append (q := 2) hF hS rfl rfl (hS.own_rd (i := 0) rfl) mk40 rfl (hF.ev rfl) (hF.ev rfl) (by simp; omega) (by unfold maxLen; simp; omega) ?_; clear hF a; intro A_61 c_61 w13 a hS_ hF; replace hS := hS_; clear hS_; dsimp only [List.set, List.length_cons, List.length_nil] at hS hF
    refine ra 1 hF tk rfl fun a hF => ?_
    refine wl_nil ?_
    simp only [Exit.then, Exit.inBlock, ↓reduceIte]
    refine hK8 _ _ ?_
    refine wp_region_lit ?_
    refine ra 3 hF tk rfl fun a hF => ?_
    refine wl_nil ?_
    try simp only [Exit.then, Exit.inBlock, ↓reduceIte]
    have hd_ : dropB pol key ns (at0 es (k : Int)) = true := by
      unfold dropB
      rw [if_neg c30, if_pos c38]; simpa using c54
    rw [← flt_yes (q := fun e => dropB pol key ns e) hx hd_, ← flt_no (q := fun e => !dropB pol key ns e) hx (by rw [hd_]; rfl)] at hS
    refine ⟨(k + 1, (_, _, _), (_, _, _)), (by dsimp only; omega), (hS.pick [1, 2] (by decide) rfl), (((((((((hF.nil.keep hF (t := 9) rfl).keep hF (t := 8) rfl).keep hF (t := 3) rfl).keep hF (t := 2) rfl).keep hF (t := 1) rfl).keep hF (t := 0) rfl).keepE hF (t := 11) rfl rfl).keepE hF (t := 10) rfl rfl).keepE hF (t := 12) rfl (wk (by omega))), by dsimp only; omega⟩
   refine wp_region_lit ?_
   refine ra 3 hF tk rfl fun a hF => ?_
   obtain ⟨g65, o65, m65, q65, hv65, hm65, hl65, hc65⟩ := Rd.atF (ha) (a := a) (X := .tmp 64) (hF.ev rfl) (by omega) (by omega)
   refine wl hF rfl rfl rfl (r_index sl40 ((hF.ev rfl).trans hv65) (hF.ev rfl) (by omega) (by first | omega | (simp at hm65; omega))) fun a hF => ?_
   refine wl hF rfl rfl rfl (r_loadn ag83 (hF.ev rfl) (fun j_ u_ hu_ => cellB hS.old (hc65 j_ u_ hu_)) sz83) fun a hF => ?_
   refine wl_bslice entryEK [.agg (at0 es (k : Int)).enc.toArray] [at0 es (k : Int)] rfl hF hS rfl mk40 rfl ⟨rfl, (hF.ev rfl), trivial⟩ rfl rfl rfl rfl ?_; clear hF a; intro gl_67 w14 a hS_ hF; replace hS := hS_; clear hS_
   refine wl_append (q := 1) hF hS rfl rfl (hS.own_rd (i := 0) rfl) mk40 rfl (hF.ev rfl) (hF.ev rfl) (by simp; omega) (by unfold maxLen; simp; omega) ?_; clear hF a; intro A_68 c_68 w15 a hS_ hF; replace hS := hS_; clear hS_; dsimp only [List.set, List.length_cons, List.length_nil] at hS hF
   refine ra 1 hF tk rfl fun a hF => ?_
   refine wl_nil ?_
   simp only [Exit.then, Exit.inBlock, ↓reduceIte]
   refine hK8 _ _ ?_
   refine wp_region_lit ?_
   refine ra 3 hF tk rfl fun a hF => ?_
   refine wl_nil ?_
   try simp only [Exit.then, Exit.inBlock, ↓reduceIte]
   have hd_ : dropB pol key ns (at0 es (k : Int)) = false := by
     unfold dropB
     rw [if_neg c30, if_pos c38]; rcases c54 with h | h; (rw [h]; rfl); (rw [decide_eq_false (show ¬ key < 0 by omega), decide_eq_false h.2]; simp)
   rw [← flt_no (q := fun e => dropB pol key ns e) hx hd_, ← flt_yes (q := fun e => !dropB pol key ns e) hx (by rw [hd_]; rfl)] at hS
   refine ⟨(k + 1, (_, _, _), (_, _, _)), (by dsimp only; omega), (hS.pick [1, 2] (by decide) rfl), (((((((((hF.nil.keep hF (t := 9) rfl).keep hF (t := 8) rfl).keep hF (t := 3) rfl).keep hF (t := 2) rfl).keep hF (t := 1) rfl).keep hF (t := 0) rfl).keepE hF (t := 11) rfl rfl).keepE hF (t := 10) rfl rfl).keepE hF (t := 12) rfl (wk (by omega))), by dsimp only; omega⟩
  refine wp_skip ?_
  simp only [Exit.then, Exit.inBlock, ↓reduceIte]
  refine hK10 _ _ ?_
  refine ws fun K16 hK16 => ?_
  refine ra 1 hF tk rfl fun a hF => ?_
  refine wl_nil (hK16 _ _ ?_)
  refine wc_fx (t := 54) hF rfl ?_ ?_ <;> clear hF <;> intro c54 hF <;> try simp only [zb] at c54
  ·
   refine wp_region_lit ?_
   refine ra 3 hF tk rfl fun a hF => ?_
   obtain ⟨g58, o58, m58, q58, hv58, hm58, hl58, hc58⟩ := Rd.atF (ha) (a := a) (X := .tmp 57) (hF.ev rfl) (by omega) (by omega)
   refine wl hF rfl rfl rfl (r_index sl40 ((hF.ev rfl).trans hv58) (hF.ev rfl) (by omega) (by first | omega | (simp at hm58; omega))) fun a hF => ?_
   refine wl hF rfl rfl rfl (r_loadn ag83 (hF.ev rfl) (fun j_ u_ hu_ => cellB hS.old (hc58 j_ u_ hu_)) sz83) fun a hF => ?_
   refine wl_bslice entryEK [.agg (at0 es (k : Int)).enc.toArray] [at0 es (k : Int)] rfl hF hS rfl mk40 rfl ⟨rfl, (hF.ev rfl), trivial⟩ rfl rfl rfl rfl ?_; clear hF a; intro gl_60 w16 a hS_ hF; replace hS := hS_; clear hS_
   refine wl_append (q := 2) hF hS rfl rfl (hS.own_rd (i := 0) rfl) mk40 rfl (hF.ev rfl) (hF.ev rfl) (by simp; omega) (by unfold maxLen; simp; omega) ?_; clear hF a; intro A_61 c_61 w17 a hS_ hF; replace hS := hS_; clear hS_; dsimp only [List.set, List.length_cons, List.length_nil] at hS hF
   refine ra 1 hF tk rfl fun a hF => ?_
   refine wl_nil ?_
   simp only [Exit.then, Exit.inBlock, ↓reduceIte]
   refine hK8 _ _ ?_
   refine wp_region_lit ?_
   refine ra 3 hF tk rfl fun a hF => ?_
   refine wl_nil ?_
   try simp only [Exit.then, Exit.inBlock, ↓reduceIte]
   have hd_ : dropB pol key ns (at0 es (k : Int)) = true := by
     unfold dropB
     rw [if_neg c30, if_neg c38]; simpa using c54
   rw [← flt_yes (q := fun e => dropB pol key ns e) hx hd_, ← flt_no (q := fun e => !dropB pol key ns e) hx (by rw [hd_]; rfl)] at hS
   refine ⟨(k + 1, (_, _, _), (_, _, _)), (by dsimp only; omega), (hS.pick [1, 2] (by decide) rfl), (((((((((hF.nil.keep hF (t := 9) rfl).keep hF (t := 8) rfl).keep hF (t := 3) rfl).keep hF (t := 2) rfl).keep hF (t := 1) rfl).keep hF (t := 0) rfl).keepE hF (t := 11) rfl rfl).keepE hF (t := 10) rfl rfl).keepE hF (t := 12) rfl (wk (by omega))), by dsimp only; omega⟩
  refine wp_region_lit ?_
  refine ra 3 hF tk rfl fun a hF => ?_
  obtain ⟨g65, o65, m65, q65, hv65, hm65, hl65, hc65⟩ := Rd.atF (ha) (a := a) (X := .tmp 64) (hF.ev rfl) (by omega) (by omega)
  refine wl hF rfl rfl rfl (r_index sl40 ((hF.ev rfl).trans hv65) (hF.ev rfl) (by omega) (by first | omega | (simp at hm65; omega))) fun a hF => ?_
  refine wl hF rfl rfl rfl (r_loadn ag83 (hF.ev rfl) (fun j_ u_ hu_ => cellB hS.old (hc65 j_ u_ hu_)) sz83) fun a hF => ?_
  refine wl_bslice entryEK [.agg (at0 es (k : Int)).enc.toArray] [at0 es (k : Int)] rfl hF hS rfl mk40 rfl ⟨rfl, (hF.ev rfl), trivial⟩ rfl rfl rfl rfl ?_; clear hF a; intro gl_67 w18 a hS_ hF; replace hS := hS_; clear hS_
  refine wl_append (q := 1) hF hS rfl rfl (hS.own_rd (i := 0) rfl) mk40 rfl (hF.ev rfl) (hF.ev rfl) (by simp; omega) (by unfold maxLen; simp; omega) ?_; clear hF a; intro A_68 c_68 w19 a hS_ hF; replace hS := hS_; clear hS_; dsimp only [List.set, List.length_cons, List.length_nil] at hS hF
  refine ra 1 hF tk rfl fun a hF => ?_
  refine wl_nil ?_
  simp only [Exit.then, Exit.inBlock, ↓reduceIte]
  refine hK8 _ _ ?_
  refine wp_region_lit ?_
  refine ra 3 hF tk rfl fun a hF => ?_
  refine wl_nil ?_
  try simp only [Exit.then, Exit.inBlock, ↓reduceIte]
  have hd_ : dropB pol key ns (at0 es (k : Int)) = false := by
    unfold dropB
    rw [if_neg c30, if_neg c38]; simpa using c54
  rw [← flt_no (q := fun e => dropB pol key ns e) hx hd_, ← flt_yes (q := fun e => !dropB pol key ns e) hx (by rw [hd_]; rfl)] at hS
  refine ⟨(k + 1, (_, _, _), (_, _, _)), (by dsimp only; omega), (hS.pick [1, 2] (by decide) rfl), (((((((((hF.nil.keep hF (t := 9) rfl).keep hF (t := 8) rfl).keep hF (t := 3) rfl).keep hF (t := 2) rfl).keep hF (t := 1) rfl).keep hF (t := 0) rfl).keepE hF (t := 11) rfl rfl).keepE hF (t := 10) rfl rfl).keepE hF (t := 12) rfl (wk (by omega))), by dsimp only; omega⟩
 refine wp_exit ?_
 simp only [Exit.then, Exit.inBlock, ↓reduceIte]
 refine hK4 _ _ ?_
 refine ws fun K17 hK17 => ?_
 refine ra 4 hF tk rfl fun a hF => ?_
 refine wl_nil (hK17 _ _ ?_)
 refine wp_ret ?_
 try simp only [Exit.then, Exit.inBlock, ↓reduceIte]
 obtain rfl : k = es.length := by omega
 rw [List.take_length] at hS
 exact ret2 rfl hF rfl rfl ⟨((_, _, _), (_, _, _)), rfl, hS.pick [0, 1] (by decide) rfl⟩
set_option maxHeartbeats 4000000 in
set_option maxRecDepth 20000 in
theorem specLimboLimit_c {W : World} (c : Config) : Calls Tryz.prog 191 #[.agg c.enc.toArray] W (Ret fun v w' => v = vi (limboLimit c) ∧ Below W.heap.size W w') := by
 refine calls_fr Tryz.func191 rfl Tryz.ntmps191 rfl ?_
 intro a hF
 have hS := Sep.refl W
 refine ws fun K1 hK1 => ?_
 refine wl_box (cs := [_, _, _, _, _, _]) hF hS rfl (hF.ev rfl) rfl ?_; clear hF a; intro g1 w1 a hS_ hB_ hF; replace hS := hS_; clear hS_ hB_
 refine ra 1 hF tk rfl fun a hF => ?_
 refine wl_nil (hK1 _ _ ?_)
 refine wp_seq_k fun K2 hK2 => ?_
 refine ws fun K3 hK3 => ?_
 refine rb 1 0 hF tk hS rfl rfl rfl fun a hF => ?_
 refine wl_call hF rfl rfl rfl (r_call1 en91 (hF.ev rfl)) (specIsConfig_c c) ?_; clear hF a; rintro v w2 a ⟨rfl, hB_⟩ hF; have hS := hS.ext hB_
 refine ra 1 hF tk rfl fun a hF => ?_
 refine wl_nil (hK3 _ _ ?_)
 first | refine wc_dec (hF.ev rfl) (fun c5 => ?_) (fun c5 => ?_) | refine wc_ndec (hF.ev rfl) (fun c5 => ?_) (fun c5 => ?_) | refine wc_b (hF.ev rfl) (fun c5 => ?_) (fun c5 => ?_)
 ·
  refine ws fun K4 hK4 => ?_
  refine ra 1 hF tk rfl fun a hF => ?_
  refine wl_nil (hK4 _ _ ?_)
  refine wp_ret ?_
  try simp only [Exit.then, Exit.inBlock, ↓reduceIte]
  refine ret1 rfl hF rfl ⟨congrArg vi ?_, hS.old⟩
  unfold limboLimit
  first | (rw [if_neg c5]; done) | (rw [if_pos c5]; unfold Config.ok at c5; simp only [w64]; omega)
 refine wp_skip ?_
 refine hK2 _ _ ?_
 refine ws fun K5 hK5 => ?_
 refine rb 7 0 hF tk hS rfl rfl rfl fun a hF => ?_
 refine wl_nil (hK5 _ _ ?_)
 refine wp_ret ?_
 try simp only [Exit.then, Exit.inBlock, ↓reduceIte]
 refine ret1 rfl hF rfl ⟨congrArg vi ?_, hS.old⟩
 unfold limboLimit
 first | (rw [if_neg c5]; done) | (rw [if_pos c5]; unfold Config.ok at c5; simp only [w64]; omega)
end Go.Proofs.YtgofolgogfmhgaaGreat.Wk
namespace Go.Proofs.YtgofolgogfmhgaaGreat.Wk
open Go Go.RowKit Sl
theorem bd25_0_1_2_3_4_5 (x0) (x1) (x2) (x3) (x4) (x5) : Tryz.prog.built 25 [(0, .int .i64 x0), (1, .int .i64 x1), (2, .int .i64 x2), (3, .int .i64 x3), (4, .int .i64 x4), (5, .int .i64 x5)] = some [.int .i64 x0, .int .i64 x1, .int .i64 x2, .int .i64 x3, .int .i64 x4, .int .i64 x5].toArray := by kernel_rfl
theorem bd31_0 (x0) : Tryz.prog.built 31 [(0, .int .i64 x0)] = some [.int .i64 x0, .int .i64 0, .int .i64 0].toArray := by kernel_rfl
theorem bd31_0_1 (x0) (x1) : Tryz.prog.built 31 [(0, .int .i64 x0), (1, .int .i64 x1)] = some [.int .i64 x0, .int .i64 x1, .int .i64 0].toArray := by kernel_rfl
theorem bd31_0_1_2 (x0) (x1) (x2) : Tryz.prog.built 31 [(0, .int .i64 x0), (1, .int .i64 x1), (2, .int .i64 x2)] = some [.int .i64 x0, .int .i64 x1, .int .i64 x2].toArray := by kernel_rfl
theorem bd83_0_1_2_3 (x0) (x1) (x2) (x3) : Tryz.prog.built 83 [(0, .int .i64 x0), (1, .int .i64 x1), (2, .int .i64 x2), (3, .int .i64 x3)] = some [.int .i64 x0, .int .i64 x1, .int .i64 x2, .int .i64 x3].toArray := by kernel_rfl
theorem bd97_0_2 (x0) (x1) (x2) (x3) : Tryz.prog.built 97 [(0, .slice x0 x1 x2), (2, .int .i64 x3)] = some [.slice x0 x1 x2, .int .i64 0, .int .i64 x3].toArray := by kernel_rfl
theorem en62 : enterB Tryz.prog 62 = true := by kernel_rfl
theorem en83 : enterB Tryz.prog 83 = true := by kernel_rfl
theorem en84 : enterB Tryz.prog 84 = true := by kernel_rfl
theorem en85 : enterB Tryz.prog 85 = true := by kernel_rfl
theorem en111 : enterB Tryz.prog 111 = true := by kernel_rfl
theorem en112 : enterB Tryz.prog 112 = true := by kernel_rfl
theorem en113 : enterB Tryz.prog 113 = true := by kernel_rfl
theorem en114 : enterB Tryz.prog 114 = true := by kernel_rfl
theorem en115 : enterB Tryz.prog 115 = true := by kernel_rfl
theorem en116 : enterB Tryz.prog 116 = true := by kernel_rfl
theorem en117 : enterB Tryz.prog 117 = true := by kernel_rfl
theorem en118 : enterB Tryz.prog 118 = true := by kernel_rfl
theorem en119 : enterB Tryz.prog 119 = true := by kernel_rfl
theorem en120 : enterB Tryz.prog 120 = true := by kernel_rfl
theorem en121 : enterB Tryz.prog 121 = true := by kernel_rfl
theorem en122 : enterB Tryz.prog 122 = true := by kernel_rfl
theorem en145 : enterB Tryz.prog 145 = true := by kernel_rfl
theorem en168 : enterB Tryz.prog 168 = true := by kernel_rfl
theorem iu3 : Tryz.prog.underlying 3 = some (.int .i64) := by kernel_rfl
theorem iu5 : Tryz.prog.underlying 5 = some (.int .u8) := by kernel_rfl
theorem sc5 : scalB Tryz.prog 5 = true := by kernel_rfl
theorem sl22 : slB Tryz.prog 22 = some (1, 1) := by kernel_rfl
theorem zr31 : zeroOf Tryz.prog 31 = some [.int .i64 0, .int .i64 0, .int .i64 0] := by kernel_rfl
end Go.Proofs.YtgofolgogfmhgaaGreat.Wk
namespace Go.Proofs.YtgofolgogfmhgaaGreat.Wk
open Go Go.RowKit Sl
set_option linter.unusedVariables false
set_option linter.unusedSimpArgs false
set_option maxRecDepth 20000
/-- what MustFlush answers -/
def mustFlush (c : Config) (t : Thread) : Bool := decide c.ok && (if c.policy = 2 then t.buffer.any (fun e => decide (e.key = t.op.key)) else decide (c.batch ≤ (t.buffer.length : Int)))
section
variable {c : Config} {t : Thread}
theorem mf_1 (h : ¬ c.ok) : mustFlush c t = false := by simp [mustFlush, h]
theorem mf_2 (h : c.ok) (h2 : ¬ c.policy = 2) : mustFlush c t = decide (c.batch ≤ (t.buffer.length : Int)) := by simp [mustFlush, h, h2]
theorem mf_3 (h : c.ok) (h2 : c.policy = 2) : mustFlush c t = t.buffer.any (fun e => decide (e.key = t.op.key)) := by simp [mustFlush, h, h2]
end
def takeS (s : Sl.State) (t : Sl.Thread) (p : Int) : Sl.State × Sl.Thread :=
  if t.pc = 30 then if s.config.capacity ≤ at0 s.cells 1 then (s, endT t 2 0) else (s, { t with seen := at0 s.cells 1, pc := 31 })
  else if t.pc = 31 then
    if (0 ≤ t.seen ∧ t.seen ≤ s.config.capacity - 1) ∧ hitB s.cells 1 t.seen = true then (swapS s 1 t.seen (IntKind.i64.wrap (t.seen + 1)), { t with node := makeHandle t.seen (at0 s.generations t.seen), pc := 32 })
    else ({ s with retries := IntKind.i64.wrap (s.retries + 1) }, { t with pc := 30 })
  else if t.pc = 32 then (putS (faultS s t.node) (cellOf s t.node 1) t.op.value, { t with pc := 33 })
  else if t.pc = 33 then (putS (faultS s t.node) (cellOf s t.node 0) 0, { t with pc := 34 })
  else if t.pc = 34 then (putS s (hazardCell s.config p 1) t.node, { t with pc := 35 })
  else (s, t)
def headS (s : Sl.State) (t : Sl.Thread) (p : Int) : Sl.State × Sl.Thread :=
  if t.pc = 35 then (s, { t with curr := unmarked (loadC s.cells (headCell s.config t.op.key)), pc := if unmarked (loadC s.cells (headCell s.config t.op.key)) = 0 then 41 else 36 })
  else if t.pc = 36 then (putS s (hazardCell s.config p 0) t.curr, { t with pc := 37 })
  else if t.pc = 37 then if loadC s.cells (headCell s.config t.op.key) = t.curr then (s, { t with pc := 38 }) else ({ s with retries := IntKind.i64.wrap (s.retries + 1) }, { t with pc := 35 })
  else if t.pc = 38 then (faultS s t.curr, { t with stamp := loadC s.cells (cellOf s t.curr 0), pc := if loadC s.cells (cellOf s t.curr 0) = 0 then 39 else 41 })
  else if t.pc = 39 then (s, { t with seen := at0 s.cells 0, pc := 40 })
  else if t.pc = 40 then (swapS (faultS s t.curr) (cellOf s t.curr 0) 0 t.seen, { t with pc := 38 })
  else if t.pc = 41 then (putS (faultS s t.node) (cellOf s t.node 2) t.curr, { t with pc := 42 })
  else if t.pc = 42 then
    if hitB s.cells (headCell s.config t.op.key) t.curr = true then (swapS s (headCell s.config t.op.key) t.curr t.node, { t with pc := 43 })
    else ({ swapS s (headCell s.config t.op.key) t.curr t.node with retries := IntKind.i64.wrap (s.retries + 1) }, { t with pc := 35 })
  else (s, t)
def newE (s : Sl.State) (t : Sl.Thread) : Entry := ⟨t.curr, t.op.key, t.stamp, loadC s.cells (cellOf s t.node 0)⟩
def ownS (s : Sl.State) (t : Sl.Thread) (p : Int) : Sl.State × Sl.Thread :=
  if t.pc = 43 then (s, { t with seen := at0 s.cells 0, pc := 44 })
  else if t.pc = 44 then (swapS (faultS s t.node) (cellOf s t.node 0) 0 t.seen, { t with pc := 45 })
  else if t.pc = 45 then (faultS s t.node, if (¬ t.curr = 0 ∧ isEntry (newE s t) = true) ∧ (t.buffer.length : Int) < 100 then { t with buffer := t.buffer ++ [newE s t], pc := 46 } else { t with pc := 46 })
  else if t.pc = 46 then (putS s (hazardCell s.config p 0) 0, { t with pc := 47 })
  else if t.pc = 47 then (putS s (hazardCell s.config p 1) 0, if mustFlush s.config t = true then { clearT t with pc := 50 } else endT t 0 0)
  else (s, t)
theorem swapS_no {s : Sl.State} {a u v : Int} (h : ¬ hitB s.cells a u = true) : swapS s a u v = s := by unfold swapS; rw [if_neg h, if_neg h]
theorem Fit.node {s : Sl.State} {t : Sl.Thread} (h : Fit s t) : int64 t.node := h.wt.2.2.2.2.1
theorem Fit.entry {s : Sl.State} {t : Sl.Thread} (h : Fit s t) : (newE s t).wf := ⟨h.curr, h.wt.2.1.2.1, h.wt.2.2.2.2.2.2.2.2.2.1, int64_loadC h.wc⟩
set_option maxHeartbeats 4000000 in
set_option maxRecDepth 20000 in
theorem specMustFlush_c {W : World} {c : Config} {t : Thread} {cs : List Value} (hm : threadEK.K W t cs) : Calls Tryz.prog 168 #[.agg c.enc.toArray, .agg cs.toArray] W (Ret fun v w' => v = .bool (mustFlush c t) ∧ Below W.heap.size W w') := by
 refine calls_fr Tryz.func168 rfl Tryz.ntmps168 rfl ?_
 intro a hF
 have hS := Sep.refl W
 obtain ⟨v0, v1, v2, v3, v4, rfl, r0, r1, r2, r3, r4⟩ := hm
 obtain ⟨A_b, q_b, rfl, hq_b, hn_b⟩ := r2.sl; unfold maxLen at hn_b
 refine ws fun K1 hK1 => ?_
 refine wl_box (cs := [_, _, _, _, _, _]) hF hS rfl (hF.ev rfl) rfl ?_; clear hF a; intro g1 w1 a hS_ hB_ hF; replace hS := hS_; clear hS_ hB_
 refine wl_box (cs := [_, _, _, _, _, _, _, _, _, _, _, _, _, _, _, _, _, _, _]) hF hS rfl (hF.ev rfl) rfl ?_; clear hF a; intro g2 w2 a hS_ hB_ hF; replace hS := hS_; clear hS_ hB_
 refine ra 1 hF tk rfl fun a hF => ?_
 refine wl_nil (hK1 _ _ ?_)
 refine wp_seq_k fun K2 hK2 => ?_
 refine ws fun K3 hK3 => ?_
 refine rb 1 1 hF tk hS rfl rfl rfl fun a hF => ?_
 refine wl_call hF rfl rfl rfl (r_call1 en91 (hF.ev rfl)) (specIsConfig_c _) ?_; clear hF a; rintro v w3 a ⟨rfl, hB_⟩ hF; have hS := hS.ext hB_
 refine ra 1 hF tk rfl fun a hF => ?_
 refine wl_nil (hK3 _ _ ?_)
 refine wc_fx (t := 8) hF rfl ?_ ?_ <;> clear hF <;> intro c8 hF <;> try simp only [zb] at c8
 ·
  refine ws fun K4 hK4 => ?_
  refine ra 1 hF tk rfl fun a hF => ?_
  refine wl_nil (hK4 _ _ ?_)
  refine wp_ret ?_
  try simp only [Exit.then, Exit.inBlock, ↓reduceIte]
  refine ret1 rfl hF rfl ⟨congrArg Value.bool (Eq.symm ?_), hS.old⟩
  first
    | exact mf_1 c8
    | exact mf_2 c8 c11
    | exact (mf_3 c8 c11).trans (any_yes hx (decide_eq_true c34))
    | exact (mf_3 c8 c11).trans (any_done hn (by omega))
 refine wp_skip ?_
 refine hK2 _ _ ?_
 refine wp_seq_k fun K5 hK5 => ?_
 refine ws fun K6 hK6 => ?_
 refine rb 3 1 hF tk hS rfl rfl rfl fun a hF => ?_
 refine wl_nil (hK6 _ _ ?_)
 refine wc_fx (t := 11) hF rfl ?_ ?_ <;> clear hF <;> intro c11 hF <;> try simp only [zb] at c11
 ·
  refine ws fun K7 hK7 => ?_
  refine rb 4 0 hF tk hS rfl rfl rfl fun a hF => ?_
  refine rb 3 1 hF tk hS rfl rfl rfl fun a hF => ?_
  refine wl_nil (hK7 _ _ ?_)
  refine wp_ret ?_
  try simp only [Exit.then, Exit.inBlock, ↓reduceIte]
  refine ret1 rfl hF rfl ⟨congrArg Value.bool (Eq.symm ?_), hS.old⟩
  first
    | exact mf_1 c8
    | exact mf_2 c8 c11
    | exact (mf_3 c8 c11).trans (any_yes hx (decide_eq_true c34))
    | exact (mf_3 c8 c11).trans (any_done hn (by omega))
 refine wp_skip ?_
 refine hK5 _ _ ?_
 refine wp_seq_k fun K8 hK8 => ?_
 refine ws fun K9 hK9 => ?_
 refine ra 1 hF tk rfl fun a hF => ?_
 refine wl_nil (hK9 _ _ ?_)
 refine wp_block ?_
 have hL_ := ((hF.nil.keep hF (t := 4) rfl).keep hF (t := 3) rfl)
 refine wp_loop_r (σ := Nat) (fun k L_ => (5, vi k) :: L_) (fun k => (k ≤ t.buffer.length) ∧ ((t.buffer.take k).any (fun e => decide (e.key = t.op.key)) = false)) (fun k => t.buffer.length - k) 0 hS (hL_.keepE hF (t := 5) rfl rfl) ?_ ?_
 · exact ⟨Nat.zero_le _, by simp⟩
 clear hF hS hL_ a
 rintro k a w4 ⟨hk, hn⟩ hS hF; try dsimp only at hF; try dsimp only at hS
 refine wp_seq_k fun K10 hK10 => ?_
 refine ws fun K11 hK11 => ?_
 refine rb 5 0 hF tk hS rfl rfl rfl fun a hF => ?_
 refine wl_nil (hK11 _ _ ?_)
 refine wc_fx (t := 22) hF rfl ?_ ?_ <;> clear hF <;> intro c22 hF <;> try simp only [zb] at c22
 ·
  have hlt : k < t.buffer.length := by omega
  have hx := at0_nat hlt
  refine wp_skip ?_
  refine hK10 _ _ ?_
  refine wp_seq_k fun K12 hK12 => ?_
  refine wp_block ?_
  refine wp_seq_k fun K13 hK13 => ?_
  refine wp_region_calm (by kernel_rfl) (by kernel_rfl) ?_
  refine qb 3 0 hF tk hS rfl rfl rfl fun a hF => ?_
  obtain ⟨g28, o28, m28, q28, hv28, hm28, hl28, hc28⟩ := Rd.atF (r2) (a := a) (X := .tmp 27) (hF.ev rfl) (by omega) (by omega)
  refine wq hF rfl rfl rfl (fun w_ hB_ => r_index sl40 ((hF.ev rfl).trans hv28) (hF.ev rfl) (by omega) (by first | omega | (simp at hm28; omega))) fun a hF => ?_
  refine qa 1 hF tk rfl fun a hF => ?_
  refine wq hF rfl rfl rfl (fun w_ hB_ => r_load1 sc3 (hF.ev rfl) (cellB (hS.ext hB_).old (hc28 1 _ rfl))) fun a hF => ?_
  refine qb 4 0 hF tk hS rfl rfl rfl fun a hF => ?_
  refine wpQuiet_nil ?_; intro w5 hB_; have hS := hS.ext hB_
  refine hK13 _ _ ?_
  refine wc_fx (t := 34) hF rfl ?_ ?_ <;> clear hF <;> intro c34 hF <;> try simp only [zb] at c34
  ·
   refine ws fun K14 hK14 => ?_
   refine ra 1 hF tk rfl fun a hF => ?_
   refine wl_nil (hK14 _ _ ?_)
   refine wp_ret ?_
   try simp only [Exit.then, Exit.inBlock, ↓reduceIte]
   refine ret1 rfl hF rfl ⟨congrArg Value.bool (Eq.symm ?_), hS.old⟩
   first
     | exact mf_1 c8
     | exact mf_2 c8 c11
     | exact (mf_3 c8 c11).trans (any_yes hx (decide_eq_true c34))
     | exact (mf_3 c8 c11).trans (any_done hn (by omega))
  refine wp_skip ?_
  simp only [Exit.then, Exit.inBlock, ↓reduceIte]
  refine hK12 _ _ ?_
  refine wp_region_lit ?_
  refine ra 3 hF tk rfl fun a hF => ?_
  refine wl_nil ?_
  try simp only [Exit.then, Exit.inBlock, ↓reduceIte]
  refine ⟨k + 1, ⟨by omega, any_nxt hn hx (decide_eq_false c34)⟩, hS, (((hF.nil.keep hF (t := 4) rfl).keep hF (t := 3) rfl).keepE hF (t := 5) rfl (wk (by omega))), by omega⟩
 refine wp_exit ?_
 simp only [Exit.then, Exit.inBlock, ↓reduceIte]
 refine hK8 _ _ ?_
 refine ws fun K15 hK15 => ?_
 refine ra 1 hF tk rfl fun a hF => ?_
 refine wl_nil (hK15 _ _ ?_)
 refine wp_ret ?_
 try simp only [Exit.then, Exit.inBlock, ↓reduceIte]
 refine ret1 rfl hF rfl ⟨congrArg Value.bool (Eq.symm ?_), hS.old⟩
 first
   | exact mf_1 c8
   | exact mf_2 c8 c11
   | exact (mf_3 c8 c11).trans (any_yes hx (decide_eq_true c34))
   | exact (mf_3 c8 c11).trans (any_done hn (by omega))
set_option maxHeartbeats 4000000 in
set_option maxRecDepth 20000 in
theorem l14Take_c {W w : World} {l : List Res} {g gt ot mt ct p : Nat} {z0 z1 : Slv} {s : Sl.State} {t : Sl.Thread} (hp : p < s.threads.length) (hf : Fit s t) (hS : Sep W (Box g ((s).encv (sv z0) (sv z1) (.slice (some ⟨gt, ot, none⟩) mt ct)) :: Own intEK (sv z0) (s).cells :: Own intEK (sv z1) (s).generations :: Own threadEK (.slice (some ⟨gt, ot, none⟩) mt ct) (s.threads.set p t) :: l) w) : Calls Tryz.prog 118 #[.pointer (some ⟨g, 0, none⟩), vi (p : Int)] w (Ret fun v w' => v = .tuple #[] ∧ Sep W (Box g (((takeS s t (p : Int)).1).encv (sv z0) (sv z1) (.slice (some ⟨gt, ot, none⟩) mt ct)) :: Own intEK (sv z0) ((takeS s t (p : Int)).1).cells :: Own intEK (sv z1) ((takeS s t (p : Int)).1).generations :: Own threadEK (.slice (some ⟨gt, ot, none⟩) mt ct) (s.threads.set p (takeS s t (p : Int)).2) :: l) w') := by
 refine calls_fr Tryz.func118 rfl Tryz.ntmps118 rfl ?_
 intro a hF
 have hl0 := hS.own_len (q := 1) rfl
 have hl1 := hS.own_len (q := 2) rfl
 have hmt : mt = s.threads.length := by have := hS.own_len (q := 3) (s := (some ⟨gt, ot, none⟩, mt, ct)) rfl; simpa using this
 have hlc := hf.two
 have hlg := hf.lg
 have hcb := hf.ok; unfold Config.ok at hcb
 have hwc : IntKind.i64.wrap (s.config.capacity - 1) = s.config.capacity - 1 := w64_id (by omega) (by omega)
 refine ws fun K1 hK1 => ?_
 refine rb 5 0 hF tk hS rfl rfl rfl fun a hF => ?_
 refine wl hF rfl rfl rfl (r_index sl27 (hF.ev rfl) (hF.ev rfl) (by omega) (by first | omega | (dsimp only; omega))) fun a hF => ?_
 refine ra 1 hF tk rfl fun a hF => ?_
 refine wl_nil (hK1 _ _ ?_)
 refine ws fun K2 hK2 => ?_
 refine ra 3 hF tk rfl fun a hF => ?_
 refine wl hF rfl rfl rfl (r_load1 sc3 (hF.ev rfl) (hS.elt1 (q := 3) (j := 0) hp rfl (fun _ => rfl))) fun a hF => ?_
 refine wl_nil (hK2 _ _ ?_)
 refine wp_block ?_
 refine ws fun K3 hK3 => ?_
 refine ra 2 hF tk rfl fun a hF => ?_
 refine wl_nil (hK3 _ _ ?_)
 refine wc_fx (t := 15) hF rfl ?_ ?_ <;> clear hF <;> intro c15 hF <;> try simp only [zb] at c15
 ·
  refine ws fun K4 hK4 => ?_
  refine rb 5 0 hF tk hS rfl rfl rfl fun a hF => ?_
  obtain ⟨g22, o22, m22, q22, hv22, hm22, hl22, hc22⟩ := Rd.atF ((hS.own_rd (i := 1) rfl)) (a := a) (X := .const (.int .i64 1)) ec (by omega) (by omega)
  refine wl hF rfl rfl rfl (r_index sl26 ((hF.ev rfl).trans hv22) ec (by omega) (by first | omega | (simp at hm22; omega))) fun a hF => ?_
  refine wl hF rfl rfl rfl (r_load1 sc3 (hF.ev rfl) (hc22 0 _ rfl)) fun a hF => ?_
  refine ra 2 hF tk rfl fun a hF => ?_
  refine wl_estore (q := 3) (j := 11) (⟨_, ⟨_, _, _⟩, ⟨_, _⟩, _, _, _, _, _, _, _, _, _, _, _, _, _⟩ : Sl.Thread) hF hS hp rfl sz3 (hF.ev rfl) rfl (hF.ev rfl) rfl (fun _ => rfl) (fun _ => by dsimp only [threadEK, Thread.encv, List.set] <;> rfl) (by intro _; rfl) fun w1 hS => ?_; dsimp only [List.set] at hS
  refine wl_nil (hK4 _ _ ?_)
  refine ws fun K5 hK5 => ?_
  refine ra 3 hF tk rfl fun a hF => ?_
  refine wl_estore (q := 3) (j := 0) (⟨_, ⟨_, _, _⟩, ⟨_, _⟩, _, _, _, _, _, _, _, _, _, _, _, _, _⟩ : Sl.Thread) hF hS hp rfl sz3 (hF.ev rfl) rfl ec rfl (fun _ => rfl) (fun _ => by dsimp only [threadEK, Thread.encv, List.set] <;> rfl) (by intro _; rfl) fun w2 hS => ?_; dsimp only [List.set] at hS
  refine wl_nil (hK5 _ _ ?_)
  refine wp_seq_k fun K6 hK6 => ?_
  refine wp_region_calm (by kernel_rfl) (by kernel_rfl) ?_
  refine qa 3 hF tk rfl fun a hF => ?_
  refine wq hF rfl rfl rfl (fun w_ hB_ => r_load1 sc3 (hF.ev rfl) ((hS.ext hB_).elt1 (q := 3) (j := 11) hp rfl (fun _ => rfl))) fun a hF => ?_
  refine qb 6 0 hF tk hS rfl rfl rfl fun a hF => ?_
  refine wpQuiet_nil ?_; intro w3 hB_; have hS := hS.ext hB_
  refine hK6 _ _ ?_
  refine wc_fx (t := 38) hF rfl ?_ ?_ <;> clear hF <;> intro c38 hF <;> try simp only [zb] at c38
  ·
   refine wp_region_lit ?_
   refine ra 2 hF tk rfl fun a hF => ?_
   replace hS := Sep.headp (A := [_, _, _, _]) (B := [_, _, _, _]) hS [0, 3, 1, 2] (by decide) rfl rfl
   refine wl_call hF rfl rfl rfl (r_call4 en49 (hF.ev rfl) (hF.ev rfl) ec ec) (l10Finish_c (s := s) hp hS) ?_; clear hF a; rintro v w4 a ⟨rfl, hS⟩ hF
   refine wl_nil ?_
   try simp only [Exit.then, Exit.inBlock, ↓reduceIte]
   refine ret0n rfl hF ⟨rfl, ?_⟩
   unfold takeS
   rw [if_pos c15, if_pos c38]
   exact (Sep.headp (A := [_, _, _, _]) (B := [_, _, _, _]) hS [0, 2, 3, 1] (by decide) rfl rfl)
  refine wp_skip ?_
  try simp only [Exit.then, Exit.inBlock, ↓reduceIte]
  refine ret0n rfl hF ⟨rfl, ?_⟩
  unfold takeS
  rw [if_pos c15, if_neg c38]
  exact hS
 refine ws fun K7 hK7 => ?_
 refine ra 2 hF tk rfl fun a hF => ?_
 refine wl_nil (hK7 _ _ ?_)
 refine wc_fx (t := 42) hF rfl ?_ ?_ <;> clear hF <;> intro c42 hF <;> try simp only [zb] at c42
 ·
  refine wp_seq_k fun K8 hK8 => ?_
  refine wp_seq_k fun K9 hK9 => ?_
  refine wp_region_J (is := [0, 1, 2, 3, 4, 5, 6, 7, 8, 9, 10, 11, 12, 13, 14, 15, 16, 17, 18, 19, 20, 21, 22, 23, 24, 25]) (fun (_ : Unit) r => r) _ (()) [23, 24, 25] (by kernel_rfl) hF hS (by kernel_rfl) ?_; clear hF hS a
  refine tj_pure (by kernel_rfl) rfl (gw0 rfl) rfl rfl (fun a w_ hF => r_move (hF.ev rfl)) ?_
  refine tj_pure (by kernel_rfl) rfl (gw0 rfl) rfl rfl (fun a w_ hF => r_nilCheck (hF.ev rfl)) ?_
  refine tj_pure (by kernel_rfl) rfl (gw0 rfl) rfl rfl (fun a w_ hF => r_field fo42_8 (hF.ev rfl)) ?_
  refine tj_load [10, 11, 12, 13, 14, 15, 16, 17, 18, 19, 20, 21, 22, 23, 24, 25] (by kernel_rfl) rfl (gw0 rfl) rfl rfl (fun a w_ x_ hF hS => r_load1 sc3 (hF.ev rfl) (hS.elt1 (q := 3) (j := 11) hp rfl (fun _ => rfl))) ?_
  refine tj_pure (by kernel_rfl) rfl (gw0 rfl) rfl rfl (fun a w_ hF => r_move (hF.ev rfl)) ?_
  refine tj_pure (by kernel_rfl) rfl (gw0 rfl) rfl rfl (fun a w_ hF => r_nilCheck (hF.ev rfl)) ?_
  refine tj_pure (by kernel_rfl) rfl (gw0 rfl) rfl rfl (fun a w_ hF => r_field fo29_0 (hF.ev rfl)) ?_
  refine tj_pure (by kernel_rfl) rfl (gw0 rfl) rfl rfl (fun a w_ hF => r_field fo25_2 (hF.ev rfl)) ?_
  refine tj_load [9, 10, 11, 12, 13, 14, 15, 16, 17, 18, 19, 20, 21, 22, 23, 24, 25] (by kernel_rfl) rfl (gw0 rfl) rfl rfl (fun a w_ x_ hF hS => r_load1 sc3 (hF.ev rfl) (hS.box (i := 0) rfl rfl)) ?_
  refine tj_pure (by kernel_rfl) rfl (gw0 rfl) rfl rfl (fun a w_ hF => r_sub (hF.ev rfl) ec) ?_
  refine tj_rd (by kernel_rfl) rfl (gw0 rfl) rfl rfl (fun a w_ hF => r_call3 en46 (hF.ev rfl) ec (hF.ev rfl)) (fun w_ hS => l1In_c _ _ _) ?_
  refine tj_pure (by kernel_rfl) rfl (gw0 rfl) rfl rfl (fun a w_ hF => r_not (hF.ev rfl)) ?_
  refine tj_pure (by kernel_rfl) rfl (gw0 rfl) rfl rfl (fun a w_ hF => r_move (hF.ev rfl)) ?_
  refine tj_split 56 rfl ?_ ?_ <;> intro b56 <;> try simp only [zb] at b56
  ·
   refine tj_skip (by kernel_rfl) rfl rfl rfl rfl rfl rfl rfl ?_
   refine tj_skip (by kernel_rfl) rfl rfl rfl rfl rfl rfl rfl ?_
   refine tj_skip (by kernel_rfl) rfl rfl rfl rfl rfl rfl rfl ?_
   refine tj_skip (by kernel_rfl) rfl rfl rfl rfl rfl rfl rfl ?_
   refine tj_skip (by kernel_rfl) rfl rfl rfl rfl rfl rfl rfl ?_
   refine tj_skip (by kernel_rfl) rfl rfl rfl rfl rfl rfl rfl ?_
   refine tj_skip (by kernel_rfl) rfl rfl rfl rfl rfl rfl rfl ?_
   refine tj_skip (by kernel_rfl) rfl rfl rfl rfl rfl rfl rfl ?_
   refine tj_skip (by kernel_rfl) rfl rfl rfl rfl rfl rfl rfl ?_
   refine tj_skip (by kernel_rfl) rfl rfl rfl rfl rfl rfl rfl ?_
   refine tj_fin (tl := [_, _, _]) (by kernel_rfl) rfl ?_; intro a w5 hF hS; try dsimp only at hS
   refine ra 3 hF tk rfl fun a hF => ?_
   refine wl_nil ⟨rfl, ?_⟩
   refine hK9 _ _ ?_
   refine wc_true (hF.ev rfl) ?_
   refine ws fun K10 hK10 => ?_
   refine rb 8 0 hF tk hS rfl rfl rfl fun a hF => ?_
   refine wl_store hF hS (i := 0) rfl sz3 (hF.ev rfl) (hF.ev rfl) rfl rfl fun w6 hS => ?_; dsimp only [List.set, Nat.reduceAdd] at hS
   refine wl_nil (hK10 _ _ ?_)
   refine ws fun K11 hK11 => ?_
   refine ra 3 hF tk rfl fun a hF => ?_
   refine wl_estore (q := 3) (j := 0) (⟨_, ⟨_, _, _⟩, ⟨_, _⟩, _, _, _, _, _, _, _, _, _, _, _, _, _⟩ : Sl.Thread) hF hS hp rfl sz3 (hF.ev rfl) rfl ec rfl (fun _ => rfl) (fun _ => by dsimp only [threadEK, Thread.encv, List.set] <;> rfl) (by intro _; rfl) fun w7 hS => ?_; dsimp only [List.set] at hS
   refine wl_nil (hK11 _ _ ?_)
   refine wp_ret ?_
   try simp only [Exit.then, Exit.inBlock, ↓reduceIte]
   refine ret0 rfl hF ⟨rfl, ?_⟩
   unfold takeS
   rw [if_neg c15, if_pos c42, if_neg (fun h => by rw [hwc] at b56; exact b56 h.1)]
   exact hS
  refine tj_pure (by kernel_rfl) rfl (gw1 rfl rfl rfl rfl) rfl rfl (fun a w_ hF => r_move (hF.ev rfl)) ?_
  refine tj_pure (by kernel_rfl) rfl (gw1 rfl rfl rfl rfl) rfl rfl (fun a w_ hF => r_move (hF.ev rfl)) ?_
  refine tj_pure (by kernel_rfl) rfl (gw1 rfl rfl rfl rfl) rfl rfl (fun a w_ hF => r_nilCheck (hF.ev rfl)) ?_
  refine tj_pure (by kernel_rfl) rfl (gw1 rfl rfl rfl rfl) rfl rfl (fun a w_ hF => r_field fo42_8 (hF.ev rfl)) ?_
  refine tj_load [23, 24, 25] (by kernel_rfl) rfl (gw1 rfl rfl rfl rfl) rfl rfl (fun a w_ x_ hF hS => r_load1 sc3 (hF.ev rfl) (hS.elt1 (q := 3) (j := 11) hp rfl (fun _ => rfl))) ?_
  refine tj_pure (by kernel_rfl) rfl (gw1 rfl rfl rfl rfl) rfl rfl (fun a w_ hF => r_move (hF.ev rfl)) ?_
  refine tj_pure (by kernel_rfl) rfl (gw1 rfl rfl rfl rfl) rfl rfl (fun a w_ hF => r_nilCheck (hF.ev rfl)) ?_
  refine tj_pure (by kernel_rfl) rfl (gw1 rfl rfl rfl rfl) rfl rfl (fun a w_ hF => r_field fo42_8 (hF.ev rfl)) ?_
  refine tj_load [22, 23, 24, 25] (by kernel_rfl) rfl (gw1 rfl rfl rfl rfl) rfl rfl (fun a w_ x_ hF hS => r_load1 sc3 (hF.ev rfl) (hS.elt1 (q := 3) (j := 11) hp rfl (fun _ => rfl))) ?_
  refine tj_pure (by kernel_rfl) rfl (gw1 rfl rfl rfl rfl) rfl rfl (fun a w_ hF => r_add (hF.ev rfl) ec) ?_
  refine tj_fin (tl := [_, _, _]) (by kernel_rfl) rfl ?_; intro a w8 hF hS; try dsimp only at hS
  refine wl_take hF rfl rfl rfl rfl ?_
  refine wl_call hF rfl rfl rfl (r_call4 en163 (hF.ev rfl) ec (hF.ev rfl) (hF.ev rfl)) (l9Swap_c (s := s) hS) ?_; clear hF a; rintro v w9 a ⟨rfl, hS⟩ hF
  refine ra 2 hF tk rfl fun a hF => ?_
  refine wl_nil ⟨rfl, ?_⟩
  refine hK9 _ _ ?_
  refine wc_fx (t := 69) hF rfl ?_ ?_ <;> clear hF <;> intro c69 hF <;> try simp only [zb] at c69
  ·
   refine ws fun K12 hK12 => ?_
   refine rb 8 0 hF tk hS rfl rfl rfl fun a hF => ?_
   refine wl_store hF hS (i := 0) rfl sz3 (hF.ev rfl) (hF.ev rfl) rfl rfl fun w10 hS => ?_; dsimp only [List.set, Nat.reduceAdd] at hS
   refine wl_nil (hK12 _ _ ?_)
   refine ws fun K13 hK13 => ?_
   refine ra 3 hF tk rfl fun a hF => ?_
   refine wl_estore (q := 3) (j := 0) (⟨_, ⟨_, _, _⟩, ⟨_, _⟩, _, _, _, _, _, _, _, _, _, _, _, _, _⟩ : Sl.Thread) hF hS hp rfl sz3 (hF.ev rfl) rfl ec rfl (fun _ => rfl) (fun _ => by dsimp only [threadEK, Thread.encv, List.set] <;> rfl) (by intro _; rfl) fun w11 hS => ?_; dsimp only [List.set] at hS
   refine wl_nil (hK13 _ _ ?_)
   refine wp_ret ?_
   try simp only [Exit.then, Exit.inBlock, ↓reduceIte]
   have hq : ¬ hitB s.cells 1 t.seen = true := fun h => by rw [h] at c69; simp at c69
   refine ret0 rfl hF ⟨rfl, ?_⟩
   unfold takeS
   rw [if_neg c15, if_pos c42, if_neg (fun h => hq h.2)]
   rw [swapS_no hq] at hS
   exact hS
  have hin : (0 ≤ t.seen ∧ t.seen ≤ s.config.capacity - 1) ∧ hitB s.cells 1 t.seen = true := ⟨by rw [hwc] at b56; exact b56, by simpa using c69⟩
  refine wp_skip ?_
  refine hK8 _ _ ?_
  refine wp_seq_k fun K14 hK14 => ?_
  refine wp_region_todo (is := [0, 1, 2, 3, 4, 5, 6, 7, 8, 9, 10, 11, 12, 13, 14, 15, 16, 17, 18]) [] [18] (by kernel_rfl) hF hS ⟨trivial, by decide, by decide, by decide⟩ (by kernel_rfl) ?_; clear hF; intro hl_ wd hSd
  refine todo_pure hl_ (by kernel_rfl) rfl (gw0 rfl) rfl rfl rfl (fun a w_ hF => r_move (hF.ev rfl)) ?_
  refine todo_pure hl_ (by kernel_rfl) rfl (gw0 rfl) rfl rfl rfl (fun a w_ hF => r_move (hF.ev rfl)) ?_
  refine todo_pure hl_ (by kernel_rfl) rfl (gw0 rfl) rfl rfl rfl (fun a w_ hF => r_nilCheck (hF.ev rfl)) ?_
  refine todo_pure hl_ (by kernel_rfl) rfl (gw0 rfl) rfl rfl rfl (fun a w_ hF => r_field fo42_8 (hF.ev rfl)) ?_
  refine todo_load [15, 16, 17, 18] hl_ (by kernel_rfl) rfl (gw0 rfl) rfl rfl rfl (fun a w_ hF hB_ => r_load1 sc3 (hF.ev rfl) ((hSd.ext hB_).elt1 (q := 3) (j := 11) hp rfl (fun _ => rfl))) ?_
  refine todo_pure hl_ (by kernel_rfl) rfl (gw0 rfl) rfl rfl rfl (fun a w_ hF => r_move (hF.ev rfl)) ?_
  refine todo_pure hl_ (by kernel_rfl) rfl (gw0 rfl) rfl rfl rfl (fun a w_ hF => r_nilCheck (hF.ev rfl)) ?_
  refine todo_pure hl_ (by kernel_rfl) rfl (gw0 rfl) rfl rfl rfl (fun a w_ hF => r_field fo29_2 (hF.ev rfl)) ?_
  refine todo_load [13, 14, 15, 16, 17, 18] hl_ (by kernel_rfl) rfl (gw0 rfl) rfl rfl rfl (fun a w_ hF hB_ => r_load1 sc26 (hF.ev rfl) ((hSd.ext hB_).box (i := 0) rfl rfl)) ?_
  refine todo_pure hl_ (by kernel_rfl) rfl (gw0 rfl) rfl rfl rfl (fun a w_ hF => r_move (hF.ev rfl)) ?_
  refine todo_pure hl_ (by kernel_rfl) rfl (gw0 rfl) rfl rfl rfl (fun a w_ hF => r_nilCheck (hF.ev rfl)) ?_
  refine todo_pure hl_ (by kernel_rfl) rfl (gw0 rfl) rfl rfl rfl (fun a w_ hF => r_field fo42_8 (hF.ev rfl)) ?_
  refine todo_load [13, 14, 15, 16, 17, 18] hl_ (by kernel_rfl) rfl (gw0 rfl) rfl rfl rfl (fun a w_ hF hB_ => r_load1 sc3 (hF.ev rfl) ((hSd.ext hB_).elt1 (q := 3) (j := 11) hp rfl (fun _ => rfl))) ?_
  obtain ⟨g94, o94, m94, q94, hv94, hm94, hl94, hc94⟩ := Rd.idxF ((hSd.own_rd (i := 2) rfl)) (at0_get (i := t.seen) (by omega) (by omega))
  refine todo_pure hl_ (by kernel_rfl) rfl (gw0 rfl) rfl rfl rfl (fun a w_ hF => r_index sl26 ((hF.ev rfl).trans hv94) (hF.ev rfl) (by omega) (by first | omega | (simp at hm94; omega))) ?_
  refine todo_load [15, 16, 17, 18] hl_ (by kernel_rfl) rfl (gw0 rfl) rfl rfl rfl (fun a w_ hF hB_ => r_load1 sc3 (hF.ev rfl) (cellB hB_ (hc94 0 _ rfl))) ?_
  refine todo_rd hl_ rfl (by kernel_rfl) rfl rfl rfl rfl rfl (fun a w_ hF => r_call2 en50 (hF.ev rfl) (hF.ev rfl)) (fun w_ hS => specMakeHandle_c) ?_
  refine todo_pure hl_ (by kernel_rfl) rfl (gw0 rfl) rfl rfl rfl (fun a w_ hF => r_nilCheck (hF.ev rfl)) ?_
  refine todo_pure hl_ (by kernel_rfl) rfl (gw0 rfl) rfl rfl rfl (fun a w_ hF => r_field fo42_4 (hF.ev rfl)) ?_
  refine todo_fin hl_ rfl (by kernel_rfl) (tl := [_]) rfl ?_; clear hS a; intro a w12 hF hA_
  have hS := hA_.sep; clear hA_
  clear hl_; try clear hSd
  try dsimp only [List.cons_append, List.nil_append, List.set] at hS
  try clear wd
  refine wl_estore (q := 3) (j := 7) (⟨_, ⟨_, _, _⟩, ⟨_, _⟩, _, _, _, _, _, _, _, _, _, _, _, _, _⟩ : Sl.Thread) hF hS hp rfl sz3 (hF.ev rfl) rfl (hF.ev rfl) rfl (fun _ => rfl) (fun _ => by dsimp only [threadEK, Thread.encv, List.set] <;> rfl) (by intro _; rfl) fun w13 hS => ?_; dsimp only [List.set] at hS
  refine wl_nil ⟨rfl, ?_⟩
  refine hK14 _ _ ?_
  refine wp_region_lit ?_
  refine ra 3 hF tk rfl fun a hF => ?_
  refine wl_estore (q := 3) (j := 0) (⟨_, ⟨_, _, _⟩, ⟨_, _⟩, _, _, _, _, _, _, _, _, _, _, _, _, _⟩ : Sl.Thread) hF hS hp rfl sz3 (hF.ev rfl) rfl ec rfl (fun _ => rfl) (fun _ => by dsimp only [threadEK, Thread.encv, List.set] <;> rfl) (by intro _; rfl) fun w14 hS => ?_; dsimp only [List.set] at hS
  refine wl_nil ?_
  try simp only [Exit.then, Exit.inBlock, ↓reduceIte]
  refine ret0n rfl hF ⟨rfl, ?_⟩
  unfold takeS
  rw [if_neg c15, if_pos c42, if_pos hin]
  exact hS
 refine ws fun K15 hK15 => ?_
 refine ra 2 hF tk rfl fun a hF => ?_
 refine wl_nil (hK15 _ _ ?_)
 refine wc_fx (t := 102) hF rfl ?_ ?_ <;> clear hF <;> intro c102 hF <;> try simp only [zb] at c102
 ·
  refine wp_seq_k fun K16 hK16 => ?_
  refine wp_region_J (is := [0, 1, 2, 3, 4, 5, 7, 8, 9, 10, 11, 6, 12]) (fun (f : Int) r => Box g (s.encf (sv z0) (sv z1) (.slice (some ⟨gt, ot, none⟩) mt ct) f) :: r) _ (s.faults) [12] (by kernel_rfl) hF hS (by kernel_rfl) ?_; clear hF hS a
  refine tj_pure (by kernel_rfl) rfl (gw0 rfl) rfl rfl (fun a w_ hF => r_move (hF.ev rfl)) ?_
  refine tj_pure (by kernel_rfl) rfl (gw0 rfl) rfl rfl (fun a w_ hF => r_move (hF.ev rfl)) ?_
  refine tj_pure (by kernel_rfl) rfl (gw0 rfl) rfl rfl (fun a w_ hF => r_move (hF.ev rfl)) ?_
  refine tj_pure (by kernel_rfl) rfl (gw0 rfl) rfl rfl (fun a w_ hF => r_nilCheck (hF.ev rfl)) ?_
  refine tj_pure (by kernel_rfl) rfl (gw0 rfl) rfl rfl (fun a w_ hF => r_field fo42_4 (hF.ev rfl)) ?_
  refine tj_load [6, 12] (by kernel_rfl) rfl (gw0 rfl) rfl rfl (fun a w_ x_ hF hS => r_load1 sc3 (hF.ev rfl) (hS.elt1 (q := 3) (j := 7) hp rfl (fun _ => rfl))) ?_
  refine tj_pure (by kernel_rfl) rfl (gw0 rfl) rfl rfl (fun a w_ hF => r_move (hF.ev rfl)) ?_
  refine tj_pure (by kernel_rfl) rfl (gw0 rfl) rfl rfl (fun a w_ hF => r_nilCheck (hF.ev rfl)) ?_
  refine tj_pure (by kernel_rfl) rfl (gw0 rfl) rfl rfl (fun a w_ hF => r_field fo42_1 (hF.ev rfl)) ?_
  refine tj_pure (by kernel_rfl) rfl (gw0 rfl) rfl rfl (fun a w_ hF => r_field fo31_2 (hF.ev rfl)) ?_
  refine tj_load [12] (by kernel_rfl) rfl (gw0 rfl) rfl rfl (fun a w_ x_ hF hS => r_load1 sc3 (hF.ev rfl) (hS.elt1 (q := 3) (j := 3) hp rfl (fun _ => rfl))) ?_
  refine tj_mc (by kernel_rfl) rfl (gw0 rfl) rfl rfl (fun a w_ hF => r_call3 en166 (hF.ev rfl) (hF.ev rfl) ec) (fun w_ hS => calls_unit (l9Cell_c (s := s) hf.node hf.lg (Sep.headp (A := [_, _, _, _]) (B := [_, _, _, _]) hS [0, 2, 1, 3] (by decide) rfl rfl))) (fun _ w_ h_ => ⟨_, (Sep.headp (A := [_, _, _, _]) (B := [_, _, _, _]) h_ [0, 2, 1, 3] (by decide) rfl rfl)⟩) ?_; intro _
  refine tj_fin (tl := [_]) (by kernel_rfl) rfl ?_; intro a w15 hF hS; try dsimp only at hS
  replace hS := Sep.headp (A := [_, _, _, _]) (B := [_, _, _, _]) hS [0, 2, 1, 3] (by decide) rfl rfl
  refine wl_call hF rfl rfl rfl (r_call3 en123 (hF.ev rfl) (hF.ev rfl) (hF.ev rfl)) (l9Put_c (s := faultS s t.node) hS) ?_; clear hF a; rintro v w16 a ⟨rfl, hS⟩ hF
  refine wl_nil ⟨rfl, ?_⟩
  refine hK16 _ _ ?_
  refine wp_region_lit ?_
  refine ra 3 hF tk rfl fun a hF => ?_
  refine wl_estore (q := 3) (j := 0) (⟨_, ⟨_, _, _⟩, ⟨_, _⟩, _, _, _, _, _, _, _, _, _, _, _, _, _⟩ : Sl.Thread) hF hS hp rfl sz3 (hF.ev rfl) rfl ec rfl (fun _ => rfl) (fun _ => by dsimp only [threadEK, Thread.encv, List.set] <;> rfl) (by intro _; rfl) fun w17 hS => ?_; dsimp only [List.set] at hS
  refine wl_nil ?_
  try simp only [Exit.then, Exit.inBlock, ↓reduceIte]
  refine ret0n rfl hF ⟨rfl, ?_⟩
  unfold takeS
  rw [if_neg c15, if_neg c42, if_pos c102]
  exact hS
 refine ws fun K17 hK17 => ?_
 refine ra 2 hF tk rfl fun a hF => ?_
 refine wl_nil (hK17 _ _ ?_)
 refine wc_fx (t := 120) hF rfl ?_ ?_ <;> clear hF <;> intro c120 hF <;> try simp only [zb] at c120
 ·
  refine ws fun K18 hK18 => ?_
  refine ra 5 hF tk rfl fun a hF => ?_
  refine wl hF rfl rfl rfl (r_load1 sc3 (hF.ev rfl) (hS.elt1 (q := 3) (j := 7) hp rfl (fun _ => rfl))) fun a hF => ?_
  replace hS := Sep.headp (A := [_, _, _, _]) (B := [_, _, _, _]) hS [0, 2, 1, 3] (by decide) rfl rfl
  refine wl_call hF rfl rfl rfl (r_call3 en166 (hF.ev rfl) (hF.ev rfl) ec) (l9Cell_c (s := s) hf.node hf.lg hS) ?_; clear hF a; rintro v w18 a ⟨rfl, hS⟩ hF
  replace hS := Sep.headp (A := [_, _, _, _]) (B := [_, _, _, _]) hS [0, 2, 1, 3] (by decide) rfl rfl
  refine wl_call hF rfl rfl rfl (r_call3 en123 (hF.ev rfl) (hF.ev rfl) ec) (l9Put_c (s := faultS s t.node) hS) ?_; clear hF a; rintro v w19 a ⟨rfl, hS⟩ hF
  refine wl_nil (hK18 _ _ ?_)
  refine wp_region_lit ?_
  refine ra 3 hF tk rfl fun a hF => ?_
  refine wl_estore (q := 3) (j := 0) (⟨_, ⟨_, _, _⟩, ⟨_, _⟩, _, _, _, _, _, _, _, _, _, _, _, _, _⟩ : Sl.Thread) hF hS hp rfl sz3 (hF.ev rfl) rfl ec rfl (fun _ => rfl) (fun _ => by dsimp only [threadEK, Thread.encv, List.set] <;> rfl) (by intro _; rfl) fun w20 hS => ?_; dsimp only [List.set] at hS
  refine wl_nil ?_
  try simp only [Exit.then, Exit.inBlock, ↓reduceIte]
  refine ret0n rfl hF ⟨rfl, ?_⟩
  unfold takeS
  rw [if_neg c15, if_neg c42, if_neg c102, if_pos c120]
  exact hS
 refine ws fun K19 hK19 => ?_
 refine ra 2 hF tk rfl fun a hF => ?_
 refine wl_nil (hK19 _ _ ?_)
 refine wc_fx (t := 133) hF rfl ?_ ?_ <;> clear hF <;> intro c133 hF <;> try simp only [zb] at c133
 ·
  refine wp_seq_k fun K20 hK20 => ?_
  refine wp_region_J (is := [0, 1, 2, 3, 4, 5, 7, 8, 9, 10, 6, 11]) (fun (_ : Unit) r => r) _ (()) [11] (by kernel_rfl) hF hS (by kernel_rfl) ?_; clear hF hS a
  refine tj_pure (by kernel_rfl) rfl (gw0 rfl) rfl rfl (fun a w_ hF => r_move (hF.ev rfl)) ?_
  refine tj_pure (by kernel_rfl) rfl (gw0 rfl) rfl rfl (fun a w_ hF => r_move (hF.ev rfl)) ?_
  refine tj_pure (by kernel_rfl) rfl (gw0 rfl) rfl rfl (fun a w_ hF => r_nilCheck (hF.ev rfl)) ?_
  refine tj_pure (by kernel_rfl) rfl (gw0 rfl) rfl rfl (fun a w_ hF => r_field fo29_0 (hF.ev rfl)) ?_
  refine tj_load [6, 11] (by kernel_rfl) rfl (gw0 rfl) rfl rfl (fun a w_ x_ hF hS => r_loadn ag25 (hF.ev rfl) (hS.boxn (vs := [_, _, _, _, _, _]) (i := 0) (m := 6) rfl rfl) sz25) ?_
  refine tj_pure (by kernel_rfl) rfl (gw0 rfl) rfl rfl (fun a w_ hF => r_move (hF.ev rfl)) ?_
  refine tj_pure (by kernel_rfl) rfl (gw0 rfl) rfl rfl (fun a w_ hF => r_move (hF.ev rfl)) ?_
  refine tj_pure (by kernel_rfl) rfl (gw0 rfl) rfl rfl (fun a w_ hF => r_nilCheck (hF.ev rfl)) ?_
  refine tj_pure (by kernel_rfl) rfl (gw0 rfl) rfl rfl (fun a w_ hF => r_field fo42_4 (hF.ev rfl)) ?_
  refine tj_load [11] (by kernel_rfl) rfl (gw0 rfl) rfl rfl (fun a w_ x_ hF hS => r_load1 sc3 (hF.ev rfl) (hS.elt1 (q := 3) (j := 7) hp rfl (fun _ => rfl))) ?_
  refine tj_rd (by kernel_rfl) rfl (gw0 rfl) rfl rfl (fun a w_ hF => r_call3 en109 (hF.ev rfl) (hF.ev rfl) ec) (fun w_ hS => specHazardCell_c _ _ _) ?_
  refine tj_fin (tl := [_]) (by kernel_rfl) rfl ?_; intro a w21 hF hS; try dsimp only at hS
  refine wl_call hF rfl rfl rfl (r_call3 en123 (hF.ev rfl) (hF.ev rfl) (hF.ev rfl)) (l9Put_c (s := s) hS) ?_; clear hF a; rintro v w22 a ⟨rfl, hS⟩ hF
  refine wl_nil ⟨rfl, ?_⟩
  refine hK20 _ _ ?_
  refine wp_region_lit ?_
  refine ra 3 hF tk rfl fun a hF => ?_
  refine wl_estore (q := 3) (j := 0) (⟨_, ⟨_, _, _⟩, ⟨_, _⟩, _, _, _, _, _, _, _, _, _, _, _, _, _⟩ : Sl.Thread) hF hS hp rfl sz3 (hF.ev rfl) rfl ec rfl (fun _ => rfl) (fun _ => by dsimp only [threadEK, Thread.encv, List.set] <;> rfl) (by intro _; rfl) fun w23 hS => ?_; dsimp only [List.set] at hS
  refine wl_nil ?_
  try simp only [Exit.then, Exit.inBlock, ↓reduceIte]
  refine ret0n rfl hF ⟨rfl, ?_⟩
  unfold takeS
  rw [if_neg c15, if_neg c42, if_neg c102, if_neg c120, if_pos c133]
  exact hS
 refine wp_skip ?_
 try simp only [Exit.then, Exit.inBlock, ↓reduceIte]
 refine ret0n rfl hF ⟨rfl, ?_⟩
 unfold takeS
 rw [if_neg c15, if_neg c42, if_neg c102, if_neg c120, if_neg c133]
 exact hS
set_option maxHeartbeats 4000000 in
set_option maxRecDepth 20000 in
theorem l14Head_c {W w : World} {l : List Res} {g gt ot mt ct p : Nat} {z0 z1 : Slv} {s : Sl.State} {t : Sl.Thread} (hp : p < s.threads.length) (hf : Fit s t) (hS : Sep W (Box g ((s).encv (sv z0) (sv z1) (.slice (some ⟨gt, ot, none⟩) mt ct)) :: Own intEK (sv z0) (s).cells :: Own intEK (sv z1) (s).generations :: Own threadEK (.slice (some ⟨gt, ot, none⟩) mt ct) (s.threads.set p t) :: l) w) : Calls Tryz.prog 119 #[.pointer (some ⟨g, 0, none⟩), vi (p : Int)] w (Ret fun v w' => v = .tuple #[] ∧ Sep W (Box g (((headS s t (p : Int)).1).encv (sv z0) (sv z1) (.slice (some ⟨gt, ot, none⟩) mt ct)) :: Own intEK (sv z0) ((headS s t (p : Int)).1).cells :: Own intEK (sv z1) ((headS s t (p : Int)).1).generations :: Own threadEK (.slice (some ⟨gt, ot, none⟩) mt ct) (s.threads.set p (headS s t (p : Int)).2) :: l) w') := by
 refine calls_fr Tryz.func119 rfl Tryz.ntmps119 rfl ?_
 intro a hF
 have hl0 := hS.own_len (q := 1) rfl
 have hl1 := hS.own_len (q := 2) rfl
 have hmt : mt = s.threads.length := by have := hS.own_len (q := 3) (s := (some ⟨gt, ot, none⟩, mt, ct)) rfl; simpa using this
 have hlc := hf.two
 refine ws fun K1 hK1 => ?_
 refine rb 5 0 hF tk hS rfl rfl rfl fun a hF => ?_
 refine wl hF rfl rfl rfl (r_index sl27 (hF.ev rfl) (hF.ev rfl) (by omega) (by first | omega | (dsimp only; omega))) fun a hF => ?_
 refine ra 1 hF tk rfl fun a hF => ?_
 refine wl_nil (hK1 _ _ ?_)
 refine wp_seq_k fun K2 hK2 => ?_
 refine wp_region_calm (by kernel_rfl) (by kernel_rfl) ?_
 refine qa 3 hF tk rfl fun a hF => ?_
 refine wq hF rfl rfl rfl (fun w_ hB_ => r_loadn ag25 (hF.ev rfl) ((hS.ext hB_).boxn (vs := [_, _, _, _, _, _]) (i := 0) (m := 6) rfl rfl) sz25) fun a hF => ?_
 refine qa 4 hF tk rfl fun a hF => ?_
 refine wq hF rfl rfl rfl (fun w_ hB_ => r_load1 sc3 (hF.ev rfl) ((hS.ext hB_).elt1 (q := 3) (j := 2) hp rfl (fun _ => rfl))) fun a hF => ?_
 refine wq_call hF rfl rfl rfl (fun w_ hB_ => r_call2 en94 (hF.ev rfl) (hF.ev rfl)) (fun w_ hB_ => specHeadCell_c _ _) fun a hF => ?_
 refine qa 1 hF tk rfl fun a hF => ?_
 refine wpQuiet_nil ?_; intro w1 hB_; have hS := hS.ext hB_
 refine hK2 _ _ ?_
 refine ws fun K3 hK3 => ?_
 refine ra 3 hF tk rfl fun a hF => ?_
 refine wl hF rfl rfl rfl (r_load1 sc3 (hF.ev rfl) (hS.elt1 (q := 3) (j := 0) hp rfl (fun _ => rfl))) fun a hF => ?_
 refine wl_nil (hK3 _ _ ?_)
 refine wp_block ?_
 refine ws fun K4 hK4 => ?_
 refine ra 2 hF tk rfl fun a hF => ?_
 refine wl_nil (hK4 _ _ ?_)
 refine wc_fx (t := 26) hF rfl ?_ ?_ <;> clear hF <;> intro c26 hF <;> try simp only [zb] at c26
 ·
  refine ws fun K5 hK5 => ?_
  refine ra 3 hF tk rfl fun a hF => ?_
  refine wl_call hF rfl rfl rfl (r_call2 en108 (hF.ev rfl) (hF.ev rfl)) (l9LoadR_c (fun j u hu => hS.box7 (i := 0) rfl j u hu) (hS.own_rd (i := 1) rfl)) ?_; clear hF a; rintro v w2 a ⟨rfl, hB_⟩ hF; have hS := hS.ext hB_
  refine wl_call hF rfl rfl rfl (r_call1 en156 (hF.ev rfl)) (specUnmarked_c (int64_loadC hf.wc)) ?_; clear hF a; rintro v w3 a ⟨rfl, hB_⟩ hF; have hS := hS.ext hB_
  refine ra 2 hF tk rfl fun a hF => ?_
  refine wl_estore (q := 3) (j := 9) (⟨_, ⟨_, _, _⟩, ⟨_, _⟩, _, _, _, _, _, _, _, _, _, _, _, _, _⟩ : Sl.Thread) hF hS hp rfl sz3 (hF.ev rfl) rfl (hF.ev rfl) rfl (fun _ => rfl) (fun _ => by dsimp only [threadEK, Thread.encv, List.set] <;> rfl) (by intro _; rfl) fun w4 hS => ?_; dsimp only [List.set] at hS
  refine wl_nil (hK5 _ _ ?_)
  refine ws fun K6 hK6 => ?_
  refine ra 3 hF tk rfl fun a hF => ?_
  refine wl_estore (q := 3) (j := 0) (⟨_, ⟨_, _, _⟩, ⟨_, _⟩, _, _, _, _, _, _, _, _, _, _, _, _, _⟩ : Sl.Thread) hF hS hp rfl sz3 (hF.ev rfl) rfl ec rfl (fun _ => rfl) (fun _ => by dsimp only [threadEK, Thread.encv, List.set] <;> rfl) (by intro _; rfl) fun w5 hS => ?_; dsimp only [List.set] at hS
  refine wl_nil (hK6 _ _ ?_)
  refine ws fun K7 hK7 => ?_
  refine ra 3 hF tk rfl fun a hF => ?_
  refine wl hF rfl rfl rfl (r_load1 sc3 (hF.ev rfl) (hS.elt1 (q := 3) (j := 9) hp rfl (fun _ => rfl))) fun a hF => ?_
  refine ra 1 hF tk rfl fun a hF => ?_
  refine wl_nil (hK7 _ _ ?_)
  refine wc_fx (t := 42) hF rfl ?_ ?_ <;> clear hF <;> intro c42 hF <;> try simp only [zb] at c42
  ·
   refine wp_region_lit ?_
   refine ra 3 hF tk rfl fun a hF => ?_
   refine wl_estore (q := 3) (j := 0) (⟨_, ⟨_, _, _⟩, ⟨_, _⟩, _, _, _, _, _, _, _, _, _, _, _, _, _⟩ : Sl.Thread) hF hS hp rfl sz3 (hF.ev rfl) rfl ec rfl (fun _ => rfl) (fun _ => by dsimp only [threadEK, Thread.encv, List.set] <;> rfl) (by intro _; rfl) fun w6 hS => ?_; dsimp only [List.set] at hS
   refine wl_nil ?_
   try simp only [Exit.then, Exit.inBlock, ↓reduceIte]
   refine ret0n rfl hF ⟨rfl, ?_⟩
   unfold headS
   rw [if_pos c26, if_pos c42]
   exact hS
  refine wp_skip ?_
  try simp only [Exit.then, Exit.inBlock, ↓reduceIte]
  refine ret0n rfl hF ⟨rfl, ?_⟩
  unfold headS
  rw [if_pos c26, if_neg c42]
  exact hS
 refine ws fun K8 hK8 => ?_
 refine ra 2 hF tk rfl fun a hF => ?_
 refine wl_nil (hK8 _ _ ?_)
 refine wc_fx (t := 46) hF rfl ?_ ?_ <;> clear hF <;> intro c46 hF <;> try simp only [zb] at c46
 ·
  refine wp_seq_k fun K9 hK9 => ?_
  refine wp_region_J (is := [0, 1, 2, 3, 4, 5, 7, 8, 9, 10, 6, 11]) (fun (_ : Unit) r => r) _ (()) [11] (by kernel_rfl) hF hS (by kernel_rfl) ?_; clear hF hS a
  refine tj_pure (by kernel_rfl) rfl (gw0 rfl) rfl rfl (fun a w_ hF => r_move (hF.ev rfl)) ?_
  refine tj_pure (by kernel_rfl) rfl (gw0 rfl) rfl rfl (fun a w_ hF => r_move (hF.ev rfl)) ?_
  refine tj_pure (by kernel_rfl) rfl (gw0 rfl) rfl rfl (fun a w_ hF => r_nilCheck (hF.ev rfl)) ?_
  refine tj_pure (by kernel_rfl) rfl (gw0 rfl) rfl rfl (fun a w_ hF => r_field fo29_0 (hF.ev rfl)) ?_
  refine tj_load [6, 11] (by kernel_rfl) rfl (gw0 rfl) rfl rfl (fun a w_ x_ hF hS => r_loadn ag25 (hF.ev rfl) (hS.boxn (vs := [_, _, _, _, _, _]) (i := 0) (m := 6) rfl rfl) sz25) ?_
  refine tj_pure (by kernel_rfl) rfl (gw0 rfl) rfl rfl (fun a w_ hF => r_move (hF.ev rfl)) ?_
  refine tj_pure (by kernel_rfl) rfl (gw0 rfl) rfl rfl (fun a w_ hF => r_move (hF.ev rfl)) ?_
  refine tj_pure (by kernel_rfl) rfl (gw0 rfl) rfl rfl (fun a w_ hF => r_nilCheck (hF.ev rfl)) ?_
  refine tj_pure (by kernel_rfl) rfl (gw0 rfl) rfl rfl (fun a w_ hF => r_field fo42_6 (hF.ev rfl)) ?_
  refine tj_load [11] (by kernel_rfl) rfl (gw0 rfl) rfl rfl (fun a w_ x_ hF hS => r_load1 sc3 (hF.ev rfl) (hS.elt1 (q := 3) (j := 9) hp rfl (fun _ => rfl))) ?_
  refine tj_rd (by kernel_rfl) rfl (gw0 rfl) rfl rfl (fun a w_ hF => r_call3 en109 (hF.ev rfl) (hF.ev rfl) ec) (fun w_ hS => specHazardCell_c _ _ _) ?_
  refine tj_fin (tl := [_]) (by kernel_rfl) rfl ?_; intro a w7 hF hS; try dsimp only at hS
  refine wl_call hF rfl rfl rfl (r_call3 en123 (hF.ev rfl) (hF.ev rfl) (hF.ev rfl)) (l9Put_c (s := s) hS) ?_; clear hF a; rintro v w8 a ⟨rfl, hS⟩ hF
  refine wl_nil ⟨rfl, ?_⟩
  refine hK9 _ _ ?_
  refine wp_region_lit ?_
  refine ra 3 hF tk rfl fun a hF => ?_
  refine wl_estore (q := 3) (j := 0) (⟨_, ⟨_, _, _⟩, ⟨_, _⟩, _, _, _, _, _, _, _, _, _, _, _, _, _⟩ : Sl.Thread) hF hS hp rfl sz3 (hF.ev rfl) rfl ec rfl (fun _ => rfl) (fun _ => by dsimp only [threadEK, Thread.encv, List.set] <;> rfl) (by intro _; rfl) fun w9 hS => ?_; dsimp only [List.set] at hS
  refine wl_nil ?_
  try simp only [Exit.then, Exit.inBlock, ↓reduceIte]
  refine ret0n rfl hF ⟨rfl, ?_⟩
  unfold headS
  rw [if_neg c26, if_pos c46]
  exact hS
 refine ws fun K10 hK10 => ?_
 refine ra 2 hF tk rfl fun a hF => ?_
 refine wl_nil (hK10 _ _ ?_)
 refine wc_fx (t := 63) hF rfl ?_ ?_ <;> clear hF <;> intro c63 hF <;> try simp only [zb] at c63
 ·
  refine ws fun K11 hK11 => ?_
  refine ra 3 hF tk rfl fun a hF => ?_
  refine wl_estore (q := 3) (j := 0) (⟨_, ⟨_, _, _⟩, ⟨_, _⟩, _, _, _, _, _, _, _, _, _, _, _, _, _⟩ : Sl.Thread) hF hS hp rfl sz3 (hF.ev rfl) rfl ec rfl (fun _ => rfl) (fun _ => by dsimp only [threadEK, Thread.encv, List.set] <;> rfl) (by intro _; rfl) fun w10 hS => ?_; dsimp only [List.set] at hS
  refine wl_nil (hK11 _ _ ?_)
  refine wp_seq_k fun K12 hK12 => ?_
  refine wp_region_calm (by kernel_rfl) (by kernel_rfl) ?_
  refine qa 2 hF tk rfl fun a hF => ?_
  refine wq_call hF rfl rfl rfl (fun w_ hB_ => r_call2 en108 (hF.ev rfl) (hF.ev rfl)) (fun w_ hB_ => l9LoadR_c (fun j u hu => (hS.ext hB_).box7 (i := 0) rfl j u hu) ((hS.ext hB_).own_rd (i := 1) rfl)) fun a hF => ?_
  refine qa 3 hF tk rfl fun a hF => ?_
  refine wq hF rfl rfl rfl (fun w_ hB_ => r_load1 sc3 (hF.ev rfl) ((hS.ext hB_).elt1 (q := 3) (j := 9) hp rfl (fun _ => rfl))) fun a hF => ?_
  refine qa 1 hF tk rfl fun a hF => ?_
  refine wpQuiet_nil ?_; intro w11 hB_; have hS := hS.ext hB_
  refine hK12 _ _ ?_
  refine wc_fx (t := 75) hF rfl ?_ ?_ <;> clear hF <;> intro c75 hF <;> try simp only [zb] at c75
  ·
   refine ws fun K13 hK13 => ?_
   refine rb 8 0 hF tk hS rfl rfl rfl fun a hF => ?_
   refine wl_store hF hS (i := 0) rfl sz3 (hF.ev rfl) (hF.ev rfl) rfl rfl fun w12 hS => ?_; dsimp only [List.set, Nat.reduceAdd] at hS
   refine wl_nil (hK13 _ _ ?_)
   refine wp_region_lit ?_
   refine ra 3 hF tk rfl fun a hF => ?_
   refine wl_estore (q := 3) (j := 0) (⟨_, ⟨_, _, _⟩, ⟨_, _⟩, _, _, _, _, _, _, _, _, _, _, _, _, _⟩ : Sl.Thread) hF hS hp rfl sz3 (hF.ev rfl) rfl ec rfl (fun _ => rfl) (fun _ => by dsimp only [threadEK, Thread.encv, List.set] <;> rfl) (by intro _; rfl) fun w13 hS => ?_; dsimp only [List.set] at hS
   refine wl_nil ?_
   try simp only [Exit.then, Exit.inBlock, ↓reduceIte]
   refine ret0n rfl hF ⟨rfl, ?_⟩
   unfold headS
   rw [if_neg c26, if_neg c46, if_pos c63, if_neg c75]
   exact hS
  refine wp_skip ?_
  try simp only [Exit.then, Exit.inBlock, ↓reduceIte]
  refine ret0n rfl hF ⟨rfl, ?_⟩
  unfold headS
  rw [if_neg c26, if_neg c46, if_pos c63, if_pos c75]
  exact hS
 refine ws fun K14 hK14 => ?_
 refine ra 2 hF tk rfl fun a hF => ?_
 refine wl_nil (hK14 _ _ ?_)
 refine wc_fx (t := 87) hF rfl ?_ ?_ <;> clear hF <;> intro c87 hF <;> try simp only [zb] at c87
 ·
  refine ws fun K15 hK15 => ?_
  refine ra 6 hF tk rfl fun a hF => ?_
  refine wl hF rfl rfl rfl (r_load1 sc3 (hF.ev rfl) (hS.elt1 (q := 3) (j := 9) hp rfl (fun _ => rfl))) fun a hF => ?_
  replace hS := Sep.headp (A := [_, _, _, _]) (B := [_, _, _, _]) hS [0, 2, 1, 3] (by decide) rfl rfl
  refine wl_call hF rfl rfl rfl (r_call3 en166 (hF.ev rfl) (hF.ev rfl) ec) (l9Cell_c (s := s) hf.curr hf.lg hS) ?_; clear hF a; rintro v w14 a ⟨rfl, hS⟩ hF
  refine wl_call hF rfl rfl rfl (r_call2 en108 (hF.ev rfl) (hF.ev rfl)) (l9LoadR_c (fun j u hu => hS.box7 (i := 0) rfl j u hu) (hS.own_rd (i := 2) rfl)) ?_; clear hF a; rintro v w15 a ⟨rfl, hB_⟩ hF; have hS := hS.ext hB_
  refine ra 2 hF tk rfl fun a hF => ?_
  refine wl_estore (q := 3) (j := 12) (⟨_, ⟨_, _, _⟩, ⟨_, _⟩, _, _, _, _, _, _, _, _, _, _, _, _, _⟩ : Sl.Thread) hF hS hp rfl sz3 (hF.ev rfl) rfl (hF.ev rfl) rfl (fun _ => rfl) (fun _ => by dsimp only [threadEK, Thread.encv, List.set] <;> rfl) (by intro _; rfl) fun w16 hS => ?_; dsimp only [List.set] at hS
  refine wl_nil (hK15 _ _ ?_)
  refine ws fun K16 hK16 => ?_
  refine ra 3 hF tk rfl fun a hF => ?_
  refine wl_estore (q := 3) (j := 0) (⟨_, ⟨_, _, _⟩, ⟨_, _⟩, _, _, _, _, _, _, _, _, _, _, _, _, _⟩ : Sl.Thread) hF hS hp rfl sz3 (hF.ev rfl) rfl ec rfl (fun _ => rfl) (fun _ => by dsimp only [threadEK, Thread.encv, List.set] <;> rfl) (by intro _; rfl) fun w17 hS => ?_; dsimp only [List.set] at hS
  refine wl_nil (hK16 _ _ ?_)
  refine ws fun K17 hK17 => ?_
  refine ra 3 hF tk rfl fun a hF => ?_
  refine wl hF rfl rfl rfl (r_load1 sc3 (hF.ev rfl) (hS.elt1 (q := 3) (j := 12) hp rfl (fun _ => rfl))) fun a hF => ?_
  refine ra 1 hF tk rfl fun a hF => ?_
  refine wl_nil (hK17 _ _ ?_)
  refine wc_fx (t := 107) hF rfl ?_ ?_ <;> clear hF <;> intro c107 hF <;> try simp only [zb] at c107
  ·
   refine wp_region_lit ?_
   refine ra 3 hF tk rfl fun a hF => ?_
   refine wl_estore (q := 3) (j := 0) (⟨_, ⟨_, _, _⟩, ⟨_, _⟩, _, _, _, _, _, _, _, _, _, _, _, _, _⟩ : Sl.Thread) hF hS hp rfl sz3 (hF.ev rfl) rfl ec rfl (fun _ => rfl) (fun _ => by dsimp only [threadEK, Thread.encv, List.set] <;> rfl) (by intro _; rfl) fun w18 hS => ?_; dsimp only [List.set] at hS
   refine wl_nil ?_
   try simp only [Exit.then, Exit.inBlock, ↓reduceIte]
   refine ret0n rfl hF ⟨rfl, ?_⟩
   unfold headS
   rw [if_neg c26, if_neg c46, if_neg c63, if_pos c87, if_pos c107]
   exact (Sep.headp (A := [_, _, _, _]) (B := [_, _, _, _]) hS [0, 2, 1, 3] (by decide) rfl rfl)
  refine wp_skip ?_
  try simp only [Exit.then, Exit.inBlock, ↓reduceIte]
  refine ret0n rfl hF ⟨rfl, ?_⟩
  unfold headS
  rw [if_neg c26, if_neg c46, if_neg c63, if_pos c87, if_neg c107]
  exact (Sep.headp (A := [_, _, _, _]) (B := [_, _, _, _]) hS [0, 2, 1, 3] (by decide) rfl rfl)
 refine ws fun K18 hK18 => ?_
 refine ra 2 hF tk rfl fun a hF => ?_
 refine wl_nil (hK18 _ _ ?_)
 refine wc_fx (t := 111) hF rfl ?_ ?_ <;> clear hF <;> intro c111 hF <;> try simp only [zb] at c111
 ·
  refine ws fun K19 hK19 => ?_
  refine rb 5 0 hF tk hS rfl rfl rfl fun a hF => ?_
  obtain ⟨g118, o118, m118, q118, hv118, hm118, hl118, hc118⟩ := Rd.atF ((hS.own_rd (i := 1) rfl)) (a := a) (X := .const (.int .i64 0)) ec (by omega) (by omega)
  refine wl hF rfl rfl rfl (r_index sl26 ((hF.ev rfl).trans hv118) ec (by omega) (by first | omega | (simp at hm118; omega))) fun a hF => ?_
  refine wl hF rfl rfl rfl (r_load1 sc3 (hF.ev rfl) (hc118 0 _ rfl)) fun a hF => ?_
  refine ra 2 hF tk rfl fun a hF => ?_
  refine wl_estore (q := 3) (j := 11) (⟨_, ⟨_, _, _⟩, ⟨_, _⟩, _, _, _, _, _, _, _, _, _, _, _, _, _⟩ : Sl.Thread) hF hS hp rfl sz3 (hF.ev rfl) rfl (hF.ev rfl) rfl (fun _ => rfl) (fun _ => by dsimp only [threadEK, Thread.encv, List.set] <;> rfl) (by intro _; rfl) fun w19 hS => ?_; dsimp only [List.set] at hS
  refine wl_nil (hK19 _ _ ?_)
  refine wp_region_lit ?_
  refine ra 3 hF tk rfl fun a hF => ?_
  refine wl_estore (q := 3) (j := 0) (⟨_, ⟨_, _, _⟩, ⟨_, _⟩, _, _, _, _, _, _, _, _, _, _, _, _, _⟩ : Sl.Thread) hF hS hp rfl sz3 (hF.ev rfl) rfl ec rfl (fun _ => rfl) (fun _ => by dsimp only [threadEK, Thread.encv, List.set] <;> rfl) (by intro _; rfl) fun w20 hS => ?_; dsimp only [List.set] at hS
  refine wl_nil ?_
  try simp only [Exit.then, Exit.inBlock, ↓reduceIte]
  refine ret0n rfl hF ⟨rfl, ?_⟩
  unfold headS
  rw [if_neg c26, if_neg c46, if_neg c63, if_neg c87, if_pos c111]
  exact hS
 refine ws fun K20 hK20 => ?_
 refine ra 2 hF tk rfl fun a hF => ?_
 refine wl_nil (hK20 _ _ ?_)
 refine wc_fx (t := 125) hF rfl ?_ ?_ <;> clear hF <;> intro c125 hF <;> try simp only [zb] at c125
 ·
  refine wp_seq_k fun K21 hK21 => ?_
  refine wp_region_J (is := [0, 1, 2, 3, 4, 5, 7, 8, 9, 10, 6, 11]) (fun (f : Int) r => Box g (s.encf (sv z0) (sv z1) (.slice (some ⟨gt, ot, none⟩) mt ct) f) :: r) _ (s.faults) [11] (by kernel_rfl) hF hS (by kernel_rfl) ?_; clear hF hS a
  refine tj_pure (by kernel_rfl) rfl (gw0 rfl) rfl rfl (fun a w_ hF => r_move (hF.ev rfl)) ?_
  refine tj_pure (by kernel_rfl) rfl (gw0 rfl) rfl rfl (fun a w_ hF => r_move (hF.ev rfl)) ?_
  refine tj_pure (by kernel_rfl) rfl (gw0 rfl) rfl rfl (fun a w_ hF => r_move (hF.ev rfl)) ?_
  refine tj_pure (by kernel_rfl) rfl (gw0 rfl) rfl rfl (fun a w_ hF => r_nilCheck (hF.ev rfl)) ?_
  refine tj_pure (by kernel_rfl) rfl (gw0 rfl) rfl rfl (fun a w_ hF => r_field fo42_6 (hF.ev rfl)) ?_
  refine tj_load [6, 11] (by kernel_rfl) rfl (gw0 rfl) rfl rfl (fun a w_ x_ hF hS => r_load1 sc3 (hF.ev rfl) (hS.elt1 (q := 3) (j := 9) hp rfl (fun _ => rfl))) ?_
  refine tj_pure (by kernel_rfl) rfl (gw0 rfl) rfl rfl (fun a w_ hF => r_move (hF.ev rfl)) ?_
  refine tj_pure (by kernel_rfl) rfl (gw0 rfl) rfl rfl (fun a w_ hF => r_nilCheck (hF.ev rfl)) ?_
  refine tj_pure (by kernel_rfl) rfl (gw0 rfl) rfl rfl (fun a w_ hF => r_field fo42_8 (hF.ev rfl)) ?_
  refine tj_load [11] (by kernel_rfl) rfl (gw0 rfl) rfl rfl (fun a w_ x_ hF hS => r_load1 sc3 (hF.ev rfl) (hS.elt1 (q := 3) (j := 11) hp rfl (fun _ => rfl))) ?_
  refine tj_mc (by kernel_rfl) rfl (gw0 rfl) rfl rfl (fun a w_ hF => r_call3 en166 (hF.ev rfl) (hF.ev rfl) ec) (fun w_ hS => calls_unit (l9Cell_c (s := s) hf.curr hf.lg (Sep.headp (A := [_, _, _, _]) (B := [_, _, _, _]) hS [0, 2, 1, 3] (by decide) rfl rfl))) (fun _ w_ h_ => ⟨_, (Sep.headp (A := [_, _, _, _]) (B := [_, _, _, _]) h_ [0, 2, 1, 3] (by decide) rfl rfl)⟩) ?_; intro _
  refine tj_fin (tl := [_]) (by kernel_rfl) rfl ?_; intro a w21 hF hS; try dsimp only at hS
  replace hS := Sep.headp (A := [_, _, _, _]) (B := [_, _, _, _]) hS [0, 2, 1, 3] (by decide) rfl rfl
  refine wl_call hF rfl rfl rfl (r_call4 en163 (hF.ev rfl) (hF.ev rfl) ec (hF.ev rfl)) (l9Swap_c (s := faultS s t.curr) hS) ?_; clear hF a; rintro v w22 a ⟨rfl, hS⟩ hF
  refine wl_nil ⟨rfl, ?_⟩
  refine hK21 _ _ ?_
  refine wp_region_lit ?_
  refine ra 3 hF tk rfl fun a hF => ?_
  refine wl_estore (q := 3) (j := 0) (⟨_, ⟨_, _, _⟩, ⟨_, _⟩, _, _, _, _, _, _, _, _, _, _, _, _, _⟩ : Sl.Thread) hF hS hp rfl sz3 (hF.ev rfl) rfl ec rfl (fun _ => rfl) (fun _ => by dsimp only [threadEK, Thread.encv, List.set] <;> rfl) (by intro _; rfl) fun w23 hS => ?_; dsimp only [List.set] at hS
  refine wl_nil ?_
  try simp only [Exit.then, Exit.inBlock, ↓reduceIte]
  refine ret0n rfl hF ⟨rfl, ?_⟩
  unfold headS
  rw [if_neg c26, if_neg c46, if_neg c63, if_neg c87, if_neg c111, if_pos c125]
  exact hS
 refine ws fun K22 hK22 => ?_
 refine ra 2 hF tk rfl fun a hF => ?_
 refine wl_nil (hK22 _ _ ?_)
 refine wc_fx (t := 142) hF rfl ?_ ?_ <;> clear hF <;> intro c142 hF <;> try simp only [zb] at c142
 ·
  refine wp_seq_k fun K23 hK23 => ?_
  refine wp_region_J (is := [0, 1, 2, 3, 4, 5, 7, 8, 9, 10, 6, 11]) (fun (f : Int) r => Box g (s.encf (sv z0) (sv z1) (.slice (some ⟨gt, ot, none⟩) mt ct) f) :: r) _ (s.faults) [11] (by kernel_rfl) hF hS (by kernel_rfl) ?_; clear hF hS a
  refine tj_pure (by kernel_rfl) rfl (gw0 rfl) rfl rfl (fun a w_ hF => r_move (hF.ev rfl)) ?_
  refine tj_pure (by kernel_rfl) rfl (gw0 rfl) rfl rfl (fun a w_ hF => r_move (hF.ev rfl)) ?_
  refine tj_pure (by kernel_rfl) rfl (gw0 rfl) rfl rfl (fun a w_ hF => r_move (hF.ev rfl)) ?_
  refine tj_pure (by kernel_rfl) rfl (gw0 rfl) rfl rfl (fun a w_ hF => r_nilCheck (hF.ev rfl)) ?_
  refine tj_pure (by kernel_rfl) rfl (gw0 rfl) rfl rfl (fun a w_ hF => r_field fo42_4 (hF.ev rfl)) ?_
  refine tj_load [6, 11] (by kernel_rfl) rfl (gw0 rfl) rfl rfl (fun a w_ x_ hF hS => r_load1 sc3 (hF.ev rfl) (hS.elt1 (q := 3) (j := 7) hp rfl (fun _ => rfl))) ?_
  refine tj_pure (by kernel_rfl) rfl (gw0 rfl) rfl rfl (fun a w_ hF => r_move (hF.ev rfl)) ?_
  refine tj_pure (by kernel_rfl) rfl (gw0 rfl) rfl rfl (fun a w_ hF => r_nilCheck (hF.ev rfl)) ?_
  refine tj_pure (by kernel_rfl) rfl (gw0 rfl) rfl rfl (fun a w_ hF => r_field fo42_6 (hF.ev rfl)) ?_
  refine tj_load [11] (by kernel_rfl) rfl (gw0 rfl) rfl rfl (fun a w_ x_ hF hS => r_load1 sc3 (hF.ev rfl) (hS.elt1 (q := 3) (j := 9) hp rfl (fun _ => rfl))) ?_
  refine tj_mc (by kernel_rfl) rfl (gw0 rfl) rfl rfl (fun a w_ hF => r_call3 en166 (hF.ev rfl) (hF.ev rfl) ec) (fun w_ hS => calls_unit (l9Cell_c (s := s) hf.node hf.lg (Sep.headp (A := [_, _, _, _]) (B := [_, _, _, _]) hS [0, 2, 1, 3] (by decide) rfl rfl))) (fun _ w_ h_ => ⟨_, (Sep.headp (A := [_, _, _, _]) (B := [_, _, _, _]) h_ [0, 2, 1, 3] (by decide) rfl rfl)⟩) ?_; intro _
  refine tj_fin (tl := [_]) (by kernel_rfl) rfl ?_; intro a w24 hF hS; try dsimp only at hS
  replace hS := Sep.headp (A := [_, _, _, _]) (B := [_, _, _, _]) hS [0, 2, 1, 3] (by decide) rfl rfl
  refine wl_call hF rfl rfl rfl (r_call3 en123 (hF.ev rfl) (hF.ev rfl) (hF.ev rfl)) (l9Put_c (s := faultS s t.node) hS) ?_; clear hF a; rintro v w25 a ⟨rfl, hS⟩ hF
  refine wl_nil ⟨rfl, ?_⟩
  refine hK23 _ _ ?_
  refine wp_region_lit ?_
  refine ra 3 hF tk rfl fun a hF => ?_
  refine wl_estore (q := 3) (j := 0) (⟨_, ⟨_, _, _⟩, ⟨_, _⟩, _, _, _, _, _, _, _, _, _, _, _, _, _⟩ : Sl.Thread) hF hS hp rfl sz3 (hF.ev rfl) rfl ec rfl (fun _ => rfl) (fun _ => by dsimp only [threadEK, Thread.encv, List.set] <;> rfl) (by intro _; rfl) fun w26 hS => ?_; dsimp only [List.set] at hS
  refine wl_nil ?_
  try simp only [Exit.then, Exit.inBlock, ↓reduceIte]
  refine ret0n rfl hF ⟨rfl, ?_⟩
  unfold headS
  rw [if_neg c26, if_neg c46, if_neg c63, if_neg c87, if_neg c111, if_neg c125, if_pos c142]
  exact hS
 refine ws fun K24 hK24 => ?_
 refine ra 2 hF tk rfl fun a hF => ?_
 refine wl_nil (hK24 _ _ ?_)
 refine wc_fx (t := 159) hF rfl ?_ ?_ <;> clear hF <;> intro c159 hF <;> try simp only [zb] at c159
 ·
  refine ws fun K25 hK25 => ?_
  refine ra 3 hF tk rfl fun a hF => ?_
  refine wl_estore (q := 3) (j := 0) (⟨_, ⟨_, _, _⟩, ⟨_, _⟩, _, _, _, _, _, _, _, _, _, _, _, _, _⟩ : Sl.Thread) hF hS hp rfl sz3 (hF.ev rfl) rfl ec rfl (fun _ => rfl) (fun _ => by dsimp only [threadEK, Thread.encv, List.set] <;> rfl) (by intro _; rfl) fun w27 hS => ?_; dsimp only [List.set] at hS
  refine wl_nil (hK25 _ _ ?_)
  refine wp_seq_k fun K26 hK26 => ?_
  refine wp_region_J (is := [0, 1, 2, 3, 4, 5, 6, 7, 8, 9, 10, 11]) (fun (_ : Unit) r => r) _ (()) [10, 11] (by kernel_rfl) hF hS (by kernel_rfl) ?_; clear hF hS a
  refine tj_pure (by kernel_rfl) rfl (gw0 rfl) rfl rfl (fun a w_ hF => r_move (hF.ev rfl)) ?_
  refine tj_pure (by kernel_rfl) rfl (gw0 rfl) rfl rfl (fun a w_ hF => r_move (hF.ev rfl)) ?_
  refine tj_pure (by kernel_rfl) rfl (gw0 rfl) rfl rfl (fun a w_ hF => r_move (hF.ev rfl)) ?_
  refine tj_pure (by kernel_rfl) rfl (gw0 rfl) rfl rfl (fun a w_ hF => r_nilCheck (hF.ev rfl)) ?_
  refine tj_pure (by kernel_rfl) rfl (gw0 rfl) rfl rfl (fun a w_ hF => r_field fo42_6 (hF.ev rfl)) ?_
  refine tj_load [10, 11] (by kernel_rfl) rfl (gw0 rfl) rfl rfl (fun a w_ x_ hF hS => r_load1 sc3 (hF.ev rfl) (hS.elt1 (q := 3) (j := 9) hp rfl (fun _ => rfl))) ?_
  refine tj_pure (by kernel_rfl) rfl (gw0 rfl) rfl rfl (fun a w_ hF => r_move (hF.ev rfl)) ?_
  refine tj_pure (by kernel_rfl) rfl (gw0 rfl) rfl rfl (fun a w_ hF => r_nilCheck (hF.ev rfl)) ?_
  refine tj_pure (by kernel_rfl) rfl (gw0 rfl) rfl rfl (fun a w_ hF => r_field fo42_4 (hF.ev rfl)) ?_
  refine tj_load [10, 11] (by kernel_rfl) rfl (gw0 rfl) rfl rfl (fun a w_ x_ hF hS => r_load1 sc3 (hF.ev rfl) (hS.elt1 (q := 3) (j := 7) hp rfl (fun _ => rfl))) ?_
  refine tj_fin (tl := [_, _]) (by kernel_rfl) rfl ?_; intro a w28 hF hS; try dsimp only at hS
  refine wl_call hF rfl rfl rfl (r_call4 en163 (hF.ev rfl) (hF.ev rfl) (hF.ev rfl) (hF.ev rfl)) (l9Swap_c (s := s) hS) ?_; clear hF a; rintro v w29 a ⟨rfl, hS⟩ hF
  refine ra 1 hF tk rfl fun a hF => ?_
  refine wl_nil ⟨rfl, ?_⟩
  refine hK26 _ _ ?_
  refine wc_fx (t := 175) hF rfl ?_ ?_ <;> clear hF <;> intro c175 hF <;> try simp only [zb] at c175
  ·
   replace c175 : ¬ hitB s.cells (headCell s.config t.op.key) t.curr = true := fun h => by rw [h] at c175; cases c175
   refine ws fun K27 hK27 => ?_
   refine rb 8 0 hF tk hS rfl rfl rfl fun a hF => ?_
   refine wl_store hF hS (i := 0) rfl sz3 (hF.ev rfl) (hF.ev rfl) rfl rfl fun w30 hS => ?_; dsimp only [List.set, Nat.reduceAdd] at hS
   refine wl_nil (hK27 _ _ ?_)
   refine wp_region_lit ?_
   refine ra 3 hF tk rfl fun a hF => ?_
   refine wl_estore (q := 3) (j := 0) (⟨_, ⟨_, _, _⟩, ⟨_, _⟩, _, _, _, _, _, _, _, _, _, _, _, _, _⟩ : Sl.Thread) hF hS hp rfl sz3 (hF.ev rfl) rfl ec rfl (fun _ => rfl) (fun _ => by dsimp only [threadEK, Thread.encv, List.set] <;> rfl) (by intro _; rfl) fun w31 hS => ?_; dsimp only [List.set] at hS
   refine wl_nil ?_
   try simp only [Exit.then, Exit.inBlock, ↓reduceIte]
   refine ret0n rfl hF ⟨rfl, ?_⟩
   unfold headS
   rw [if_neg c26, if_neg c46, if_neg c63, if_neg c87, if_neg c111, if_neg c125, if_neg c142, if_pos c159, if_neg c175]
   exact hS
  refine wp_skip ?_
  try simp only [Exit.then, Exit.inBlock, ↓reduceIte]
  refine ret0n rfl hF ⟨rfl, ?_⟩
  unfold headS
  rw [if_neg c26, if_neg c46, if_neg c63, if_neg c87, if_neg c111, if_neg c125, if_neg c142, if_pos c159, if_pos c175]
  exact hS
 refine wp_skip ?_
 try simp only [Exit.then, Exit.inBlock, ↓reduceIte]
 refine ret0n rfl hF ⟨rfl, ?_⟩
 unfold headS
 rw [if_neg c26, if_neg c46, if_neg c63, if_neg c87, if_neg c111, if_neg c125, if_neg c142, if_neg c159]
 exact hS
set_option maxHeartbeats 4000000 in
set_option maxRecDepth 20000 in
theorem l14Own_c {W w : World} {l : List Res} {g gt ot mt ct p : Nat} {z0 z1 : Slv} {s : Sl.State} {t : Sl.Thread} (hp : p < s.threads.length) (hf : Fit s t) (hS : Sep W (Box g ((s).encv (sv z0) (sv z1) (.slice (some ⟨gt, ot, none⟩) mt ct)) :: Own intEK (sv z0) (s).cells :: Own intEK (sv z1) (s).generations :: Own threadEK (.slice (some ⟨gt, ot, none⟩) mt ct) (s.threads.set p t) :: l) w) : Calls Tryz.prog 120 #[.pointer (some ⟨g, 0, none⟩), vi (p : Int)] w (Ret fun v w' => v = .tuple #[] ∧ Sep W (Box g (((ownS s t (p : Int)).1).encv (sv z0) (sv z1) (.slice (some ⟨gt, ot, none⟩) mt ct)) :: Own intEK (sv z0) ((ownS s t (p : Int)).1).cells :: Own intEK (sv z1) ((ownS s t (p : Int)).1).generations :: Own threadEK (.slice (some ⟨gt, ot, none⟩) mt ct) (s.threads.set p (ownS s t (p : Int)).2) :: l) w') := by
 refine calls_fr Tryz.func120 rfl Tryz.ntmps120 rfl ?_
 intro a hF
 have hl0 := hS.own_len (q := 1) rfl
 have hl1 := hS.own_len (q := 2) rfl
 have hmt : mt = s.threads.length := by have := hS.own_len (q := 3) (s := (some ⟨gt, ot, none⟩, mt, ct)) rfl; simpa using this
 have hlc := hf.two
 have hz1 := hf.sizes; unfold sizesOk at hz1
 refine ws fun K1 hK1 => ?_
 refine rb 5 0 hF tk hS rfl rfl rfl fun a hF => ?_
 refine wl hF rfl rfl rfl (r_index sl27 (hF.ev rfl) (hF.ev rfl) (by omega) (by first | omega | (dsimp only; omega))) fun a hF => ?_
 refine ra 1 hF tk rfl fun a hF => ?_
 refine wl_nil (hK1 _ _ ?_)
 refine ws fun K2 hK2 => ?_
 refine ra 3 hF tk rfl fun a hF => ?_
 refine wl hF rfl rfl rfl (r_load1 sc3 (hF.ev rfl) (hS.elt1 (q := 3) (j := 0) hp rfl (fun _ => rfl))) fun a hF => ?_
 refine wl_nil (hK2 _ _ ?_)
 refine wp_block ?_
 refine ws fun K3 hK3 => ?_
 refine ra 2 hF tk rfl fun a hF => ?_
 refine wl_nil (hK3 _ _ ?_)
 refine wc_fx (t := 17) hF rfl ?_ ?_ <;> clear hF <;> intro c17 hF <;> try simp only [zb] at c17
 ·
  refine ws fun K4 hK4 => ?_
  refine rb 5 0 hF tk hS rfl rfl rfl fun a hF => ?_
  obtain ⟨g24, o24, m24, q24, hv24, hm24, hl24, hc24⟩ := Rd.atF ((hS.own_rd (i := 1) rfl)) (a := a) (X := .const (.int .i64 0)) ec (by omega) (by omega)
  refine wl hF rfl rfl rfl (r_index sl26 ((hF.ev rfl).trans hv24) ec (by omega) (by first | omega | (simp at hm24; omega))) fun a hF => ?_
  refine wl hF rfl rfl rfl (r_load1 sc3 (hF.ev rfl) (hc24 0 _ rfl)) fun a hF => ?_
  refine ra 2 hF tk rfl fun a hF => ?_
  refine wl_estore (q := 3) (j := 11) (⟨_, ⟨_, _, _⟩, ⟨_, _⟩, _, _, _, _, _, _, _, _, _, _, _, _, _⟩ : Sl.Thread) hF hS hp rfl sz3 (hF.ev rfl) rfl (hF.ev rfl) rfl (fun _ => rfl) (fun _ => by dsimp only [threadEK, Thread.encv, List.set] <;> rfl) (by intro _; rfl) fun w1 hS => ?_; dsimp only [List.set] at hS
  refine wl_nil (hK4 _ _ ?_)
  refine wp_region_lit ?_
  refine ra 3 hF tk rfl fun a hF => ?_
  refine wl_estore (q := 3) (j := 0) (⟨_, ⟨_, _, _⟩, ⟨_, _⟩, _, _, _, _, _, _, _, _, _, _, _, _, _⟩ : Sl.Thread) hF hS hp rfl sz3 (hF.ev rfl) rfl ec rfl (fun _ => rfl) (fun _ => by dsimp only [threadEK, Thread.encv, List.set] <;> rfl) (by intro _; rfl) fun w2 hS => ?_; dsimp only [List.set] at hS
  refine wl_nil ?_
  try simp only [Exit.then, Exit.inBlock, ↓reduceIte]
  refine ret0n rfl hF ⟨rfl, ?_⟩
  unfold ownS
  rw [if_pos c17]
  exact hS
 refine ws fun K5 hK5 => ?_
 refine ra 2 hF tk rfl fun a hF => ?_
 refine wl_nil (hK5 _ _ ?_)
 refine wc_fx (t := 31) hF rfl ?_ ?_ <;> clear hF <;> intro c31 hF <;> try simp only [zb] at c31
 ·
  refine wp_seq_k fun K6 hK6 => ?_
  refine wp_region_J (is := [0, 1, 2, 3, 4, 5, 7, 8, 9, 10, 6, 11]) (fun (f : Int) r => Box g (s.encf (sv z0) (sv z1) (.slice (some ⟨gt, ot, none⟩) mt ct) f) :: r) _ (s.faults) [11] (by kernel_rfl) hF hS (by kernel_rfl) ?_; clear hF hS a
  refine tj_pure (by kernel_rfl) rfl (gw0 rfl) rfl rfl (fun a w_ hF => r_move (hF.ev rfl)) ?_
  refine tj_pure (by kernel_rfl) rfl (gw0 rfl) rfl rfl (fun a w_ hF => r_move (hF.ev rfl)) ?_
  refine tj_pure (by kernel_rfl) rfl (gw0 rfl) rfl rfl (fun a w_ hF => r_move (hF.ev rfl)) ?_
  refine tj_pure (by kernel_rfl) rfl (gw0 rfl) rfl rfl (fun a w_ hF => r_nilCheck (hF.ev rfl)) ?_
  refine tj_pure (by kernel_rfl) rfl (gw0 rfl) rfl rfl (fun a w_ hF => r_field fo42_4 (hF.ev rfl)) ?_
  refine tj_load [6, 11] (by kernel_rfl) rfl (gw0 rfl) rfl rfl (fun a w_ x_ hF hS => r_load1 sc3 (hF.ev rfl) (hS.elt1 (q := 3) (j := 7) hp rfl (fun _ => rfl))) ?_
  refine tj_pure (by kernel_rfl) rfl (gw0 rfl) rfl rfl (fun a w_ hF => r_move (hF.ev rfl)) ?_
  refine tj_pure (by kernel_rfl) rfl (gw0 rfl) rfl rfl (fun a w_ hF => r_nilCheck (hF.ev rfl)) ?_
  refine tj_pure (by kernel_rfl) rfl (gw0 rfl) rfl rfl (fun a w_ hF => r_field fo42_8 (hF.ev rfl)) ?_
  refine tj_load [11] (by kernel_rfl) rfl (gw0 rfl) rfl rfl (fun a w_ x_ hF hS => r_load1 sc3 (hF.ev rfl) (hS.elt1 (q := 3) (j := 11) hp rfl (fun _ => rfl))) ?_
  refine tj_mc (by kernel_rfl) rfl (gw0 rfl) rfl rfl (fun a w_ hF => r_call3 en166 (hF.ev rfl) (hF.ev rfl) ec) (fun w_ hS => calls_unit (l9Cell_c (s := s) hf.node hf.lg (Sep.headp (A := [_, _, _, _]) (B := [_, _, _, _]) hS [0, 2, 1, 3] (by decide) rfl rfl))) (fun _ w_ h_ => ⟨_, (Sep.headp (A := [_, _, _, _]) (B := [_, _, _, _]) h_ [0, 2, 1, 3] (by decide) rfl rfl)⟩) ?_; intro _
  refine tj_fin (tl := [_]) (by kernel_rfl) rfl ?_; intro a w3 hF hS; try dsimp only at hS
  replace hS := Sep.headp (A := [_, _, _, _]) (B := [_, _, _, _]) hS [0, 2, 1, 3] (by decide) rfl rfl
  refine wl_call hF rfl rfl rfl (r_call4 en163 (hF.ev rfl) (hF.ev rfl) ec (hF.ev rfl)) (l9Swap_c (s := faultS s t.node) hS) ?_; clear hF a; rintro v w4 a ⟨rfl, hS⟩ hF
  refine wl_nil ⟨rfl, ?_⟩
  refine hK6 _ _ ?_
  refine wp_region_lit ?_
  refine ra 3 hF tk rfl fun a hF => ?_
  refine wl_estore (q := 3) (j := 0) (⟨_, ⟨_, _, _⟩, ⟨_, _⟩, _, _, _, _, _, _, _, _, _, _, _, _, _⟩ : Sl.Thread) hF hS hp rfl sz3 (hF.ev rfl) rfl ec rfl (fun _ => rfl) (fun _ => by dsimp only [threadEK, Thread.encv, List.set] <;> rfl) (by intro _; rfl) fun w5 hS => ?_; dsimp only [List.set] at hS
  refine wl_nil ?_
  try simp only [Exit.then, Exit.inBlock, ↓reduceIte]
  refine ret0n rfl hF ⟨rfl, ?_⟩
  unfold ownS
  rw [if_neg c17, if_pos c31]
  exact hS
 refine ws fun K7 hK7 => ?_
 refine ra 2 hF tk rfl fun a hF => ?_
 refine wl_nil (hK7 _ _ ?_)
 refine wc_fx (t := 48) hF rfl ?_ ?_ <;> clear hF <;> intro c48 hF <;> try simp only [zb] at c48
 ·
  refine ws fun K8 hK8 => ?_
  refine ra 5 hF tk rfl fun a hF => ?_
  refine wl hF rfl rfl rfl (r_load1 sc3 (hF.ev rfl) (hS.elt1 (q := 3) (j := 7) hp rfl (fun _ => rfl))) fun a hF => ?_
  replace hS := Sep.headp (A := [_, _, _, _]) (B := [_, _, _, _]) hS [0, 2, 1, 3] (by decide) rfl rfl
  refine wl_call hF rfl rfl rfl (r_call3 en166 (hF.ev rfl) (hF.ev rfl) ec) (l9Cell_c (s := s) hf.node hf.lg hS) ?_; clear hF a; rintro v w6 a ⟨rfl, hS⟩ hF
  refine wl_call hF rfl rfl rfl (r_call2 en108 (hF.ev rfl) (hF.ev rfl)) (l9LoadR_c (fun j u hu => hS.box7 (i := 0) rfl j u hu) (hS.own_rd (i := 2) rfl)) ?_; clear hF a; rintro v w7 a ⟨rfl, hB_⟩ hF; have hS := hS.ext hB_
  refine ra 1 hF tk rfl fun a hF => ?_
  refine wl_nil (hK8 _ _ ?_)
  refine wp_seq_k fun K9 hK9 => ?_
  refine wp_region_todo (is := [0, 1, 2, 3, 4, 5, 6, 7, 8, 9, 10, 11, 12, 13, 14, 16]) [(15, 6, [.int .i64 0, .int .i64 0, .int .i64 0, .int .i64 0])] [16] (by kernel_rfl) hF hS ⟨⟨⟨_, _, _, rfl, zr83⟩, trivial⟩, by decide, by decide, by decide⟩ (by kernel_rfl) ?_; clear hF; intro hl_ wd hSd
  refine todo_pure hl_ (by kernel_rfl) rfl (gw0 rfl) rfl rfl rfl (fun a w_ hF => r_move (hF.ev rfl)) ?_
  refine todo_pure hl_ (by kernel_rfl) rfl (gw0 rfl) rfl rfl rfl (fun a w_ hF => r_nilCheck (hF.ev rfl)) ?_
  refine todo_pure hl_ (by kernel_rfl) rfl (gw0 rfl) rfl rfl rfl (fun a w_ hF => r_field fo42_6 (hF.ev rfl)) ?_
  refine todo_load [14, 16] hl_ (by kernel_rfl) rfl (gw0 rfl) rfl rfl rfl (fun a w_ hF hB_ => r_load1 sc3 (hF.ev rfl) ((hSd.ext hB_).elt1 (q := 3) (j := 9) hp rfl (fun _ => rfl))) ?_
  refine todo_pure hl_ (by kernel_rfl) rfl (gw0 rfl) rfl rfl rfl (fun a w_ hF => r_move (hF.ev rfl)) ?_
  refine todo_pure hl_ (by kernel_rfl) rfl (gw0 rfl) rfl rfl rfl (fun a w_ hF => r_nilCheck (hF.ev rfl)) ?_
  refine todo_pure hl_ (by kernel_rfl) rfl (gw0 rfl) rfl rfl rfl (fun a w_ hF => r_field fo42_1 (hF.ev rfl)) ?_
  refine todo_pure hl_ (by kernel_rfl) rfl (gw0 rfl) rfl rfl rfl (fun a w_ hF => r_field fo31_1 (hF.ev rfl)) ?_
  refine todo_load [14, 16] hl_ (by kernel_rfl) rfl (gw0 rfl) rfl rfl rfl (fun a w_ hF hB_ => r_load1 sc3 (hF.ev rfl) ((hSd.ext hB_).elt1 (q := 3) (j := 2) hp rfl (fun _ => rfl))) ?_
  refine todo_pure hl_ (by kernel_rfl) rfl (gw0 rfl) rfl rfl rfl (fun a w_ hF => r_move (hF.ev rfl)) ?_
  refine todo_pure hl_ (by kernel_rfl) rfl (gw0 rfl) rfl rfl rfl (fun a w_ hF => r_nilCheck (hF.ev rfl)) ?_
  refine todo_pure hl_ (by kernel_rfl) rfl (gw0 rfl) rfl rfl rfl (fun a w_ hF => r_field fo42_9 (hF.ev rfl)) ?_
  refine todo_load [14, 16] hl_ (by kernel_rfl) rfl (gw0 rfl) rfl rfl rfl (fun a w_ hF hB_ => r_load1 sc3 (hF.ev rfl) ((hSd.ext hB_).elt1 (q := 3) (j := 12) hp rfl (fun _ => rfl))) ?_
  refine todo_pure hl_ (by kernel_rfl) rfl (gw0 rfl) rfl rfl rfl (fun a w_ hF => r_move (hF.ev rfl)) ?_
  refine todo_pure hl_ (by kernel_rfl) rfl (gw0 rfl) rfl rfl rfl (fun a w_ hF => r_build (bd83_0_1_2_3 _ _ _ _) ⟨rfl, (hF.ev rfl), rfl, (hF.ev rfl), rfl, (hF.ev rfl), rfl, (hF.ev rfl), trivial⟩) ?_
  refine todo_fin hl_ rfl (by kernel_rfl) (tl := [_]) rfl ?_; clear hS a; intro a w8 hF hA_
  obtain ⟨g1, hS, he_0⟩ := hA_.open1; clear hA_
  replace hF := hF.more he_0; clear he_0
  clear hl_; try clear hSd
  try dsimp only [List.cons_append, List.nil_append, List.set] at hS
  try clear wd
  refine wl_storew hF hS (i := 0) rfl (hF.ev rfl) (hF.ev rfl) sz83 rfl rfl fun w9 hS => ?_; dsimp only [List.set, Nat.reduceAdd] at hS
  refine wl_nil ⟨rfl, ?_⟩
  refine hK9 _ _ ?_
  refine wp_seq_k fun K10 hK10 => ?_
  refine ws fun K11 hK11 => ?_
  refine ra 3 hF tk rfl fun a hF => ?_
  refine wl hF rfl rfl rfl (r_load1 sc3 (hF.ev rfl) (hS.elt1 (q := 4) (j := 9) hp rfl (fun _ => rfl))) fun a hF => ?_
  refine ra 2 hF tk rfl fun a hF => ?_
  apply wl_and (A := [_, _, _]) (pk := 81) hF hS (tc := 78) rfl
  ·
   intro hg78 a hF; try simp only [zb] at hg78
   refine rb 1 0 hF tk hS rfl rfl rfl fun a hF => ?_
   refine wl_take hF rfl rfl rfl rfl ?_
   refine wl_call hF rfl rfl rfl (r_call1 en153 (hF.ev rfl)) (specIsEntry_c (e := newE s t) hf.entry) ?_; clear hF a; rintro v w10 a ⟨rfl, hB_⟩ hF; have hS := hS.ext hB_
   refine ra 1 hF tk rfl fun a hF => ?_
   exact wl_nil ⟨rfl, (Fr.pre (A := [_, _, _]) hF rfl).keep hF (t := 81) rfl, hS⟩
  ·
   intro hg78 a hF; try simp only [zb] at hg78
   refine ra 3 hF tk rfl fun a hF => ?_
   exact wl_nil ⟨rfl, (Fr.pre (A := [_, _, _]) hF rfl).keep hF (t := 81) rfl, hS⟩
  clear hF a hS; intro a w11 hF hS
  refine ra 1 hF tk rfl fun a hF => ?_
  apply wl_and (A := [_, _, _, _, _, _, _]) (pk := 89) hF hS (tc := 82) rfl
  ·
   intro hg82 a hF; try simp only [zb] at hg82
   refine ra 3 hF tk rfl fun a hF => ?_
   refine wl_take hF rfl rfl rfl rfl ?_
   obtain ⟨ce86, ke86, ze86, he86⟩ := hS.eltK (q := 4) hp rfl; have kk86 := ke86; obtain ⟨u86_0, u86_1, u86_2, u86_3, u86_4, rfl, f86_0, f86_1, f86_2, f86_3, f86_4⟩ := ke86
   obtain ⟨Ae86, qe86, rfl, _, hme86⟩ := f86_2.sl; unfold maxLen at hme86
   refine wl hF rfl rfl rfl (r_load1 sc40 (hF.ev rfl) (he86 16 _ rfl)) fun a hF => ?_
   refine ra 3 hF tk rfl fun a hF => ?_
   exact wl_nil ⟨rfl, (Fr.pre (A := [_, _, _, _, _, _, _]) hF rfl).keep hF (t := 89) rfl, hS⟩
  ·
   intro hg82 a hF; try simp only [zb] at hg82
   refine ra 7 hF tk rfl fun a hF => ?_
   exact wl_nil ⟨rfl, (Fr.pre (A := [_, _, _, _, _, _, _]) hF rfl).keep hF (t := 89) rfl, hS⟩
  clear hF a hS; intro a w12 hF hS
  refine wl_nil (hK11 _ _ ?_)
  refine wc_fx (t := 89) hF rfl ?_ ?_ <;> clear hF <;> intro c89 hF <;> try simp only [zb] at c89
  ·
   obtain ⟨A0_, A1_, A2_, A3_, A4_, k0_, k1_, k2_, k3_, k4_, ⟨n0_, n1_, n2_, n3_, n4_⟩, ⟨q0_, q1_, q2_, q3_, q4_⟩, hS_⟩ := Sep.thr_lend (t := t) (Sep.headp (A := [_, _, _, _, _]) (B := [_, _, _, _, _]) hS [4, 0, 1, 2, 3] (by decide) rfl rfl) hp; replace hS := hS_; clear hS_; unfold maxLen at n0_ n1_ n2_ n3_ n4_; try dsimp only at n0_ n1_ n2_ n3_ n4_ q0_ q1_ q2_ q3_ q4_
   dsimp only [Thread.encv] at hS
   refine wp_region_todo (is := [0, 1, 2, 3, 4, 5, 6, 7, 8, 9, 10]) [] [7, 8, 9, 10] (by kernel_rfl) hF hS ⟨trivial, by decide, by decide, by decide⟩ (by kernel_rfl) ?_; clear hF; intro hl_ wd hSd
   refine todo_pure hl_ (by kernel_rfl) rfl (gw0 rfl) rfl rfl rfl (fun a w_ hF => r_move (hF.ev rfl)) ?_
   refine todo_pure hl_ (by kernel_rfl) rfl (gw0 rfl) rfl rfl rfl (fun a w_ hF => r_move (hF.ev rfl)) ?_
   refine todo_pure hl_ (by kernel_rfl) rfl (gw0 rfl) rfl rfl rfl (fun a w_ hF => r_nilCheck (hF.ev rfl)) ?_
   refine todo_pure hl_ (by kernel_rfl) rfl (gw0 rfl) rfl rfl rfl (fun a w_ hF => r_field fo42_13 (hF.ev rfl)) ?_
   refine todo_load [7, 8, 9, 10] hl_ (by kernel_rfl) rfl (gw0 rfl) rfl rfl rfl (fun a w_ hF hB_ => r_load1 sc40 (hF.ev rfl) ((hSd.ext hB_).but1 (q := 5) (j := 16) rfl rfl)) ?_
   refine todo_load [6, 7, 8, 9, 10] hl_ (by kernel_rfl) rfl (gw0 rfl) rfl rfl rfl (fun a w_ hF hB_ => r_loadn ag83 (hF.ev rfl) ((hSd.ext hB_).box_rd (i := 6) rfl) sz83) ?_
   refine todo_op hl_ rfl (by kernel_rfl) rfl rfl rfl rfl rfl (fun a w_ hF hS => r_bslice entryEK [.agg (newE s t).enc.toArray] [newE s t] rfl mk40 rfl ⟨rfl, (hF.ev rfl), trivial⟩ rfl rfl rfl rfl) ?_; intro gl_96
   refine todo_fin hl_ rfl (by kernel_rfl) (tl := [_, _, _, _]) rfl ?_; clear hS a; intro a w14 hF hA_
   have hS := hA_.sep; clear hA_
   clear hl_; try clear hSd
   try dsimp only [List.cons_append, List.nil_append, List.set] at hS
   try clear wd
   refine wl_append (q := 3) hF hS rfl rfl (hS.own_rd (i := 0) rfl) mk40 rfl (hF.ev rfl) (hF.ev rfl) (by simp; omega) (by unfold maxLen; simp; omega) ?_; clear hF a; intro A_97 c_97 w15 a hS_ hF; replace hS := hS_; clear hS_; dsimp only [List.set, List.length_cons, List.length_nil] at hS hF
   refine ra 2 hF tk rfl fun a hF => ?_
   refine wl_bstore (q := 6) (j := 16) hF hS rfl sz40 (hF.ev rfl) rfl (hF.ev rfl) rfl rfl fun w16 hS => ?_; dsimp only [List.set] at hS
   refine wl_nil ⟨rfl, ?_⟩
   refine hK10 _ _ ?_
   refine wp_region_lit ?_
   refine ra 3 hF tk rfl fun a hF => ?_
   refine wl_bstore (q := 6) (j := 0) hF hS rfl sz3 (hF.ev rfl) rfl ec rfl rfl fun w17 hS => ?_; dsimp only [List.set] at hS
   refine wl_nil ?_
   try simp only [Exit.then, Exit.inBlock, ↓reduceIte]
   replace hS := Sep.thr_back (t' := { t with buffer := t.buffer ++ [newE s t], pc := 46 }) (y0 := (_, _, _)) (y1 := (_, _, _)) (y2 := (_, _, _)) (y3 := (_, _, _)) (y4 := (_, _, _)) (Sep.headp (A := [_, _, _, _, _, _, _, _, _, _, _]) (B := [_, _, _, _, _, _, _, _, _, _, _]) hS [1, 2, 3, 4, 5, 6, 0, 7, 8, 9, 10] (by decide) rfl rfl) rfl
   have e45 : (if (¬ t.curr = 0 ∧ isEntry (newE s t) = true) ∧ (t.buffer.length : Int) < 100 then { t with buffer := t.buffer ++ [newE s t], pc := 46 } else { t with pc := 46 } : Sl.Thread) = { t with buffer := t.buffer ++ [newE s t], pc := 46 } := if_pos c89
   refine ret0n rfl hF ⟨rfl, ?_⟩
   unfold ownS
   rw [if_neg c17, if_neg c31, if_pos c48, e45]
   exact (Sep.headp (A := [_, _, _, _, _, _]) (B := [_, _, _, _]) hS [3, 5, 4, 0] (by decide) rfl rfl)
  have hng : ¬ ((¬ t.curr = 0 ∧ isEntry (newE s t) = true) ∧ (t.buffer.length : Int) < 100) := fun h => by
    rcases c89 with (c | c) | c
    · exact h.1.1 c
    · rw [h.1.2] at c; cases c
    · omega
  refine wp_skip ?_
  refine hK10 _ _ ?_
  refine wp_region_lit ?_
  refine ra 3 hF tk rfl fun a hF => ?_
  refine wl_estore (q := 4) (j := 0) (⟨_, ⟨_, _, _⟩, ⟨_, _⟩, _, _, _, _, _, _, _, _, _, _, _, _, _⟩ : Sl.Thread) hF hS hp rfl sz3 (hF.ev rfl) rfl ec rfl (fun _ => rfl) (fun _ => by dsimp only [threadEK, Thread.encv, List.set] <;> rfl) (by intro _; rfl) fun w18 hS => ?_; dsimp only [List.set] at hS
  refine wl_nil ?_
  try simp only [Exit.then, Exit.inBlock, ↓reduceIte]
  have e45 : (if (¬ t.curr = 0 ∧ isEntry (newE s t) = true) ∧ (t.buffer.length : Int) < 100 then { t with buffer := t.buffer ++ [newE s t], pc := 46 } else { t with pc := 46 } : Sl.Thread) = { t with pc := 46 } := if_neg hng
  refine ret0n rfl hF ⟨rfl, ?_⟩
  unfold ownS
  rw [if_neg c17, if_neg c31, if_pos c48, e45]
  exact (Sep.headp (A := [_, _, _, _, _]) (B := [_, _, _, _]) hS [1, 3, 2, 4] (by decide) rfl rfl)
 refine ws fun K12 hK12 => ?_
 refine ra 2 hF tk rfl fun a hF => ?_
 refine wl_nil (hK12 _ _ ?_)
 refine wc_fx (t := 103) hF rfl ?_ ?_ <;> clear hF <;> intro c103 hF <;> try simp only [zb] at c103
 ·
  refine ws fun K13 hK13 => ?_
  refine ra 4 hF tk rfl fun a hF => ?_
  refine wl hF rfl rfl rfl (r_loadn ag25 (hF.ev rfl) (hS.boxn (vs := [_, _, _, _, _, _]) (i := 0) (m := 6) rfl rfl) sz25) fun a hF => ?_
  refine ra 1 hF tk rfl fun a hF => ?_
  refine wl_call hF rfl rfl rfl (r_call3 en109 (hF.ev rfl) (hF.ev rfl) ec) (specHazardCell_c _ _ _) ?_; clear hF a; rintro v w19 a ⟨rfl, hB_⟩ hF; have hS := hS.ext hB_
  refine wl_call hF rfl rfl rfl (r_call3 en123 (hF.ev rfl) (hF.ev rfl) ec) (l9Put_c (s := s) hS) ?_; clear hF a; rintro v w20 a ⟨rfl, hS⟩ hF
  refine wl_nil (hK13 _ _ ?_)
  refine wp_region_lit ?_
  refine ra 3 hF tk rfl fun a hF => ?_
  refine wl_estore (q := 3) (j := 0) (⟨_, ⟨_, _, _⟩, ⟨_, _⟩, _, _, _, _, _, _, _, _, _, _, _, _, _⟩ : Sl.Thread) hF hS hp rfl sz3 (hF.ev rfl) rfl ec rfl (fun _ => rfl) (fun _ => by dsimp only [threadEK, Thread.encv, List.set] <;> rfl) (by intro _; rfl) fun w21 hS => ?_; dsimp only [List.set] at hS
  refine wl_nil ?_
  try simp only [Exit.then, Exit.inBlock, ↓reduceIte]
  refine ret0n rfl hF ⟨rfl, ?_⟩
  unfold ownS
  rw [if_neg c17, if_neg c31, if_neg c48, if_pos c103]
  exact hS
 refine ws fun K14 hK14 => ?_
 refine ra 2 hF tk rfl fun a hF => ?_
 refine wl_nil (hK14 _ _ ?_)
 refine wc_fx (t := 116) hF rfl ?_ ?_ <;> clear hF <;> intro c116 hF <;> try simp only [zb] at c116
 ·
  refine ws fun K15 hK15 => ?_
  refine ra 4 hF tk rfl fun a hF => ?_
  refine wl hF rfl rfl rfl (r_loadn ag25 (hF.ev rfl) (hS.boxn (vs := [_, _, _, _, _, _]) (i := 0) (m := 6) rfl rfl) sz25) fun a hF => ?_
  refine ra 1 hF tk rfl fun a hF => ?_
  refine wl_call hF rfl rfl rfl (r_call3 en109 (hF.ev rfl) (hF.ev rfl) ec) (specHazardCell_c _ _ _) ?_; clear hF a; rintro v w22 a ⟨rfl, hB_⟩ hF; have hS := hS.ext hB_
  refine wl_call hF rfl rfl rfl (r_call3 en123 (hF.ev rfl) (hF.ev rfl) ec) (l9Put_c (s := s) hS) ?_; clear hF a; rintro v w23 a ⟨rfl, hS⟩ hF
  refine wl_nil (hK15 _ _ ?_)
  refine wp_seq_k fun K16 hK16 => ?_
  refine wp_seq_k fun K17 hK17 => ?_
  refine wp_region_calm (by kernel_rfl) (by kernel_rfl) ?_
  refine qa 3 hF tk rfl fun a hF => ?_
  refine wq hF rfl rfl rfl (fun w_ hB_ => r_loadn ag25 (hF.ev rfl) ((hS.ext hB_).boxn (vs := [_, _, _, _, _, _]) (i := 0) (m := 6) rfl rfl) sz25) fun a hF => ?_
  refine qa 2 hF tk rfl fun a hF => ?_
  obtain ⟨ce132, ke132, ze132, he132⟩ := hS.eltK (q := 3) hp rfl; have kk132 := ke132; obtain ⟨u132_0, u132_1, u132_2, u132_3, u132_4, rfl, f132_0, f132_1, f132_2, f132_3, f132_4⟩ := ke132
  refine wq hF rfl rfl rfl (fun w_ hB_ => r_loadn ag42 (hF.ev rfl) (fun j_ u_ hu_ => cellB hB_ (he132 j_ u_ hu_)) sz42) fun a hF => ?_
  refine wq_call hF rfl rfl rfl (fun w_ hB_ => r_call2 en168 (hF.ev rfl) (hF.ev rfl)) (fun w_ hB_ => specMustFlush_c (c := s.config) (threadEK.ext hB_ kk132)) fun a hF => ?_
  refine qa 1 hF tk rfl fun a hF => ?_
  refine wpQuiet_nil ?_; intro w24 hB_; have hS := hS.ext hB_
  refine hK17 _ _ ?_
  refine wc_fx (t := 134) hF rfl ?_ ?_ <;> clear hF <;> intro c134 hF <;> try simp only [zb] at c134
  ·
   replace c134 : ¬ mustFlush s.config t = true := by rw [c134]; decide
   refine ws fun K18 hK18 => ?_
   refine ra 2 hF tk rfl fun a hF => ?_
   replace hS := Sep.headp (A := [_, _, _, _]) (B := [_, _, _, _]) hS [0, 3, 1, 2] (by decide) rfl rfl
   refine wl_call hF rfl rfl rfl (r_call4 en49 (hF.ev rfl) (hF.ev rfl) ec ec) (l10Finish_c (s := putS s (hazardCell s.config (p : Int) 1) 0) hp hS) ?_; clear hF a; rintro v w25 a ⟨rfl, hS⟩ hF
   refine wl_nil (hK18 _ _ ?_)
   refine wp_ret ?_
   try simp only [Exit.then, Exit.inBlock, ↓reduceIte]
   refine ret0 rfl hF ⟨rfl, ?_⟩
   unfold ownS
   rw [if_neg c17, if_neg c31, if_neg c48, if_neg c103, if_pos c116, if_neg c134]
   exact (Sep.headp (A := [_, _, _, _]) (B := [_, _, _, _]) hS [0, 2, 3, 1] (by decide) rfl rfl)
  refine wp_skip ?_
  refine hK16 _ _ ?_
  refine ws fun K19 hK19 => ?_
  refine ra 1 hF tk rfl fun a hF => ?_
  replace hS := Sep.headp (A := [_, _, _, _]) (B := [_, _, _, _]) hS [3, 0, 1, 2] (by decide) rfl rfl
  refine wl_call hF rfl rfl rfl (r_call1 en98 (hF.ev rfl)) (l10Clear_c hp hS) ?_; clear hF a; rintro v w26 a ⟨rfl, hS⟩ hF
  refine wl_nil (hK19 _ _ ?_)
  refine wp_region_lit ?_
  refine ra 3 hF tk rfl fun a hF => ?_
  refine wl_estore (q := 0) (j := 0) (⟨_, ⟨_, _, _⟩, ⟨_, _⟩, _, _, _, _, _, _, _, _, _, _, _, _, _⟩ : Sl.Thread) hF hS hp rfl sz3 (hF.ev rfl) rfl ec rfl (fun _ => rfl) (fun _ => by dsimp only [threadEK, Thread.encv, List.set] <;> rfl) (by intro _; rfl) fun w27 hS => ?_; dsimp only [List.set] at hS
  refine wl_nil ?_
  try simp only [Exit.then, Exit.inBlock, ↓reduceIte]
  refine ret0n rfl hF ⟨rfl, ?_⟩
  unfold ownS
  rw [if_neg c17, if_neg c31, if_neg c48, if_neg c103, if_pos c116, if_pos c134]
  exact (Sep.headp (A := [_, _, _, _]) (B := [_, _, _, _]) hS [1, 2, 3, 0] (by decide) rfl rfl)
 refine wp_skip ?_
 try simp only [Exit.then, Exit.inBlock, ↓reduceIte]
 refine ret0n rfl hF ⟨rfl, ?_⟩
 unfold ownS
 rw [if_neg c17, if_neg c31, if_neg c48, if_neg c103, if_neg c116]
 exact hS
end Go.Proofs.YtgofolgogfmhgaaGreat.Wk
namespace Go.Proofs.YtgofolgogfmhgaaGreat.Wk
open Go Go.RowKit Sl
set_option linter.unusedVariables false
set_option linter.unusedSimpArgs false
set_option maxRecDepth 20000
def foundN (t : Sl.Thread) (n : Int) : List Int := if n = 0 then t.found else t.found ++ [n]
def freeStep (z : List Int × List Int) (h : Int) : List Int × List Int := if at0 z.1 (indexOf h) < 9998 ∧ (z.2.length : Int) < 100 then (z.1.set (indexOf h).toNat (IntKind.i64.wrap (at0 z.1 (indexOf h) + 1)), z.2 ++ [indexOf h]) else z
def freeAll (gs fr hs : List Int) : List Int × List Int := hs.foldl freeStep (gs, fr)
def scanN (s : Sl.State) (t : Sl.Thread) : Int := loadC s.cells (hazardCell s.config (IntKind.i64.wrap (t.at_.tdiv 2)) (t.at_.tmod 2))
def reclaimS (s : Sl.State) (t : Sl.Thread) (p : Int) : Sl.State × Sl.Thread :=
  if IntKind.i64.wrap (t.at_ + 1) < IntKind.i64.wrap (2 * s.config.threads) then (s, { t with found := foundN t (scanN s t), at_ := IntKind.i64.wrap (t.at_ + 1) })
  else ({ s with generations := (freeAll s.generations t.free (splitOut t.limbo (foundN t (scanN s t)))).1 }, endT t 0 0 |> fun x => { x with limbo := splitIn t.limbo (foundN t (scanN s t)), free := (freeAll s.generations t.free (splitOut t.limbo (foundN t (scanN s t)))).2 })
section
variable {gs fr hs : List Int} {h : Int} {k : Nat}
theorem freeAll_yes (hx : hs[k]? = some h) (hc : at0 (freeAll gs fr (hs.take k)).1 (indexOf h) < 9998 ∧ ((freeAll gs fr (hs.take k)).2.length : Int) < 100) :
    freeAll gs fr (hs.take (k + 1)) = ((freeAll gs fr (hs.take k)).1.set (indexOf h).toNat (IntKind.i64.wrap (at0 (freeAll gs fr (hs.take k)).1 (indexOf h) + 1)), (freeAll gs fr (hs.take k)).2 ++ [indexOf h]) := by
  rw [List.take_add_one, hx]
  unfold freeAll at hc ⊢
  rw [List.foldl_append]
  simp only [Option.toList_some, List.foldl_cons, List.foldl_nil]
  exact if_pos hc
theorem freeAll_no (hx : hs[k]? = some h) (hc : ¬ (at0 (freeAll gs fr (hs.take k)).1 (indexOf h) < 9998 ∧ ((freeAll gs fr (hs.take k)).2.length : Int) < 100)) :
    freeAll gs fr (hs.take (k + 1)) = freeAll gs fr (hs.take k) := by
  rw [List.take_add_one, hx]
  unfold freeAll at hc ⊢
  rw [List.foldl_append]
  simp only [Option.toList_some, List.foldl_cons, List.foldl_nil]
  exact if_neg hc
theorem freeStep_len {z : List Int × List Int} : (freeStep z h).1.length = z.1.length ∧ (freeStep z h).2.length ≤ z.2.length + 1 := by
 unfold freeStep
 split
 · exact ⟨by simp, by simp⟩
 · exact ⟨rfl, by omega⟩
theorem foldl_len : ∀ (hs : List Int) (z : List Int × List Int), (hs.foldl freeStep z).1.length = z.1.length ∧ (hs.foldl freeStep z).2.length ≤ z.2.length + hs.length
  | [], z => ⟨rfl, by simp⟩
  | h :: hs, z => by
    have h1 := foldl_len hs (freeStep z h)
    have h2 := freeStep_len (z := z) (h := h)
    simp only [List.foldl_cons, List.length_cons]
    exact ⟨h1.1.trans h2.1, by omega⟩
theorem freeAll_len : (freeAll gs fr hs).1.length = gs.length := (foldl_len hs (gs, fr)).1
theorem freeAll_free : (freeAll gs fr hs).2.length ≤ fr.length + hs.length := (foldl_len hs (gs, fr)).2
end
theorem split_len (xs ys : List Int) : (splitIn xs ys).length + (splitOut xs ys).length = xs.length := by
 unfold splitIn splitOut
 induction xs with
 | nil => rfl
 | cons x xs ih =>
   simp only [List.filter_cons]
   by_cases h : x ∈ ys <;> simp [h] <;> omega
theorem foundN_len {t : Sl.Thread} {n : Int} : (foundN t n).length ≤ t.found.length + 1 := by unfold foundN; split <;> simp
theorem reclaimS_size (s : Sl.State) (t : Sl.Thread) (p : Int) : ((reclaimS s t p).1.cells.length = s.cells.length ∧ (reclaimS s t p).1.generations.length = s.generations.length) ∧ (reclaimS s t p).2.size ≤ t.size + 1 := by
 have h1 := foundN_len (t := t) (n := scanN s t)
 have h2 := split_len t.limbo (foundN t (scanN s t))
 have h3 := freeAll_free (gs := s.generations) (fr := t.free) (hs := splitOut t.limbo (foundN t (scanN s t)))
 unfold reclaimS
 split
 · refine ⟨⟨rfl, rfl⟩, ?_⟩
   unfold Sl.Thread.size; dsimp only; omega
 · refine ⟨⟨rfl, freeAll_len⟩, ?_⟩
   unfold endT clearT Sl.Thread.size; dsimp only; simp only [List.length_nil]; omega
theorem Fit.nodes {s : Sl.State} {t : Sl.Thread} (hf : Fit s t) {ys : List Int} {h : Int} (hm : h ∈ splitOut t.limbo ys) : int64 h ∧ 0 ≤ indexOf h ∧ indexOf h < s.config.capacity := by
 have h1 : h ∈ t.limbo := by unfold splitOut at hm; exact (List.mem_filter.1 hm).1
 have h2 := hf.th
 unfold threadOk at h2; simp only [Bool.and_eq_true] at h2
 have h3 := List.all_eq_true.1 h2.1.2 h h1
 unfold isNode at h3; simp only [Bool.and_eq_true, decide_eq_true_eq] at h3
 exact ⟨hf.wt.2.2.2.2.2.2.2.2.2.2.2.2.2.2.2 h h1, indexOf_pos h3.1, h3.2⟩
set_option maxHeartbeats 4000000 in
set_option maxRecDepth 20000 in
theorem l16Scan_c {W w : World} {l : List Res} {g gt ot mt ct p : Nat} {z0 z1 : Slv} {s : Sl.State} {t : Sl.Thread} (hp : p < s.threads.length) (hf : Fit s t) (hS : Sep W (Box g ((s).encv (sv z0) (sv z1) (.slice (some ⟨gt, ot, none⟩) mt ct)) :: Own intEK (sv z0) (s).cells :: Own intEK (sv z1) (s).generations :: Own threadEK (.slice (some ⟨gt, ot, none⟩) mt ct) (s.threads.set p t) :: l) w) : Calls Tryz.prog 61 #[.pointer (some ⟨g, 0, none⟩), vi (p : Int)] w (Ret fun v w' => v = .tuple #[] ∧ Sep W (Box g (((reclaimS s t (p : Int)).1).encv (sv z0) (sv z1) (.slice (some ⟨gt, ot, none⟩) mt ct)) :: Own intEK (sv z0) ((reclaimS s t (p : Int)).1).cells :: Own intEK (sv z1) ((reclaimS s t (p : Int)).1).generations :: Own threadEK (.slice (some ⟨gt, ot, none⟩) mt ct) (s.threads.set p (reclaimS s t (p : Int)).2) :: l) w') := by
 refine calls_fr Tryz.func61 rfl Tryz.ntmps61 rfl ?_
 intro a hF
 have hl0 := hS.own_len (q := 1) rfl
 have hl1 := hS.own_len (q := 2) rfl
 have hmt : mt = s.threads.length := by have := hS.own_len (q := 3) (s := (some ⟨gt, ot, none⟩, mt, ct)) rfl; simpa using this
 have hz1 := hf.sizes; unfold sizesOk at hz1
 refine ws fun K1 hK1 => ?_
 refine rb 5 0 hF tk hS rfl rfl rfl fun a hF => ?_
 refine wl hF rfl rfl rfl (r_index sl27 (hF.ev rfl) (hF.ev rfl) (by omega) (by first | omega | (dsimp only; omega))) fun a hF => ?_
 refine ra 1 hF tk rfl fun a hF => ?_
 refine wl_nil (hK1 _ _ ?_)
 refine wp_seq_k fun K2 hK2 => ?_
 refine wp_region_calm (by kernel_rfl) (by kernel_rfl) ?_
 refine qa 4 hF tk rfl fun a hF => ?_
 refine wq hF rfl rfl rfl (fun w_ hB_ => r_loadn ag25 (hF.ev rfl) ((hS.ext hB_).boxn (vs := [_, _, _, _, _, _]) (i := 0) (m := 6) rfl rfl) sz25) fun a hF => ?_
 refine qa 3 hF tk rfl fun a hF => ?_
 refine wq hF rfl rfl rfl (fun w_ hB_ => r_load1 sc3 (hF.ev rfl) ((hS.ext hB_).elt1 (q := 3) (j := 13) hp rfl (fun _ => rfl))) fun a hF => ?_
 refine wq hF rfl rfl rfl (fun w_ hB_ => r_quo (by first | decide | omega) (hF.ev rfl) ec) fun a hF => ?_
 refine qa 3 hF tk rfl fun a hF => ?_
 refine wq hF rfl rfl rfl (fun w_ hB_ => r_load1 sc3 (hF.ev rfl) ((hS.ext hB_).elt1 (q := 3) (j := 13) hp rfl (fun _ => rfl))) fun a hF => ?_
 refine wq hF rfl rfl rfl (fun w_ hB_ => r_rem (by first | decide | omega) (hF.ev rfl) ec) fun a hF => ?_
 refine wq_call hF rfl rfl rfl (fun w_ hB_ => r_call3 en109 (hF.ev rfl) (hF.ev rfl) (hF.ev rfl)) (fun w_ hB_ => specHazardCell_c _ _ _) fun a hF => ?_
 refine wq_call hF rfl rfl rfl (fun w_ hB_ => r_call2 en108 (hF.ev rfl) (hF.ev rfl)) (fun w_ hB_ => l9LoadR_c (fun j u hu => (hS.ext hB_).box7 (i := 0) rfl j u hu) ((hS.ext hB_).own_rd (i := 1) rfl)) fun a hF => ?_
 refine qa 1 hF tk rfl fun a hF => ?_
 refine wpQuiet_nil ?_; intro w1 hB_; have hS := hS.ext hB_
 refine hK2 _ _ ?_
 refine wp_cut (fun a w => Sep W (Box g (s.encv (sv z0) (sv z1) (.slice (some ⟨gt, ot, none⟩) mt ct)) :: Own intEK (sv z0) s.cells :: Own intEK (sv z1) s.generations :: Own threadEK (.slice (some ⟨gt, ot, none⟩) mt ct) (s.threads.set p ({ t with found := (foundN t (scanN s t)) })) :: l) w ∧ Fr 134 [(0, .pointer (some ⟨g, 0, none⟩)), (1, vi (p : Int)), (4, .pointer (some ⟨gt, ot + p * 19, none⟩))] a) ?_ ?_
 ·
  refine ws fun K3 hK3 => ?_
  refine ra 2 hF tk rfl fun a hF => ?_
  refine wl_nil (hK3 _ _ ?_)
  refine wc_fx (t := 34) hF rfl ?_ ?_ <;> clear hF <;> intro c34 hF <;> try simp only [zb] at c34
  ·
   obtain ⟨A0_, A1_, A2_, A3_, A4_, k0_, k1_, k2_, k3_, k4_, ⟨n0_, n1_, n2_, n3_, n4_⟩, ⟨q0_, q1_, q2_, q3_, q4_⟩, hS_⟩ := Sep.thr_lend (t := t) (Sep.headp (A := [_, _, _, _]) (B := [_, _, _, _]) hS [3, 0, 1, 2] (by decide) rfl rfl) hp; replace hS := hS_; clear hS_; unfold maxLen at n0_ n1_ n2_ n3_ n4_; try dsimp only at n0_ n1_ n2_ n3_ n4_ q0_ q1_ q2_ q3_ q4_
   dsimp only [Thread.encv] at hS
   refine wp_region_lit ?_
   refine ra 4 hF tk rfl fun a hF => ?_
   refine wl hF rfl rfl rfl (r_load1 sc26 (hF.ev rfl) (hS.but1 (q := 5) (j := 14) rfl rfl)) fun a hF => ?_
   refine ra 1 hF tk rfl fun a hF => ?_
   refine wl_bslice intEK [vi (scanN s t)] [scanN s t] rfl hF hS rfl mk26 rfl ⟨rfl, (hF.ev rfl), trivial⟩ rfl rfl rfl rfl ?_; clear hF a; intro gl_41 w2 a hS_ hF; replace hS := hS_; clear hS_
   refine wl_append (q := 1) hF hS rfl rfl (hS.own_rd (i := 0) rfl) mk26 rfl (hF.ev rfl) (hF.ev rfl) (by simp; omega) (by unfold maxLen; simp; omega) ?_; clear hF a; intro A_42 c_42 w3 a hS_ hF; replace hS := hS_; clear hS_; dsimp only [List.set, List.length_cons, List.length_nil] at hS hF
   refine ra 2 hF tk rfl fun a hF => ?_
   refine wl_bstore (q := 6) (j := 14) hF hS rfl sz26 (hF.ev rfl) rfl (hF.ev rfl) rfl rfl fun w4 hS => ?_; dsimp only [List.set] at hS
   refine wl_nil ?_
   try simp only [Exit.then, Exit.inBlock, ↓reduceIte]
   have e0 : (foundN t (scanN s t)) = t.found ++ [scanN s t] := if_neg c34
   replace hS := Sep.thr_back (t' := { t with found := t.found ++ [scanN s t] }) (y0 := (_, _, _)) (y1 := (_, _, _)) (y2 := (_, _, _)) (y3 := (_, _, _)) (y4 := (_, _, _)) (Sep.headp (A := [_, _, _, _, _, _, _, _, _, _]) (B := [_, _, _, _, _, _, _, _, _, _]) hS [1, 2, 3, 4, 5, 6, 0, 7, 8, 9] (by decide) rfl rfl) rfl
   rw [e0]
   exact ⟨(Sep.headp (A := [_, _, _, _, _]) (B := [_, _, _, _]) hS [2, 3, 4, 0] (by decide) rfl rfl), (((hF.nil.keepE hF (t := 4) rfl rfl).keepE hF (t := 1) rfl rfl).keepE hF (t := 0) rfl rfl)⟩
  refine wp_skip ?_
  try simp only [Exit.then, Exit.inBlock, ↓reduceIte]
  have e0 : (foundN t (scanN s t)) = t.found := if_pos c34
  rw [e0]
  exact ⟨hS, (((hF.nil.keepE hF (t := 4) rfl rfl).keepE hF (t := 1) rfl rfl).keepE hF (t := 0) rfl rfl)⟩
 clear hF hS a; rintro a w5 ⟨hS, hF⟩
 refine ws fun K4 hK4 => ?_
 refine ra 4 hF tk rfl fun a hF => ?_
 refine wl hF rfl rfl rfl (r_load1 sc3 (hF.ev rfl) (hS.elt1 (q := 3) (j := 13) hp rfl (fun _ => rfl))) fun a hF => ?_
 refine ra 3 hF tk rfl fun a hF => ?_
 refine wl_estore (q := 3) (j := 13) (⟨_, ⟨_, _, _⟩, ⟨_, _⟩, _, _, _, _, _, _, _, _, _, _, _, _, _⟩ : Sl.Thread) hF hS hp rfl sz3 (hF.ev rfl) rfl (hF.ev rfl) rfl (fun _ => rfl) (fun _ => by dsimp only [threadEK, Thread.encv, List.set] <;> rfl) (by intro _; rfl) fun w6 hS => ?_; dsimp only [List.set] at hS
 refine wl_nil (hK4 _ _ ?_)
 refine wp_seq_k fun K5 hK5 => ?_
 refine wp_seq_k fun K6 hK6 => ?_
 refine wp_region_calm (by kernel_rfl) (by kernel_rfl) ?_
 refine qa 3 hF tk rfl fun a hF => ?_
 refine wq hF rfl rfl rfl (fun w_ hB_ => r_load1 sc3 (hF.ev rfl) ((hS.ext hB_).elt1 (q := 3) (j := 13) hp rfl (fun _ => rfl))) fun a hF => ?_
 refine qb 7 0 hF tk hS rfl rfl rfl fun a hF => ?_
 refine wpQuiet_nil ?_; intro w7 hB_; have hS := hS.ext hB_
 refine hK6 _ _ ?_
 refine wc_fx (t := 63) hF rfl ?_ ?_ <;> clear hF <;> intro c63 hF <;> try simp only [zb] at c63
 ·
  refine wp_ret ?_
  try simp only [Exit.then, Exit.inBlock, ↓reduceIte]
  refine ret0 rfl hF ⟨rfl, ?_⟩
  unfold reclaimS
  rw [if_pos c63]
  exact hS
 obtain ⟨A0_, A1_, A2_, A3_, A4_, k0_, k1_, k2_, k3_, k4_, ⟨n0_, n1_, n2_, n3_, n4_⟩, ⟨q0_, q1_, q2_, q3_, q4_⟩, hS_⟩ := Sep.thr_lend (t := { t with found := (foundN t (scanN s t)), at_ := IntKind.i64.wrap (t.at_ + 1) }) (Sep.headp (A := [_, _, _, _]) (B := [_, _, _, _]) hS [3, 0, 1, 2] (by decide) rfl rfl) hp; replace hS := hS_; clear hS_; unfold maxLen at n0_ n1_ n2_ n3_ n4_; try dsimp only at n0_ n1_ n2_ n3_ n4_ q0_ q1_ q2_ q3_ q4_
 dsimp only [Thread.encv] at hS
 have hgl0 := hf.lg
 refine wp_skip ?_
 refine hK5 _ _ ?_
 refine wp_seq_k fun K7 hK7 => ?_
 refine wp_region_todo (is := [0, 1, 2, 3, 4, 5, 6, 7, 8, 9, 10, 11, 12, 13]) [] [] (by kernel_rfl) hF hS ⟨trivial, by decide, by decide, by decide⟩ (by kernel_rfl) ?_; clear hF; intro hl_ wd hSd
 refine todo_pure hl_ (by kernel_rfl) rfl (gw0 rfl) rfl rfl rfl (fun a w_ hF => r_move (hF.ev rfl)) ?_
 refine todo_pure hl_ (by kernel_rfl) rfl (gw0 rfl) rfl rfl rfl (fun a w_ hF => r_nilCheck (hF.ev rfl)) ?_
 refine todo_pure hl_ (by kernel_rfl) rfl (gw0 rfl) rfl rfl rfl (fun a w_ hF => r_field fo42_15 (hF.ev rfl)) ?_
 refine todo_load [8, 9, 10, 11, 12, 13] hl_ (by kernel_rfl) rfl (gw0 rfl) rfl rfl rfl (fun a w_ hF hB_ => r_load1 sc26 (hF.ev rfl) ((hSd.ext hB_).but1 (q := 5) (j := 18) rfl rfl)) ?_
 refine todo_pure hl_ (by kernel_rfl) rfl (gw0 rfl) rfl rfl rfl (fun a w_ hF => r_move (hF.ev rfl)) ?_
 refine todo_pure hl_ (by kernel_rfl) rfl (gw0 rfl) rfl rfl rfl (fun a w_ hF => r_nilCheck (hF.ev rfl)) ?_
 refine todo_pure hl_ (by kernel_rfl) rfl (gw0 rfl) rfl rfl rfl (fun a w_ hF => r_field fo42_11 (hF.ev rfl)) ?_
 refine todo_load [8, 9, 10, 11, 12, 13] hl_ (by kernel_rfl) rfl (gw0 rfl) rfl rfl rfl (fun a w_ hF hB_ => r_load1 sc26 (hF.ev rfl) ((hSd.ext hB_).but1 (q := 5) (j := 14) rfl rfl)) ?_
 refine todo_mk hl_ rfl (by kernel_rfl) rfl rfl rfl rfl rfl (fun a w_ hF => r_call2 en19 (hF.ev rfl) (hF.ev rfl)) (fun w_ hS => specSplit_c (hS.own_rd (i := 4) rfl) (hS.own_rd (i := 0) rfl) (by omega)) ?_; rintro ⟨p73, q73⟩
 refine todo_pure hl_ (by kernel_rfl) rfl (gw0 rfl) rfl rfl rfl (fun a w_ hF => r_move (hF.ev rfl)) ?_
 refine todo_pure hl_ (by kernel_rfl) rfl (gw0 rfl) rfl rfl rfl (fun a w_ hF => r_extract (hF.ev rfl) rfl) ?_
 refine todo_pure hl_ (by kernel_rfl) rfl (gw0 rfl) rfl rfl rfl (fun a w_ hF => r_extract (hF.ev rfl) rfl) ?_
 refine todo_pure hl_ (by kernel_rfl) rfl (gw0 rfl) rfl rfl rfl (fun a w_ hF => r_assign (hF.ev rfl)) ?_
 refine todo_pure hl_ (by kernel_rfl) rfl (gw0 rfl) rfl rfl rfl (fun a w_ hF => r_assign (hF.ev rfl)) ?_
 refine todo_fin hl_ rfl (by kernel_rfl) (tl := []) rfl ?_; clear hS a; intro a w8 hF hA_
 have hS := hA_.sep; clear hA_
 clear hl_; try clear hSd
 try dsimp only [List.cons_append, List.nil_append, List.set] at hS
 try clear wd
 refine wl_nil ⟨rfl, ?_⟩
 refine hK7 _ _ ?_
 refine ws fun K8 hK8 => ?_
 refine wl hF rfl rfl rfl (r_move (hF.ev rfl)) fun a hF => ?_
 obtain ⟨⟨Ap, np, cp⟩, rfl⟩ := hS.own_sv (q := 0) rfl; obtain rfl : np = _ := hS.own_len (q := 0) (s := (Ap, np, cp)) rfl
 obtain ⟨⟨Aq, nq, cq⟩, rfl⟩ := hS.own_sv (q := 1) rfl; obtain rfl : nq = _ := hS.own_len (q := 1) (s := (Aq, nq, cq)) rfl
 have hq1 := out_le' t.limbo (foundN t (scanN s t))
 replace hS : Sep W (Own intEK (.slice Ap _ cp) _ :: Own intEK (.slice Aq _ cq) _ :: _) _ := hS
 try dsimp only at hF
 refine ra 3 hF tk rfl fun a hF => ?_
 refine wl_bstore (q := 7) (j := 18) hF hS rfl sz26 (hF.ev rfl) rfl (hF.ev rfl) rfl rfl fun w9 hS => ?_; dsimp only [List.set] at hS
 refine wl_nil (hK8 _ _ ?_)
 refine wp_seq_k fun K9 hK9 => ?_
 refine ws fun K10 hK10 => ?_
 refine ra 1 hF tk rfl fun a hF => ?_
 refine wl_nil (hK10 _ _ ?_)
 refine wp_block ?_
 replace hS := hS.pull (p := 7) rfl; dsimp only [List.eraseIdx] at hS
 replace hS := hS.pull (p := 10) rfl; dsimp only [List.eraseIdx] at hS
 replace hS := hS.pull (p := 5) rfl; dsimp only [List.eraseIdx] at hS
 have hL_ := ((((hF.nil.keep hF (t := 7) rfl).keep hF (t := 4) rfl).keep hF (t := 1) rfl).keep hF (t := 0) rfl)
 refine wp_loop_m (σ := Nat × Slv) (fun z L_ => (8, vi z.1) :: L_) (fun z l_ => (Own intEK (sv z.2) (freeAll s.generations t.free ((splitOut t.limbo (foundN t (scanN s t))).take z.1)).2) :: (Own intEK (sv z1) (freeAll s.generations t.free ((splitOut t.limbo (foundN t (scanN s t))).take z.1)).1) :: (OwnBut threadEK (.slice (some ⟨gt, ot, none⟩) mt ct) (s.threads.set p ({ t with found := (foundN t (scanN s t)), at_ := IntKind.i64.wrap (t.at_ + 1) })) p (Thread.encv ({ t with found := (foundN t (scanN s t)), at_ := IntKind.i64.wrap (t.at_ + 1) }) (.slice A0_ (foundN t (scanN s t)).length k0_) (sv z.2) (.slice A2_ t.buffer.length k2_) (.slice A3_ t.work.length k3_) (.slice Ap (splitIn t.limbo (foundN t (scanN s t))).length cp))) :: l_) (fun z => (z.1 ≤ (splitOut t.limbo (foundN t (scanN s t))).length)) (fun z => (splitOut t.limbo (foundN t (scanN s t))).length - z.1) (0, (A1_, t.free.length, k1_)) (hS) (hL_.keepE hF (t := 8) rfl rfl) ?_ ?_
 · exact Nat.zero_le _
 clear hF hS hL_ a
 rintro ⟨k, Af, nf, cf⟩ a w10 hk hS hF; try dsimp only at hF; try dsimp only at hS; try dsimp only at hk
 obtain rfl : nf = _ := hS.own_len (q := 0) (s := (Af, nf, cf)) rfl
 replace hS : Sep W (Own intEK (.slice Af _ cf) _ :: _) _ := hS
 refine wp_seq_k fun K11 hK11 => ?_
 refine ws fun K12 hK12 => ?_
 refine ra 4 hF tk rfl fun a hF => ?_
 refine wl_nil (hK12 _ _ ?_)
 refine wc_fx (t := 83) hF rfl ?_ ?_ <;> clear hF <;> intro c83 hF <;> try simp only [zb] at c83
 ·
  have hlt : k < (splitOut t.limbo (foundN t (scanN s t))).length := by omega
  have hx := at0_nat hlt
  have hm_ : at0 (splitOut t.limbo (foundN t (scanN s t))) (k : Int) ∈ splitOut t.limbo (foundN t (scanN s t)) := at0_mem (by omega) (by omega)
  obtain ⟨hh1, hi0, hi1⟩ := hf.nodes hm_
  have hgl := freeAll_len (gs := s.generations) (fr := t.free) (hs := (splitOut t.limbo (foundN t (scanN s t))).take k)
  refine wp_skip ?_
  refine hK11 _ _ ?_
  refine wp_seq_k fun K13 hK13 => ?_
  refine wp_block ?_
  refine ws fun K14 hK14 => ?_
  refine ra 2 hF tk rfl fun a hF => ?_
  obtain ⟨g88, o88, m88, q88, hv88, hm88, hl88, hc88⟩ := Rd.atF ((hS.own_rd (i := 4) rfl)) (a := a) (X := .tmp 87) (hF.ev rfl) (by omega) (by omega)
  refine wl hF rfl rfl rfl (r_index sl26 ((hF.ev rfl).trans hv88) (hF.ev rfl) (by omega) (by first | omega | (simp at hm88; omega))) fun a hF => ?_
  refine wl hF rfl rfl rfl (r_load1 sc3 (hF.ev rfl) (hc88 0 _ rfl)) fun a hF => ?_
  refine wl_call hF rfl rfl rfl (r_call1 en110 (hF.ev rfl)) (specIndexOf_c hh1) ?_; clear hF a; rintro v w11 a ⟨rfl, hB_⟩ hF; have hS := hS.ext hB_
  refine ra 1 hF tk rfl fun a hF => ?_
  refine wl_nil (hK14 _ _ ?_)
  refine ws fun K15 hK15 => ?_
  refine rb 5 9 hF tk hS rfl rfl rfl fun a hF => ?_
  obtain ⟨g96, o96, m96, q96, hv96, hm96, hl96, hc96⟩ := Rd.atF ((hS.own_rd (i := 1) rfl)) (a := a) (X := .tmp 95) (hF.ev rfl) (by omega) (by omega)
  refine wl hF rfl rfl rfl (r_index sl26 ((hF.ev rfl).trans hv96) (hF.ev rfl) (by omega) (by first | omega | (simp at hm96; omega))) fun a hF => ?_
  refine wl hF rfl rfl rfl (r_load1 sc3 (hF.ev rfl) (hc96 0 _ rfl)) fun a hF => ?_
  refine ra 2 hF tk rfl fun a hF => ?_
  apply wl_and (A := [_, _, _, _, _, _, _]) (pk := 106) hF hS (tc := 99) rfl
  ·
   intro hg99 a hF; try simp only [zb] at hg99
   refine ra 3 hF tk rfl fun a hF => ?_
   refine wl_take hF rfl rfl rfl rfl ?_
   refine wl hF rfl rfl rfl (r_load1 sc26 (hF.ev rfl) (hS.but1 (q := 2) (j := 15) rfl rfl)) fun a hF => ?_
   refine ra 3 hF tk rfl fun a hF => ?_
   exact wl_nil ⟨rfl, (Fr.pre (A := [_, _, _, _, _, _, _]) hF rfl).keep hF (t := 106) rfl, hS⟩
  ·
   intro hg99 a hF; try simp only [zb] at hg99
   refine ra 7 hF tk rfl fun a hF => ?_
   exact wl_nil ⟨rfl, (Fr.pre (A := [_, _, _, _, _, _, _]) hF rfl).keep hF (t := 106) rfl, hS⟩
  clear hF a hS; intro a w12 hF hS
  refine wl_nil (hK15 _ _ ?_)
  refine wc_fx (t := 106) hF rfl ?_ ?_ <;> clear hF <;> intro c106 hF <;> try simp only [zb] at c106
  ·
   refine wp_seq_k fun K16 hK16 => ?_
   refine wp_region_todo (is := [0, 1, 2, 3, 4, 5, 6, 7, 8, 9, 10, 11, 12, 13, 14]) [] [14] (by kernel_rfl) hF hS ⟨trivial, by decide, by decide, by decide⟩ (by kernel_rfl) ?_; clear hF; intro hl_ wd hSd
   refine todo_pure hl_ (by kernel_rfl) rfl (gw0 rfl) rfl rfl rfl (fun a w_ hF => r_move (hF.ev rfl)) ?_
   refine todo_pure hl_ (by kernel_rfl) rfl (gw0 rfl) rfl rfl rfl (fun a w_ hF => r_nilCheck (hF.ev rfl)) ?_
   refine todo_pure hl_ (by kernel_rfl) rfl (gw0 rfl) rfl rfl rfl (fun a w_ hF => r_field fo29_2 (hF.ev rfl)) ?_
   refine todo_load [13, 14] hl_ (by kernel_rfl) rfl (gw0 rfl) rfl rfl rfl (fun a w_ hF hB_ => r_load1 sc26 (hF.ev rfl) ((hSd.ext hB_).box (i := 9) rfl rfl)) ?_
   refine todo_pure hl_ (by kernel_rfl) rfl (gw0 rfl) rfl rfl rfl (fun a w_ hF => r_move (hF.ev rfl)) ?_
   refine todo_pure hl_ (by kernel_rfl) rfl (gw0 rfl) rfl rfl rfl (fun a w_ hF => r_move (hF.ev rfl)) ?_
   refine todo_pure hl_ (by kernel_rfl) rfl (gw0 rfl) rfl rfl rfl (fun a w_ hF => r_nilCheck (hF.ev rfl)) ?_
   refine todo_pure hl_ (by kernel_rfl) rfl (gw0 rfl) rfl rfl rfl (fun a w_ hF => r_field fo29_2 (hF.ev rfl)) ?_
   refine todo_load [10, 11, 12, 13, 14] hl_ (by kernel_rfl) rfl (gw0 rfl) rfl rfl rfl (fun a w_ hF hB_ => r_load1 sc26 (hF.ev rfl) ((hSd.ext hB_).box (i := 9) rfl rfl)) ?_
   refine todo_pure hl_ (by kernel_rfl) rfl (gw0 rfl) rfl rfl rfl (fun a w_ hF => r_move (hF.ev rfl)) ?_
   obtain ⟨g117, o117, m117, q117, hv117, hm117, hl117, hc117⟩ := Rd.idxF ((hSd.own_rd (i := 1) rfl)) (at0_get (i := (indexOf (at0 (splitOut t.limbo (foundN t (scanN s t))) (k : Int)))) (by omega) (by omega))
   refine todo_pure hl_ (by kernel_rfl) rfl (gw0 rfl) rfl rfl rfl (fun a w_ hF => r_index sl26 ((hF.ev rfl).trans hv117) (hF.ev rfl) (by omega) (by first | omega | (simp at hm117; omega))) ?_
   refine todo_load [12, 13, 14] hl_ (by kernel_rfl) rfl (gw0 rfl) rfl rfl rfl (fun a w_ hF hB_ => r_load1 sc3 (hF.ev rfl) (cellB hB_ (hc117 0 _ rfl))) ?_
   refine todo_pure hl_ (by kernel_rfl) rfl (gw0 rfl) rfl rfl rfl (fun a w_ hF => r_add (hF.ev rfl) ec) ?_
   obtain ⟨g120, o120, m120, q120, hv120, hm120, hl120, hc120⟩ := Rd.idxF ((hSd.own_rd (i := 1) rfl)) (at0_get (i := (indexOf (at0 (splitOut t.limbo (foundN t (scanN s t))) (k : Int)))) (by omega) (by omega))
   refine todo_pure hl_ (by kernel_rfl) rfl (gw0 rfl) rfl rfl rfl (fun a w_ hF => r_index sl26 ((hF.ev rfl).trans hv120) (hF.ev rfl) (by omega) (by first | omega | (simp at hm120; omega))) ?_
   refine todo_fin hl_ rfl (by kernel_rfl) (tl := [_]) rfl ?_; clear hS a; intro a w13 hF hA_
   have hS := hA_.sep; clear hA_
   clear hl_; try clear hSd
   try dsimp only [List.cons_append, List.nil_append, List.set] at hS
   try clear wd
   refine wl_istore (q := 1) hF hS rfl hv120 (by omega) (by omega) sz3 (hF.ev rfl) rfl (hF.ev rfl) fun w14 hS => ?_; dsimp only [List.set] at hS
   refine wl_nil ⟨rfl, ?_⟩
   refine hK16 _ _ ?_
   refine wp_region_lit ?_
   refine ra 4 hF tk rfl fun a hF => ?_
   refine wl hF rfl rfl rfl (r_load1 sc26 (hF.ev rfl) (hS.but1 (q := 2) (j := 15) rfl rfl)) fun a hF => ?_
   refine ra 1 hF tk rfl fun a hF => ?_
   refine wl_bslice intEK [vi (indexOf (at0 (splitOut t.limbo (foundN t (scanN s t))) (k : Int)))] [indexOf (at0 (splitOut t.limbo (foundN t (scanN s t))) (k : Int))] rfl hF hS rfl mk26 rfl ⟨rfl, (hF.ev rfl), trivial⟩ rfl rfl rfl rfl ?_; clear hF a; intro gl_127 w15 a hS_ hF; replace hS := hS_; clear hS_
   refine wl_append (q := 1) hF hS rfl rfl (hS.own_rd (i := 0) rfl) mk26 rfl (hF.ev rfl) (hF.ev rfl) (by simp; omega) (by unfold maxLen; simp; omega) ?_; clear hF a; intro A_128 c_128 w16 a hS_ hF; replace hS := hS_; clear hS_; dsimp only [List.set, List.length_cons, List.length_nil] at hS hF
   refine ra 2 hF tk rfl fun a hF => ?_
   refine wl_bstore (q := 3) (j := 15) hF hS rfl sz26 (hF.ev rfl) rfl (hF.ev rfl) rfl rfl fun w17 hS => ?_; dsimp only [List.set] at hS
   refine wl_nil ?_
   simp only [Exit.then, Exit.inBlock, ↓reduceIte]
   refine hK13 _ _ ?_
   refine wp_region_lit ?_
   refine ra 3 hF tk rfl fun a hF => ?_
   refine wl_nil ?_
   try simp only [Exit.then, Exit.inBlock, ↓reduceIte]
   have e_ := freeAll_yes (gs := s.generations) (fr := t.free) hx c106; have e1 := congrArg Prod.fst e_; have e2 := congrArg Prod.snd e_; dsimp only at e1 e2; rw [← e1, ← e2] at hS
   refine ⟨(k + 1, (_, _, _)), (by dsimp only; omega), (Sep.headp (A := [_, _, _, _, _, _, _, _, _, _, _, _]) (B := [_, _, _, _, _, _, _, _, _, _, _]) hS [1, 2, 3, 4, 5, 6, 7, 8, 9, 10, 11] (by decide) rfl rfl), (((((hF.nil.keep hF (t := 7) rfl).keep hF (t := 4) rfl).keep hF (t := 1) rfl).keep hF (t := 0) rfl).keepE hF (t := 8) rfl (wk (by omega))), by dsimp only; omega⟩
  refine wp_skip ?_
  simp only [Exit.then, Exit.inBlock, ↓reduceIte]
  refine hK13 _ _ ?_
  refine wp_region_lit ?_
  refine ra 3 hF tk rfl fun a hF => ?_
  refine wl_nil ?_
  try simp only [Exit.then, Exit.inBlock, ↓reduceIte]
  have e_ := freeAll_no (gs := s.generations) (fr := t.free) hx (by omega); rw [← e_] at hS
  refine ⟨(k + 1, (_, _, _)), (by dsimp only; omega), hS, (((((hF.nil.keep hF (t := 7) rfl).keep hF (t := 4) rfl).keep hF (t := 1) rfl).keep hF (t := 0) rfl).keepE hF (t := 8) rfl (wk (by omega))), by dsimp only; omega⟩
 obtain rfl : k = (splitOut t.limbo (foundN t (scanN s t))).length := by omega
 rw [List.take_length] at hS
 replace hS := Sep.thr_back (t' := { t with found := (foundN t (scanN s t)), at_ := IntKind.i64.wrap (t.at_ + 1), limbo := splitIn t.limbo (foundN t (scanN s t)), free := (freeAll s.generations t.free (splitOut t.limbo (foundN t (scanN s t)))).2 }) (y0 := (_, _, _)) (y1 := (_, _, _)) (y2 := (_, _, _)) (y3 := (_, _, _)) (y4 := (_, _, _)) (Sep.headp (A := [_, _, _, _, _, _, _, _, _, _, _]) (B := [_, _, _, _, _, _, _, _, _, _, _]) hS [5, 0, 6, 7, 3, 2, 1, 4, 8, 9, 10] (by decide) rfl rfl) rfl
 refine wp_exit ?_
 simp only [Exit.then, Exit.inBlock, ↓reduceIte]
 refine hK9 _ _ ?_
 refine wp_region_lit ?_
 refine ra 2 hF tk rfl fun a hF => ?_
 replace hS := Sep.headp (A := [_, _, _, _, _, _]) (B := [_, _, _, _, _, _]) hS [4, 0, 1, 2, 3, 5] (by decide) rfl rfl
 refine wl_call hF rfl rfl rfl (r_call4 en49 (hF.ev rfl) (hF.ev rfl) ec ec) (l10Finish_c (s := s) hp hS) ?_; clear hF a; rintro v w18 a ⟨rfl, hS⟩ hF
 refine wl_nil ?_
 try simp only [Exit.then, Exit.inBlock, ↓reduceIte]
 refine ret0n rfl hF ⟨rfl, ?_⟩
 unfold reclaimS
 rw [if_neg c63]
 exact (Sep.headp (A := [_, _, _, _, _, _]) (B := [_, _, _, _]) hS [0, 5, 2, 1] (by decide) rfl rfl)
end Go.Proofs.YtgofolgogfmhgaaGreat.Wk
namespace Go.Proofs.YtgofolgogfmhgaaGreat.Wk
open Go Go.RowKit Sl
set_option linter.unusedVariables false
set_option linter.unusedSimpArgs false
set_option maxRecDepth 20000
end Go.Proofs.YtgofolgogfmhgaaGreat.Wk
namespace Go.Proofs.YtgofolgogfmhgaaGreat.Wk
open Go Go.RowKit Sl
set_option linter.unusedVariables false
set_option linter.unusedSimpArgs false
set_option maxRecDepth 20000
def keyF (t : Sl.Thread) : Int := if t.op.kind = 5 then -1 else t.op.key
def scanA (s : Sl.State) (t : Sl.Thread) : Int := loadC s.cells (announceCell s.config t.at_)
def scanF (s : Sl.State) (t : Sl.Thread) : List Int := foundN t (scanA s t)
def afterT (c : Config) (t : Sl.Thread) : Sl.Thread := if limboLimit c ≤ (t.limbo.length : Int) ∨ t.op.kind = 5 ∧ (0 : Int) < t.limbo.length then { clearT t with pc := 70 } else endT t 0 0
def mergeT (s : Sl.State) (t : Sl.Thread) : Sl.Thread := { t with found := scanF s t, at_ := IntKind.i64.wrap (t.at_ + 1), buffer := splitK s.config.policy (keyF t) t.buffer (scanF s t), work := t.work ++ splitD s.config.policy (keyF t) t.buffer (scanF s t), pc := 60 }
def scanT (s : Sl.State) (t : Sl.Thread) : Sl.Thread :=
  if IntKind.i64.wrap (t.at_ + 1) < s.config.threads then { t with found := scanF s t, at_ := IntKind.i64.wrap (t.at_ + 1) }
  else if ((t.work.length + (splitD s.config.policy (keyF t) t.buffer (scanF s t)).length : Nat) : Int) = 0 then afterT s.config (mergeT s t) else mergeT s t
def flushS (s : Sl.State) (t : Sl.Thread) (p : Int) : Sl.State × Sl.Thread :=
  if t.pc = 50 then (s, scanT s t)
  else if t.pc = 60 then (faultS s (at0 t.work 0).handle, { t with seen := loadC s.cells (cellOf s (at0 t.work 0).handle 2), pc := 61 })
  else if t.pc = 61 then
    if hitB s.cells (cellOf s (at0 t.work 0).handle 2) t.seen = true then (swapS (faultS s (at0 t.work 0).handle) (cellOf s (at0 t.work 0).handle 2) t.seen (marked t.seen), { t with pc := 10 })
    else ({ swapS (faultS s (at0 t.work 0).handle) (cellOf s (at0 t.work 0).handle 2) t.seen (marked t.seen) with retries := IntKind.i64.wrap (s.retries + 1) }, { t with pc := 60 })
  else if t.pc = 62 then (putS s (hazardCell s.config p 0) 0, { t with pc := 63 })
  else if t.pc = 63 then (putS s (hazardCell s.config p 1) 0, afterT s.config t)
  else (s, t)
def isF (n : Int) : Bool := decide (n = 50) || decide (60 ≤ n ∧ n ≤ 63)
theorem afterT_size {c : Config} {t : Sl.Thread} : (afterT c t).size ≤ t.size := by
 unfold afterT
 split
 · unfold clearT Sl.Thread.size; simp only [List.length_nil]; omega
 · exact endT_size
theorem mergeT_size {s : Sl.State} {t : Sl.Thread} : (mergeT s t).size ≤ t.size + 1 := by
 have h1 := foundN_len (t := t) (n := scanA s t)
 have h2 := splitE_len s.config.policy (keyF t) t.buffer (scanF s t)
 unfold mergeT Sl.Thread.size scanF at *; dsimp only; simp only [List.length_append]; omega
theorem scanT_size {s : Sl.State} {t : Sl.Thread} : (scanT s t).size ≤ t.size + 1 := by
 have h1 := foundN_len (t := t) (n := scanA s t)
 have h2 := mergeT_size (s := s) (t := t)
 unfold scanT
 split
 · unfold Sl.Thread.size scanF; dsimp only; omega
 split
 · exact Nat.le_trans afterT_size h2
 · exact h2
theorem flushS_size (s : Sl.State) (t : Sl.Thread) (p : Int) : ((flushS s t p).1.cells.length = s.cells.length ∧ (flushS s t p).1.generations.length = s.generations.length) ∧ (flushS s t p).2.size ≤ t.size + 1 := by
 unfold flushS
 repeat' split
 all_goals (refine ⟨⟨?_, rfl⟩, ?_⟩)
 all_goals first | rfl | exact Nat.le_succ _ | exact scanT_size | exact Nat.le_trans afterT_size (Nat.le_succ _) | exact putC_len | (unfold swapS faultS; dsimp only; split <;> first | rfl | exact putC_len)
theorem Fit.work {s : Sl.State} {t : Sl.Thread} (hf : Fit s t) (h : t.pc = 60 ∨ t.pc = 61) : 0 < t.work.length := by
 have h2 := hf.th
 unfold threadOk at h2; simp only [Bool.and_eq_true, decide_eq_true_eq] at h2
 have h3 := h2.1.1.1.2
 unfold pcOk at h3
 have := h3.2.1
 omega
theorem Fit.hand {s : Sl.State} {t : Sl.Thread} (hf : Fit s t) (h : 0 < t.work.length) : int64 (at0 t.work 0).handle := (hf.wt.2.2.2.2.2.2.2.2.2.2.2.2.2.2.1 _ (at0_mem (by omega) (by omega))).1
set_option maxHeartbeats 4000000 in
set_option maxRecDepth 20000 in
theorem l15After_c {W w : World} {l : List Res} {g gt ot mt ct p : Nat} {v0 v1 : Value} {s : Sl.State} {ts : List Sl.Thread} {t : Sl.Thread} (hp : p < ts.length) (hS : Sep W (Box g (s.encv v0 v1 (.slice (some ⟨gt, ot, none⟩) mt ct)) :: Own threadEK (.slice (some ⟨gt, ot, none⟩) mt ct) (ts.set p (t)) :: l) w) : Calls Tryz.prog 171 #[.pointer (some ⟨g, 0, none⟩), vi (p : Int)] w (Ret fun v w' => v = .tuple #[] ∧ Sep W (Box g (s.encv v0 v1 (.slice (some ⟨gt, ot, none⟩) mt ct)) :: Own threadEK (.slice (some ⟨gt, ot, none⟩) mt ct) (ts.set p (afterT s.config t)) :: l) w') := by
 refine calls_fr Tryz.func171 rfl Tryz.ntmps171 rfl ?_
 intro a hF
 have hmt := hS.own_len (s := (some ⟨gt, ot, none⟩, mt, ct)) (q := 1) rfl
 simp only [List.length_set] at hmt
 refine ws fun K1 hK1 => ?_
 refine rb 5 0 hF tk hS rfl rfl rfl fun a hF => ?_
 refine wl hF rfl rfl rfl (r_index sl27 (hF.ev rfl) (hF.ev rfl) (by omega) (by first | omega | (dsimp only; omega))) fun a hF => ?_
 refine ra 1 hF tk rfl fun a hF => ?_
 refine wl_nil (hK1 _ _ ?_)
 refine ws fun K2 hK2 => ?_
 refine ra 3 hF tk rfl fun a hF => ?_
 obtain ⟨ce15, ke15, ze15, he15⟩ := hS.eltK (q := 1) hp rfl; have kk15 := ke15; obtain ⟨u15_0, u15_1, u15_2, u15_3, u15_4, rfl, f15_0, f15_1, f15_2, f15_3, f15_4⟩ := ke15
 obtain ⟨Ae15, qe15, rfl, _, hme15⟩ := f15_4.sl; unfold maxLen at hme15
 refine wl hF rfl rfl rfl (r_load1 sc26 (hF.ev rfl) (he15 18 _ rfl)) fun a hF => ?_
 refine ra 2 hF tk rfl fun a hF => ?_
 refine wl_nil (hK2 _ _ ?_)
 refine wp_seq_k fun K3 hK3 => ?_
 refine ws fun K4 hK4 => ?_
 refine ra 4 hF tk rfl fun a hF => ?_
 refine wl hF rfl rfl rfl (r_loadn ag25 (hF.ev rfl) (hS.boxn (vs := [_, _, _, _, _, _]) (i := 0) (m := 6) rfl rfl) sz25) fun a hF => ?_
 refine wl_call hF rfl rfl rfl (r_call1 en191 (hF.ev rfl)) (specLimboLimit_c _) ?_; clear hF a; rintro v w1 a ⟨rfl, hB_⟩ hF; have hS := hS.ext hB_
 refine ra 2 hF tk rfl fun a hF => ?_
 apply wl_or (A := [_, _, _, _, _, _, _, _, _, _, _]) (pk := 35) hF hS (tc := 24) rfl
 ·
  intro hg24 a hF; try simp only [zb] at hg24
  refine ra 4 hF tk rfl fun a hF => ?_
  refine wl_take hF rfl rfl rfl rfl ?_
  refine wl hF rfl rfl rfl (r_load1 sc3 (hF.ev rfl) (hS.elt1 (q := 1) (j := 1) hp rfl (fun _ => rfl))) fun a hF => ?_
  refine ra 2 hF tk rfl fun a hF => ?_
  apply wl_and (A := [_, _, _]) (pk := 34) hF hS (tc := 31) rfl
  ·
   intro hg31 a hF; try simp only [zb] at hg31
   refine ra 3 hF tk rfl fun a hF => ?_
   exact wl_nil ⟨rfl, (Fr.pre (A := [_, _, _]) hF rfl).keep hF (t := 34) rfl, hS⟩
  ·
   intro hg31 a hF; try simp only [zb] at hg31
   refine ra 3 hF tk rfl fun a hF => ?_
   exact wl_nil ⟨rfl, (Fr.pre (A := [_, _, _]) hF rfl).keep hF (t := 34) rfl, hS⟩
  intro a w2 hF hS
  refine ra 1 hF tk rfl fun a hF => ?_
  exact wl_nil ⟨rfl, (Fr.pre (A := [_, _, _, _, _, _, _, _, _]) hF rfl).keep hF (t := 35) rfl, hS⟩
 ·
  intro hg24 a hF; try simp only [zb] at hg24
  refine ra 11 hF tk rfl fun a hF => ?_
  exact wl_nil ⟨rfl, (Fr.pre (A := [_, _, _, _, _, _, _, _, _, _, _]) hF rfl).keep hF (t := 35) rfl, hS⟩
 clear hF a hS; intro a w3 hF hS
 refine wl_nil (hK4 _ _ ?_)
 refine wc_fx (t := 35) hF rfl ?_ ?_ <;> clear hF <;> intro c35 hF <;> try simp only [zb] at c35
 ·
  refine ws fun K5 hK5 => ?_
  refine ra 1 hF tk rfl fun a hF => ?_
  replace hS := Sep.headp (A := [_, _]) (B := [_, _]) hS [1, 0] (by decide) rfl rfl
  refine wl_call hF rfl rfl rfl (r_call1 en98 (hF.ev rfl)) (l10Clear_c hp hS) ?_; clear hF a; rintro v w4 a ⟨rfl, hS⟩ hF
  refine wl_nil (hK5 _ _ ?_)
  refine ws fun K6 hK6 => ?_
  refine ra 3 hF tk rfl fun a hF => ?_
  refine wl_estore (q := 0) (j := 0) (⟨_, ⟨_, _, _⟩, ⟨_, _⟩, _, _, _, _, _, _, _, _, _, _, _, _, _⟩ : Sl.Thread) hF hS hp rfl sz3 (hF.ev rfl) rfl ec rfl (fun _ => rfl) (fun _ => by dsimp only [threadEK, Thread.encv, List.set] <;> rfl) (by intro _; rfl) fun w5 hS => ?_; dsimp only [List.set] at hS
  refine wl_nil (hK6 _ _ ?_)
  refine wp_ret ?_
  try simp only [Exit.then, Exit.inBlock, ↓reduceIte]
  refine ret0 rfl hF ⟨rfl, ?_⟩
  unfold afterT
  rw [if_pos c35]
  exact (Sep.headp (A := [_, _]) (B := [_, _]) hS [1, 0] (by decide) rfl rfl)
 refine wp_skip ?_
 refine hK3 _ _ ?_
 refine wp_region_lit ?_
 refine ra 2 hF tk rfl fun a hF => ?_
 refine wl_call hF rfl rfl rfl (r_call4 en49 (hF.ev rfl) (hF.ev rfl) ec ec) (l10Finish_c (s := s) hp hS) ?_; clear hF a; rintro v w6 a ⟨rfl, hS⟩ hF
 refine wl_nil ?_
 try simp only [Exit.then, Exit.inBlock, ↓reduceIte]
 refine ret0n rfl hF ⟨rfl, ?_⟩
 unfold afterT
 rw [if_neg (by omega)]
 exact hS
end Go.Proofs.YtgofolgogfmhgaaGreat.Wk
namespace Go.Proofs.YtgofolgogfmhgaaGreat.Wk
open Go Go.RowKit Sl
set_option linter.unusedVariables false
set_option linter.unusedSimpArgs false
set_option maxRecDepth 20000
set_option maxHeartbeats 4000000 in
set_option maxRecDepth 20000 in
theorem l15Scan_c {W w : World} {l : List Res} {g gt ot mt ct p : Nat} {z0 z1 : Slv} {s : Sl.State} {t : Sl.Thread} (hp : p < s.threads.length) (hf : Fit s t) (hS : Sep W (Box g ((s).encv (sv z0) (sv z1) (.slice (some ⟨gt, ot, none⟩) mt ct)) :: Own intEK (sv z0) (s).cells :: Own intEK (sv z1) (s).generations :: Own threadEK (.slice (some ⟨gt, ot, none⟩) mt ct) (s.threads.set p t) :: l) w) : Calls Tryz.prog 169 #[.pointer (some ⟨g, 0, none⟩), vi (p : Int)] w (Ret fun v w' => v = .tuple #[] ∧ Sep W (Box g ((s).encv (sv z0) (sv z1) (.slice (some ⟨gt, ot, none⟩) mt ct)) :: Own intEK (sv z0) (s).cells :: Own intEK (sv z1) (s).generations :: Own threadEK (.slice (some ⟨gt, ot, none⟩) mt ct) (s.threads.set p (scanT s t)) :: l) w') := by
 refine calls_fr Tryz.func169 rfl Tryz.ntmps169 rfl ?_
 intro a hF
 have hl0 := hS.own_len (q := 1) rfl
 have hl1 := hS.own_len (q := 2) rfl
 have hmt : mt = s.threads.length := by have := hS.own_len (q := 3) (s := (some ⟨gt, ot, none⟩, mt, ct)) rfl; simpa using this
 have hz1 := hf.sizes; unfold sizesOk at hz1
 refine ws fun K1 hK1 => ?_
 refine rb 5 0 hF tk hS rfl rfl rfl fun a hF => ?_
 refine wl hF rfl rfl rfl (r_index sl27 (hF.ev rfl) (hF.ev rfl) (by omega) (by first | omega | (dsimp only; omega))) fun a hF => ?_
 refine ra 1 hF tk rfl fun a hF => ?_
 refine wl_nil (hK1 _ _ ?_)
 refine wp_seq_k fun K2 hK2 => ?_
 refine wp_region_calm (by kernel_rfl) (by kernel_rfl) ?_
 refine qa 4 hF tk rfl fun a hF => ?_
 refine wq hF rfl rfl rfl (fun w_ hB_ => r_loadn ag25 (hF.ev rfl) ((hS.ext hB_).boxn (vs := [_, _, _, _, _, _]) (i := 0) (m := 6) rfl rfl) sz25) fun a hF => ?_
 refine qa 3 hF tk rfl fun a hF => ?_
 refine wq hF rfl rfl rfl (fun w_ hB_ => r_load1 sc3 (hF.ev rfl) ((hS.ext hB_).elt1 (q := 3) (j := 13) hp rfl (fun _ => rfl))) fun a hF => ?_
 refine wq_call hF rfl rfl rfl (fun w_ hB_ => r_call2 en124 (hF.ev rfl) (hF.ev rfl)) (fun w_ hB_ => specAnnounceCell_c _ _) fun a hF => ?_
 refine wq_call hF rfl rfl rfl (fun w_ hB_ => r_call2 en108 (hF.ev rfl) (hF.ev rfl)) (fun w_ hB_ => l9LoadR_c (fun j u hu => (hS.ext hB_).box7 (i := 0) rfl j u hu) ((hS.ext hB_).own_rd (i := 1) rfl)) fun a hF => ?_
 refine qa 1 hF tk rfl fun a hF => ?_
 refine wpQuiet_nil ?_; intro w1 hB_; have hS := hS.ext hB_
 refine hK2 _ _ ?_
 refine wp_cut (fun a w => Sep W (Box g (s.encv (sv z0) (sv z1) (.slice (some ⟨gt, ot, none⟩) mt ct)) :: Own intEK (sv z0) s.cells :: Own intEK (sv z1) s.generations :: Own threadEK (.slice (some ⟨gt, ot, none⟩) mt ct) (s.threads.set p ({ t with found := (scanF s t) })) :: l) w ∧ Fr 112 [(0, .pointer (some ⟨g, 0, none⟩)), (1, vi (p : Int)), (4, .pointer (some ⟨gt, ot + p * 19, none⟩))] a) ?_ ?_
 ·
  refine ws fun K3 hK3 => ?_
  refine ra 2 hF tk rfl fun a hF => ?_
  refine wl_nil (hK3 _ _ ?_)
  refine wc_fx (t := 27) hF rfl ?_ ?_ <;> clear hF <;> intro c27 hF <;> try simp only [zb] at c27
  ·
   obtain ⟨A0_, A1_, A2_, A3_, A4_, k0_, k1_, k2_, k3_, k4_, ⟨n0_, n1_, n2_, n3_, n4_⟩, ⟨q0_, q1_, q2_, q3_, q4_⟩, hS_⟩ := Sep.thr_lend (t := t) (Sep.headp (A := [_, _, _, _]) (B := [_, _, _, _]) hS [3, 0, 1, 2] (by decide) rfl rfl) hp; replace hS := hS_; clear hS_; unfold maxLen at n0_ n1_ n2_ n3_ n4_; try dsimp only at n0_ n1_ n2_ n3_ n4_ q0_ q1_ q2_ q3_ q4_
   dsimp only [Thread.encv] at hS
   refine wp_region_lit ?_
   refine ra 4 hF tk rfl fun a hF => ?_
   refine wl hF rfl rfl rfl (r_load1 sc26 (hF.ev rfl) (hS.but1 (q := 5) (j := 14) rfl rfl)) fun a hF => ?_
   refine ra 1 hF tk rfl fun a hF => ?_
   refine wl_bslice intEK [vi (scanA s t)] [scanA s t] rfl hF hS rfl mk26 rfl ⟨rfl, (hF.ev rfl), trivial⟩ rfl rfl rfl rfl ?_; clear hF a; intro gl_34 w2 a hS_ hF; replace hS := hS_; clear hS_
   refine wl_append (q := 1) hF hS rfl rfl (hS.own_rd (i := 0) rfl) mk26 rfl (hF.ev rfl) (hF.ev rfl) (by first | omega | (simp; omega)) (by unfold maxLen; first | omega | (simp; omega)) ?_; clear hF a; intro A_35 c_35 w3 a hS_ hF; replace hS := hS_; clear hS_; dsimp only [List.set, List.length_cons, List.length_nil] at hS hF
   refine ra 2 hF tk rfl fun a hF => ?_
   refine wl_bstore (q := 6) (j := 14) hF hS rfl sz26 (hF.ev rfl) rfl (hF.ev rfl) rfl rfl fun w4 hS => ?_; dsimp only [List.set] at hS
   refine wl_nil ?_
   try simp only [Exit.then, Exit.inBlock, ↓reduceIte]
   have e0 : (scanF s t) = t.found ++ [scanA s t] := if_neg c27
   replace hS := Sep.thr_back (t' := { t with found := t.found ++ [scanA s t] }) (y0 := (_, _, _)) (y1 := (_, _, _)) (y2 := (_, _, _)) (y3 := (_, _, _)) (y4 := (_, _, _)) (Sep.headp (A := [_, _, _, _, _, _, _, _, _, _]) (B := [_, _, _, _, _, _, _, _, _, _]) hS [1, 2, 3, 4, 5, 6, 0, 7, 8, 9] (by decide) rfl rfl) rfl
   rw [e0]
   exact ⟨(Sep.headp (A := [_, _, _, _, _]) (B := [_, _, _, _]) hS [2, 3, 4, 0] (by decide) rfl rfl), (((hF.nil.keepE hF (t := 4) rfl rfl).keepE hF (t := 1) rfl rfl).keepE hF (t := 0) rfl rfl)⟩
  refine wp_skip ?_
  try simp only [Exit.then, Exit.inBlock, ↓reduceIte]
  have e0 : (scanF s t) = t.found := if_pos c27
  rw [e0]
  exact ⟨hS, (((hF.nil.keepE hF (t := 4) rfl rfl).keepE hF (t := 1) rfl rfl).keepE hF (t := 0) rfl rfl)⟩
 clear hF hS a; rintro a w5 ⟨hS, hF⟩
 refine ws fun K4 hK4 => ?_
 refine ra 4 hF tk rfl fun a hF => ?_
 refine wl hF rfl rfl rfl (r_load1 sc3 (hF.ev rfl) (hS.elt1 (q := 3) (j := 13) hp rfl (fun _ => rfl))) fun a hF => ?_
 refine ra 3 hF tk rfl fun a hF => ?_
 refine wl_estore (q := 3) (j := 13) (⟨_, ⟨_, _, _⟩, ⟨_, _⟩, _, _, _, _, _, _, _, _, _, _, _, _, _⟩ : Sl.Thread) hF hS hp rfl sz3 (hF.ev rfl) rfl (hF.ev rfl) rfl (fun _ => rfl) (fun _ => by dsimp only [threadEK, Thread.encv, List.set] <;> rfl) (by intro _; rfl) fun w6 hS => ?_; dsimp only [List.set] at hS
 refine wl_nil (hK4 _ _ ?_)
 refine wp_seq_k fun K5 hK5 => ?_
 refine wp_seq_k fun K6 hK6 => ?_
 refine wp_region_calm (by kernel_rfl) (by kernel_rfl) ?_
 refine qa 3 hF tk rfl fun a hF => ?_
 refine wq hF rfl rfl rfl (fun w_ hB_ => r_load1 sc3 (hF.ev rfl) ((hS.ext hB_).elt1 (q := 3) (j := 13) hp rfl (fun _ => rfl))) fun a hF => ?_
 refine qb 6 0 hF tk hS rfl rfl rfl fun a hF => ?_
 refine wpQuiet_nil ?_; intro w7 hB_; have hS := hS.ext hB_
 refine hK6 _ _ ?_
 refine wc_fx (t := 55) hF rfl ?_ ?_ <;> clear hF <;> intro c55 hF <;> try simp only [zb] at c55
 ·
  refine wp_ret ?_
  try simp only [Exit.then, Exit.inBlock, ↓reduceIte]
  refine ret0 rfl hF ⟨rfl, ?_⟩
  unfold scanT
  rw [if_pos c55]
  exact hS
 refine wp_skip ?_
 refine hK5 _ _ ?_
 refine ws fun K7 hK7 => ?_
 refine ra 4 hF tk rfl fun a hF => ?_
 refine wl hF rfl rfl rfl (r_load1 sc3 (hF.ev rfl) (hS.elt1 (q := 3) (j := 2) hp rfl (fun _ => rfl))) fun a hF => ?_
 refine ra 1 hF tk rfl fun a hF => ?_
 refine wl_nil (hK7 _ _ ?_)
 refine wp_cut (fun a w => Sep W (Box g (s.encv (sv z0) (sv z1) (.slice (some ⟨gt, ot, none⟩) mt ct)) :: Own intEK (sv z0) s.cells :: Own intEK (sv z1) s.generations :: Own threadEK (.slice (some ⟨gt, ot, none⟩) mt ct) (s.threads.set p ({ t with found := (scanF s t), at_ := IntKind.i64.wrap (t.at_ + 1) })) :: l) w ∧ Fr 112 [(0, .pointer (some ⟨g, 0, none⟩)), (1, vi (p : Int)), (4, .pointer (some ⟨gt, ot + p * 19, none⟩)), (6, vi (keyF t))] a) ?_ ?_
 ·
  refine ws fun K8 hK8 => ?_
  refine ra 4 hF tk rfl fun a hF => ?_
  refine wl hF rfl rfl rfl (r_load1 sc3 (hF.ev rfl) (hS.elt1 (q := 3) (j := 1) hp rfl (fun _ => rfl))) fun a hF => ?_
  refine ra 1 hF tk rfl fun a hF => ?_
  refine wl_nil (hK8 _ _ ?_)
  refine wc_fx (t := 66) hF rfl ?_ ?_ <;> clear hF <;> intro c66 hF <;> try simp only [zb] at c66
  ·
   refine wp_region_lit ?_
   refine ra 1 hF tk rfl fun a hF => ?_
   refine wl_nil ?_
   try simp only [Exit.then, Exit.inBlock, ↓reduceIte]
   exact ⟨hS, ((((hF.nil.keepE hF (t := 6) rfl (congrArg vi (if_pos c66).symm)).keepE hF (t := 4) rfl rfl).keepE hF (t := 1) rfl rfl).keepE hF (t := 0) rfl rfl)⟩
  refine wp_skip ?_
  try simp only [Exit.then, Exit.inBlock, ↓reduceIte]
  exact ⟨hS, ((((hF.nil.keepE hF (t := 6) rfl (congrArg vi (if_neg c66).symm)).keepE hF (t := 4) rfl rfl).keepE hF (t := 1) rfl rfl).keepE hF (t := 0) rfl rfl)⟩
 clear hF hS a; rintro a w8 ⟨hS, hF⟩
 obtain ⟨A0_, A1_, A2_, A3_, A4_, k0_, k1_, k2_, k3_, k4_, ⟨n0_, n1_, n2_, n3_, n4_⟩, ⟨q0_, q1_, q2_, q3_, q4_⟩, hS_⟩ := Sep.thr_lend (t := { t with found := (scanF s t), at_ := IntKind.i64.wrap (t.at_ + 1) }) (Sep.headp (A := [_, _, _, _]) (B := [_, _, _, _]) hS [3, 0, 1, 2] (by decide) rfl rfl) hp; replace hS := hS_; clear hS_; unfold maxLen at n0_ n1_ n2_ n3_ n4_; try dsimp only at n0_ n1_ n2_ n3_ n4_ q0_ q1_ q2_ q3_ q4_
 dsimp only [Thread.encv] at hS
 have hsp := splitE_len s.config.policy (keyF t) t.buffer (scanF s t)
 refine wp_seq_k fun K9 hK9 => ?_
 refine wp_region_todo (is := [0, 1, 2, 3, 4, 5, 6, 7, 8, 9, 10, 11, 12, 13, 14, 15, 16, 17, 18, 19]) [] [] (by kernel_rfl) hF hS ⟨trivial, by decide, by decide, by decide⟩ (by kernel_rfl) ?_; clear hF; intro hl_ wd hSd
 refine todo_pure hl_ (by kernel_rfl) rfl (gw0 rfl) rfl rfl rfl (fun a w_ hF => r_move (hF.ev rfl)) ?_
 refine todo_pure hl_ (by kernel_rfl) rfl (gw0 rfl) rfl rfl rfl (fun a w_ hF => r_nilCheck (hF.ev rfl)) ?_
 refine todo_pure hl_ (by kernel_rfl) rfl (gw0 rfl) rfl rfl rfl (fun a w_ hF => r_field fo29_0 (hF.ev rfl)) ?_
 refine todo_pure hl_ (by kernel_rfl) rfl (gw0 rfl) rfl rfl rfl (fun a w_ hF => r_field fo25_4 (hF.ev rfl)) ?_
 refine todo_load [14, 15, 16, 17, 18, 19] hl_ (by kernel_rfl) rfl (gw0 rfl) rfl rfl rfl (fun a w_ hF hB_ => r_load1 sc3 (hF.ev rfl) ((hSd.ext hB_).box (i := 6) rfl rfl)) ?_
 refine todo_pure hl_ (by kernel_rfl) rfl (gw0 rfl) rfl rfl rfl (fun a w_ hF => r_move (hF.ev rfl)) ?_
 refine todo_pure hl_ (by kernel_rfl) rfl (gw0 rfl) rfl rfl rfl (fun a w_ hF => r_move (hF.ev rfl)) ?_
 refine todo_pure hl_ (by kernel_rfl) rfl (gw0 rfl) rfl rfl rfl (fun a w_ hF => r_nilCheck (hF.ev rfl)) ?_
 refine todo_pure hl_ (by kernel_rfl) rfl (gw0 rfl) rfl rfl rfl (fun a w_ hF => r_field fo42_13 (hF.ev rfl)) ?_
 refine todo_load [14, 15, 16, 17, 18, 19] hl_ (by kernel_rfl) rfl (gw0 rfl) rfl rfl rfl (fun a w_ hF hB_ => r_load1 sc40 (hF.ev rfl) ((hSd.ext hB_).but1 (q := 5) (j := 16) rfl rfl)) ?_
 refine todo_pure hl_ (by kernel_rfl) rfl (gw0 rfl) rfl rfl rfl (fun a w_ hF => r_move (hF.ev rfl)) ?_
 refine todo_pure hl_ (by kernel_rfl) rfl (gw0 rfl) rfl rfl rfl (fun a w_ hF => r_nilCheck (hF.ev rfl)) ?_
 refine todo_pure hl_ (by kernel_rfl) rfl (gw0 rfl) rfl rfl rfl (fun a w_ hF => r_field fo42_11 (hF.ev rfl)) ?_
 refine todo_load [14, 15, 16, 17, 18, 19] hl_ (by kernel_rfl) rfl (gw0 rfl) rfl rfl rfl (fun a w_ hF hB_ => r_load1 sc26 (hF.ev rfl) ((hSd.ext hB_).but1 (q := 5) (j := 14) rfl rfl)) ?_
 refine todo_mk hl_ rfl (by kernel_rfl) rfl rfl rfl rfl rfl (fun a w_ hF => r_call4 en190 (hF.ev rfl) (hF.ev rfl) (hF.ev rfl) (hF.ev rfl)) (fun w_ hS => specSplitE_c (hS.own_rd (i := 2) rfl) (hS.own_rd (i := 0) rfl) (by omega)) ?_; rintro ⟨⟨Ap82, np82, cp82⟩, Aq82, nq82, cq82⟩
 refine todo_pure hl_ (by kernel_rfl) rfl (gw0 rfl) rfl rfl rfl (fun a w_ hF => r_move (hF.ev rfl)) ?_
 refine todo_pure hl_ (by kernel_rfl) rfl (gw0 rfl) rfl rfl rfl (fun a w_ hF => r_extract (hF.ev rfl) rfl) ?_
 refine todo_pure hl_ (by kernel_rfl) rfl (gw0 rfl) rfl rfl rfl (fun a w_ hF => r_extract (hF.ev rfl) rfl) ?_
 refine todo_pure hl_ (by kernel_rfl) rfl (gw0 rfl) rfl rfl rfl (fun a w_ hF => r_assign (hF.ev rfl)) ?_
 refine todo_pure hl_ (by kernel_rfl) rfl (gw0 rfl) rfl rfl rfl (fun a w_ hF => r_assign (hF.ev rfl)) ?_
 refine todo_fin hl_ rfl (by kernel_rfl) (tl := []) rfl ?_; clear hS a; intro a w9 hF hA_
 have hS := hA_.sep; clear hA_
 clear hl_; try clear hSd
 try dsimp only [List.cons_append, List.nil_append, List.set] at hS
 try clear wd
 refine wl_nil ⟨rfl, ?_⟩
 refine hK9 _ _ ?_
 refine ws fun K10 hK10 => ?_
 refine wl hF rfl rfl rfl (r_move (hF.ev rfl)) fun a hF => ?_
 have hnp := hS.own_len (q := 0) (s := (_, _, _)) rfl
 have hnq := hS.own_len (q := 1) (s := (_, _, _)) rfl
 refine ra 3 hF tk rfl fun a hF => ?_
 refine wl_bstore (q := 7) (j := 16) hF hS rfl sz40 (hF.ev rfl) rfl (hF.ev rfl) rfl rfl fun w10 hS => ?_; dsimp only [List.set] at hS
 refine wl_nil (hK10 _ _ ?_)
 refine ws fun K11 hK11 => ?_
 refine ra 1 hF tk rfl fun a hF => ?_
 refine wl_bslice entryEK [] [] rfl hF hS rfl mk40 rfl trivial rfl rfl rfl rfl ?_; clear hF a; intro gl_90 w11 a hS_ hF; replace hS := hS_; clear hS_
 refine ra 3 hF tk rfl fun a hF => ?_
 refine wl hF rfl rfl rfl (r_load1 sc40 (hF.ev rfl) (hS.but1 (q := 8) (j := 17) rfl rfl)) fun a hF => ?_
 refine wl_append0 hF hS rfl (hS.own_rd (i := 6) rfl) mk40 rfl (by first | omega | (simp; omega)) (by unfold maxLen; first | omega | (simp; omega)) (hF.ev rfl) (hF.ev rfl) ?_; clear hF a; intro s95 w12 a hS_ hF; replace hS := hS_; clear hS_
 refine ra 1 hF tk rfl fun a hF => ?_
 refine wl_append (q := 0) hF hS rfl rfl (hS.own_rd (i := 3) rfl) mk40 rfl (hF.ev rfl) (hF.ev rfl) (by first | omega | (simp; omega)) (by unfold maxLen; first | omega | (simp; omega)) ?_; clear hF a; intro A_97 c_97 w13 a hS_ hF; replace hS := hS_; clear hS_; dsimp only [List.set, List.length_cons, List.length_nil] at hS hF
 refine ra 2 hF tk rfl fun a hF => ?_
 refine wl_bstore (q := 9) (j := 17) hF hS rfl sz40 (hF.ev rfl) rfl (hF.ev rfl) rfl rfl fun w14 hS => ?_; dsimp only [List.set] at hS
 refine wl_nil (hK11 _ _ ?_)
 refine ws fun K12 hK12 => ?_
 refine ra 3 hF tk rfl fun a hF => ?_
 refine wl_bstore (q := 9) (j := 0) hF hS rfl sz3 (hF.ev rfl) rfl ec rfl rfl fun w15 hS => ?_; dsimp only [List.set] at hS
 refine wl_nil (hK12 _ _ ?_)
 refine ws fun K13 hK13 => ?_
 refine ra 3 hF tk rfl fun a hF => ?_
 refine wl hF rfl rfl rfl (r_load1 sc40 (hF.ev rfl) (hS.but1 (q := 9) (j := 17) rfl rfl)) fun a hF => ?_
 refine ra 2 hF tk rfl fun a hF => ?_
 refine wl_nil (hK13 _ _ ?_)
 refine wc_fx (t := 108) hF rfl ?_ ?_ <;> clear hF <;> intro c108 hF <;> try simp only [zb] at c108
 ·
  replace hS := Sep.thr_back (t' := mergeT s t) (y0 := (_, _, _)) (y1 := (_, _, _)) (y2 := (_, _, _)) (y3 := (_, _, _)) (y4 := (_, _, _)) (Sep.headp (A := [_, _, _, _, _, _, _, _, _, _, _, _, _]) (B := [_, _, _, _, _, _, _, _, _, _, _, _, _]) hS [4, 5, 2, 0, 8, 9, 1, 3, 6, 7, 10, 11, 12] (by decide) rfl rfl) rfl
  refine wp_region_lit ?_
  refine ra 2 hF tk rfl fun a hF => ?_
  replace hS := Sep.headp (A := [_, _, _, _, _, _, _, _]) (B := [_, _, _, _, _, _, _, _]) hS [5, 0, 1, 2, 3, 4, 6, 7] (by decide) rfl rfl
  refine wl_call hF rfl rfl rfl (r_call2 en171 (hF.ev rfl) (hF.ev rfl)) (l15After_c (s := s) (t := mergeT s t) hp hS) ?_; clear hF a; rintro v w16 a ⟨rfl, hS⟩ hF
  refine wl_nil ?_
  try simp only [Exit.then, Exit.inBlock, ↓reduceIte]
  refine ret0n rfl hF ⟨rfl, ?_⟩
  unfold scanT
  rw [if_neg c55, if_pos c108]
  exact (Sep.headp (A := [_, _, _, _, _, _, _, _]) (B := [_, _, _, _]) hS [0, 6, 7, 1] (by decide) rfl rfl)
 refine wp_skip ?_
 try simp only [Exit.then, Exit.inBlock, ↓reduceIte]
 replace hS := Sep.thr_back (t' := mergeT s t) (y0 := (_, _, _)) (y1 := (_, _, _)) (y2 := (_, _, _)) (y3 := (_, _, _)) (y4 := (_, _, _)) (Sep.headp (A := [_, _, _, _, _, _, _, _, _, _, _, _, _]) (B := [_, _, _, _, _, _, _, _, _, _, _, _, _]) hS [4, 5, 2, 0, 8, 9, 1, 3, 6, 7, 10, 11, 12] (by decide) rfl rfl) rfl
 refine ret0n rfl hF ⟨rfl, ?_⟩
 unfold scanT
 rw [if_neg c55, if_neg c108]
 exact (Sep.headp (A := [_, _, _, _, _, _, _, _]) (B := [_, _, _, _]) hS [5, 6, 7, 0] (by decide) rfl rfl)
set_option maxHeartbeats 4000000 in
set_option maxRecDepth 20000 in
theorem l15Flush_c {W w : World} {l : List Res} {g gt ot mt ct p : Nat} {z0 z1 : Slv} {s : Sl.State} {t : Sl.Thread} (hp : p < s.threads.length) (hf : Fit s t) (hS : Sep W (Box g ((s).encv (sv z0) (sv z1) (.slice (some ⟨gt, ot, none⟩) mt ct)) :: Own intEK (sv z0) (s).cells :: Own intEK (sv z1) (s).generations :: Own threadEK (.slice (some ⟨gt, ot, none⟩) mt ct) (s.threads.set p t) :: l) w) : Calls Tryz.prog 122 #[.pointer (some ⟨g, 0, none⟩), vi (p : Int)] w (Ret fun v w' => v = .tuple #[] ∧ Sep W (Box g (((flushS s t (p : Int)).1).encv (sv z0) (sv z1) (.slice (some ⟨gt, ot, none⟩) mt ct)) :: Own intEK (sv z0) ((flushS s t (p : Int)).1).cells :: Own intEK (sv z1) ((flushS s t (p : Int)).1).generations :: Own threadEK (.slice (some ⟨gt, ot, none⟩) mt ct) (s.threads.set p (flushS s t (p : Int)).2) :: l) w') := by
 refine calls_fr Tryz.func122 rfl Tryz.ntmps122 rfl ?_
 intro a hF
 have hl0 := hS.own_len (q := 1) rfl
 have hl1 := hS.own_len (q := 2) rfl
 have hmt : mt = s.threads.length := by have := hS.own_len (q := 3) (s := (some ⟨gt, ot, none⟩, mt, ct)) rfl; simpa using this
 refine ws fun K1 hK1 => ?_
 refine rb 5 0 hF tk hS rfl rfl rfl fun a hF => ?_
 refine wl hF rfl rfl rfl (r_index sl27 (hF.ev rfl) (hF.ev rfl) (by omega) (by first | omega | (dsimp only; omega))) fun a hF => ?_
 refine ra 1 hF tk rfl fun a hF => ?_
 refine wl_nil (hK1 _ _ ?_)
 refine ws fun K2 hK2 => ?_
 refine ra 3 hF tk rfl fun a hF => ?_
 refine wl hF rfl rfl rfl (r_load1 sc3 (hF.ev rfl) (hS.elt1 (q := 3) (j := 0) hp rfl (fun _ => rfl))) fun a hF => ?_
 refine wl_nil (hK2 _ _ ?_)
 refine wp_block ?_
 refine ws fun K3 hK3 => ?_
 refine ra 2 hF tk rfl fun a hF => ?_
 refine wl_nil (hK3 _ _ ?_)
 refine wc_fx (t := 15) hF rfl ?_ ?_ <;> clear hF <;> intro c15 hF <;> try simp only [zb] at c15
 ·
  refine wp_region_lit ?_
  refine ra 2 hF tk rfl fun a hF => ?_
  refine wl_call hF rfl rfl rfl (r_call2 en169 (hF.ev rfl) (hF.ev rfl)) (l15Scan_c hp hf hS) ?_; clear hF a; rintro v w1 a ⟨rfl, hS⟩ hF
  refine wl_nil ?_
  try simp only [Exit.then, Exit.inBlock, ↓reduceIte]
  refine ret0n rfl hF ⟨rfl, ?_⟩
  unfold flushS
  rw [if_pos c15]
  exact hS
 refine ws fun K4 hK4 => ?_
 refine ra 2 hF tk rfl fun a hF => ?_
 refine wl_nil (hK4 _ _ ?_)
 refine wc_fx (t := 20) hF rfl ?_ ?_ <;> clear hF <;> intro c20 hF <;> try simp only [zb] at c20
 ·
  obtain ⟨A0_, A1_, A2_, A3_, A4_, k0_, k1_, k2_, k3_, k4_, ⟨n0_, n1_, n2_, n3_, n4_⟩, ⟨q0_, q1_, q2_, q3_, q4_⟩, hS_⟩ := Sep.thr_lend (t := t) (Sep.headp (A := [_, _, _, _]) (B := [_, _, _, _]) hS [3, 0, 1, 2] (by decide) rfl rfl) hp; replace hS := hS_; clear hS_; unfold maxLen at n0_ n1_ n2_ n3_ n4_; try dsimp only at n0_ n1_ n2_ n3_ n4_ q0_ q1_ q2_ q3_ q4_
  dsimp only [Thread.encv] at hS
  have hwl := hf.work (by omega)
  have hwx : t.work[0]? = some (at0 t.work 0) := at0_nat (k := 0) (by omega)
  have hh := hf.hand hwl
  obtain ⟨gw, ow, mw, cw, hvw, _⟩ := Rd.idxF (hS.own_rd (i := 3) rfl) hwx; simp only [Value.slice.injEq] at hvw; obtain ⟨rfl, _, _⟩ := hvw
  refine ws fun K5 hK5 => ?_
  refine ra 6 hF tk rfl fun a hF => ?_
  refine wl hF rfl rfl rfl (r_load1 sc40 (hF.ev rfl) (hS.but1 (q := 5) (j := 17) rfl rfl)) fun a hF => ?_
  refine wl hF rfl rfl rfl (r_index sl40 (hF.ev rfl) ec (by omega) (by omega)) fun a hF => ?_
  refine ra 1 hF tk rfl fun a hF => ?_
  refine wl hF rfl rfl rfl (r_load1 sc3 (hF.ev rfl) (hS.own_cell (q := 3) (i := 0) (j := 0) rfl hwx rfl)) fun a hF => ?_
  replace hS := Sep.headp (A := [_, _, _, _, _, _, _, _, _]) (B := [_, _, _, _, _, _, _, _, _]) hS [6, 8, 0, 1, 2, 3, 4, 5, 7] (by decide) rfl rfl
  refine wl_call hF rfl rfl rfl (r_call3 en166 (hF.ev rfl) (hF.ev rfl) ec) (l9Cell_c (s := s) hh hf.lg hS) ?_; clear hF a; rintro v w2 a ⟨rfl, hS⟩ hF
  refine wl_call hF rfl rfl rfl (r_call2 en108 (hF.ev rfl) (hF.ev rfl)) (l9LoadR_c (fun j u hu => hS.box7 (i := 0) rfl j u hu) (hS.own_rd (i := 8) rfl)) ?_; clear hF a; rintro v w3 a ⟨rfl, hB_⟩ hF; have hS := hS.ext hB_
  refine ra 2 hF tk rfl fun a hF => ?_
  refine wl_bstore (q := 7) (j := 11) hF hS rfl sz3 (hF.ev rfl) rfl (hF.ev rfl) rfl rfl fun w4 hS => ?_; dsimp only [List.set] at hS
  refine wl_nil (hK5 _ _ ?_)
  refine wp_region_lit ?_
  refine ra 3 hF tk rfl fun a hF => ?_
  refine wl_bstore (q := 7) (j := 0) hF hS rfl sz3 (hF.ev rfl) rfl ec rfl rfl fun w5 hS => ?_; dsimp only [List.set] at hS
  refine wl_nil ?_
  try simp only [Exit.then, Exit.inBlock, ↓reduceIte]
  replace hS := Sep.thr_back (t' := { t with seen := loadC s.cells (cellOf s (at0 t.work 0).handle 2), pc := 61 }) (y0 := (_, _, _)) (y1 := (_, _, _)) (y2 := (_, _, _)) (y3 := (_, _, _)) (y4 := (_, _, _)) (Sep.headp (A := [_, _, _, _, _, _, _, _, _]) (B := [_, _, _, _, _, _, _, _, _]) hS [2, 3, 4, 5, 6, 7, 0, 1, 8] (by decide) rfl rfl) rfl
  refine ret0n rfl hF ⟨rfl, ?_⟩
  unfold flushS
  rw [if_neg c15, if_pos c20]
  exact (Sep.headp (A := [_, _, _, _]) (B := [_, _, _, _]) hS [1, 3, 2, 0] (by decide) rfl rfl)
 refine ws fun K6 hK6 => ?_
 refine ra 2 hF tk rfl fun a hF => ?_
 refine wl_nil (hK6 _ _ ?_)
 refine wc_fx (t := 39) hF rfl ?_ ?_ <;> clear hF <;> intro c39 hF <;> try simp only [zb] at c39
 ·
  obtain ⟨A0_, A1_, A2_, A3_, A4_, k0_, k1_, k2_, k3_, k4_, ⟨n0_, n1_, n2_, n3_, n4_⟩, ⟨q0_, q1_, q2_, q3_, q4_⟩, hS_⟩ := Sep.thr_lend (t := t) (Sep.headp (A := [_, _, _, _]) (B := [_, _, _, _]) hS [3, 0, 1, 2] (by decide) rfl rfl) hp; replace hS := hS_; clear hS_; unfold maxLen at n0_ n1_ n2_ n3_ n4_; try dsimp only at n0_ n1_ n2_ n3_ n4_ q0_ q1_ q2_ q3_ q4_
  dsimp only [Thread.encv] at hS
  have hwl := hf.work (by omega)
  have hwx : t.work[0]? = some (at0 t.work 0) := at0_nat (k := 0) (by omega)
  have hh := hf.hand hwl
  obtain ⟨gw, ow, mw, cw, hvw, _⟩ := Rd.idxF (hS.own_rd (i := 3) rfl) hwx; simp only [Value.slice.injEq] at hvw; obtain ⟨rfl, _, _⟩ := hvw
  refine ws fun K7 hK7 => ?_
  refine ra 3 hF tk rfl fun a hF => ?_
  refine wl_bstore (q := 5) (j := 0) hF hS rfl sz3 (hF.ev rfl) rfl ec rfl rfl fun w6 hS => ?_; dsimp only [List.set] at hS
  refine wl_nil (hK7 _ _ ?_)
  refine wp_seq_k fun K8 hK8 => ?_
  replace hS := Sep.headp (A := [_, _, _, _, _, _, _, _, _]) (B := [_, _, _, _, _, _, _, _, _]) hS [6, 0, 1, 2, 3, 4, 5, 7, 8] (by decide) rfl rfl
  refine wp_region_J (is := [0, 1, 2, 3, 4, 5, 6, 7, 8, 10, 11, 12, 13, 14, 15, 16, 17, 9, 18, 19, 20]) (fun (f : Int) r => Box g (s.encf (sv z0) (sv z1) (.slice (some ⟨gt, ot, none⟩) mt ct) f) :: r) _ (s.faults) [19, 20] (by kernel_rfl) hF hS (by kernel_rfl) ?_; clear hF hS a
  refine tj_pure (by kernel_rfl) rfl (gw0 rfl) rfl rfl (fun a w_ hF => r_move (hF.ev rfl)) ?_
  refine tj_pure (by kernel_rfl) rfl (gw0 rfl) rfl rfl (fun a w_ hF => r_move (hF.ev rfl)) ?_
  refine tj_pure (by kernel_rfl) rfl (gw0 rfl) rfl rfl (fun a w_ hF => r_move (hF.ev rfl)) ?_
  refine tj_pure (by kernel_rfl) rfl (gw0 rfl) rfl rfl (fun a w_ hF => r_nilCheck (hF.ev rfl)) ?_
  refine tj_pure (by kernel_rfl) rfl (gw0 rfl) rfl rfl (fun a w_ hF => r_field fo42_14 (hF.ev rfl)) ?_
  refine tj_load [6, 7, 8, 9, 18, 19, 20] (by kernel_rfl) rfl (gw0 rfl) rfl rfl (fun a w_ x_ hF hS => r_load1 sc40 (hF.ev rfl) (hS.but1 (q := 6) (j := 17) rfl rfl)) ?_
  refine tj_pure (by kernel_rfl) rfl (gw0 rfl) rfl rfl (fun a w_ hF => r_index sl40 (hF.ev rfl) ec (by omega) (by omega)) ?_
  refine tj_pure (by kernel_rfl) rfl (gw0 rfl) rfl rfl (fun a w_ hF => r_field fo83_0 (hF.ev rfl)) ?_
  refine tj_load [9, 18, 19, 20] (by kernel_rfl) rfl (gw0 rfl) rfl rfl (fun a w_ x_ hF hS => r_load1 sc3 (hF.ev rfl) (hS.own_cell (q := 4) (i := 0) (j := 0) rfl hwx rfl)) ?_
  refine tj_pure (by kernel_rfl) rfl (gw0 rfl) rfl rfl (fun a w_ hF => r_move (hF.ev rfl)) ?_
  refine tj_pure (by kernel_rfl) rfl (gw0 rfl) rfl rfl (fun a w_ hF => r_nilCheck (hF.ev rfl)) ?_
  refine tj_pure (by kernel_rfl) rfl (gw0 rfl) rfl rfl (fun a w_ hF => r_field fo42_8 (hF.ev rfl)) ?_
  refine tj_load [19, 20] (by kernel_rfl) rfl (gw0 rfl) rfl rfl (fun a w_ x_ hF hS => r_load1 sc3 (hF.ev rfl) (hS.but1 (q := 6) (j := 11) rfl rfl)) ?_
  refine tj_pure (by kernel_rfl) rfl (gw0 rfl) rfl rfl (fun a w_ hF => r_move (hF.ev rfl)) ?_
  refine tj_pure (by kernel_rfl) rfl (gw0 rfl) rfl rfl (fun a w_ hF => r_nilCheck (hF.ev rfl)) ?_
  refine tj_pure (by kernel_rfl) rfl (gw0 rfl) rfl rfl (fun a w_ hF => r_field fo42_8 (hF.ev rfl)) ?_
  refine tj_load [18, 19, 20] (by kernel_rfl) rfl (gw0 rfl) rfl rfl (fun a w_ x_ hF hS => r_load1 sc3 (hF.ev rfl) (hS.but1 (q := 6) (j := 11) rfl rfl)) ?_
  refine tj_mc (by kernel_rfl) rfl (gw0 rfl) rfl rfl (fun a w_ hF => r_call3 en166 (hF.ev rfl) (hF.ev rfl) ec) (fun w_ hS => calls_unit (l9Cell_c (s := s) hh hf.lg (Sep.headp (A := [_, _, _, _, _, _, _, _, _]) (B := [_, _, _, _, _, _, _, _, _]) hS [0, 8, 1, 2, 3, 4, 5, 6, 7] (by decide) rfl rfl))) (fun _ w_ h_ => ⟨_, (Sep.headp (A := [_, _, _, _, _, _, _, _, _]) (B := [_, _, _, _, _, _, _, _, _]) h_ [0, 2, 3, 4, 5, 6, 7, 8, 1] (by decide) rfl rfl)⟩) ?_; intro _
  refine tj_rd (by kernel_rfl) rfl (gw0 rfl) rfl rfl (fun a w_ hF => r_call1 en170 (hF.ev rfl)) (fun w_ hS => specMarked_c hf.seen) ?_
  refine tj_fin (tl := [_, _]) (by kernel_rfl) rfl ?_; intro a w7 hF hS; try dsimp only at hS
  replace hS := Sep.headp (A := [_, _, _, _, _, _, _, _, _]) (B := [_, _, _, _, _, _, _, _, _]) hS [0, 8, 1, 2, 3, 4, 5, 6, 7] (by decide) rfl rfl
  refine wl_call hF rfl rfl rfl (r_call4 en163 (hF.ev rfl) (hF.ev rfl) (hF.ev rfl) (hF.ev rfl)) (l9Swap_c (s := faultS s (at0 t.work 0).handle) hS) ?_; clear hF a; rintro v w8 a ⟨rfl, hS⟩ hF
  refine ra 1 hF tk rfl fun a hF => ?_
  refine wl_nil ⟨rfl, ?_⟩
  refine hK8 _ _ ?_
  refine wc_fx (t := 64) hF rfl ?_ ?_ <;> clear hF <;> intro c64 hF <;> try simp only [zb] at c64
  ·
   replace c64 : ¬ hitB s.cells (cellOf s (at0 t.work 0).handle 2) t.seen = true := fun h => by rw [show hitB (faultS s (at0 t.work 0).handle).cells (cellOf s (at0 t.work 0).handle 2) t.seen = true from h] at c64; cases c64
   refine ws fun K9 hK9 => ?_
   refine rb 8 0 hF tk hS rfl rfl rfl fun a hF => ?_
   refine wl_store hF hS (i := 0) rfl sz3 (hF.ev rfl) (hF.ev rfl) rfl rfl fun w9 hS => ?_; dsimp only [List.set, Nat.reduceAdd] at hS
   refine wl_nil (hK9 _ _ ?_)
   refine wp_region_lit ?_
   refine ra 3 hF tk rfl fun a hF => ?_
   refine wl_bstore (q := 8) (j := 0) hF hS rfl sz3 (hF.ev rfl) rfl ec rfl rfl fun w10 hS => ?_; dsimp only [List.set] at hS
   refine wl_nil ?_
   try simp only [Exit.then, Exit.inBlock, ↓reduceIte]
   replace hS := Sep.thr_back (t' := { t with pc := 60 }) (y0 := (_, _, _)) (y1 := (_, _, _)) (y2 := (_, _, _)) (y3 := (_, _, _)) (y4 := (_, _, _)) (Sep.headp (A := [_, _, _, _, _, _, _, _, _]) (B := [_, _, _, _, _, _, _, _, _]) hS [3, 4, 5, 6, 7, 8, 0, 1, 2] (by decide) rfl rfl) rfl
   refine ret0n rfl hF ⟨rfl, ?_⟩
   unfold flushS
   rw [if_neg c15, if_neg c20, if_pos c39, if_neg c64]
   exact (Sep.headp (A := [_, _, _, _]) (B := [_, _, _, _]) hS [1, 2, 3, 0] (by decide) rfl rfl)
  replace c64 : hitB s.cells (cellOf s (at0 t.work 0).handle 2) t.seen = true := c64
  refine wp_skip ?_
  try simp only [Exit.then, Exit.inBlock, ↓reduceIte]
  replace hS := Sep.thr_back (t' := { t with pc := 10 }) (y0 := (_, _, _)) (y1 := (_, _, _)) (y2 := (_, _, _)) (y3 := (_, _, _)) (y4 := (_, _, _)) (Sep.headp (A := [_, _, _, _, _, _, _, _, _]) (B := [_, _, _, _, _, _, _, _, _]) hS [3, 4, 5, 6, 7, 8, 0, 1, 2] (by decide) rfl rfl) rfl
  refine ret0n rfl hF ⟨rfl, ?_⟩
  unfold flushS
  rw [if_neg c15, if_neg c20, if_pos c39, if_pos c64]
  exact (Sep.headp (A := [_, _, _, _]) (B := [_, _, _, _]) hS [1, 2, 3, 0] (by decide) rfl rfl)
 refine ws fun K10 hK10 => ?_
 refine ra 2 hF tk rfl fun a hF => ?_
 refine wl_nil (hK10 _ _ ?_)
 refine wc_fx (t := 76) hF rfl ?_ ?_ <;> clear hF <;> intro c76 hF <;> try simp only [zb] at c76
 ·
  refine ws fun K11 hK11 => ?_
  refine ra 4 hF tk rfl fun a hF => ?_
  refine wl hF rfl rfl rfl (r_loadn ag25 (hF.ev rfl) (hS.boxn (vs := [_, _, _, _, _, _]) (i := 0) (m := 6) rfl rfl) sz25) fun a hF => ?_
  refine ra 1 hF tk rfl fun a hF => ?_
  refine wl_call hF rfl rfl rfl (r_call3 en109 (hF.ev rfl) (hF.ev rfl) ec) (specHazardCell_c _ _ _) ?_; clear hF a; rintro v w11 a ⟨rfl, hB_⟩ hF; have hS := hS.ext hB_
  refine wl_call hF rfl rfl rfl (r_call3 en123 (hF.ev rfl) (hF.ev rfl) ec) (l9Put_c (s := s) hS) ?_; clear hF a; rintro v w12 a ⟨rfl, hS⟩ hF
  refine wl_nil (hK11 _ _ ?_)
  refine wp_region_lit ?_
  refine ra 3 hF tk rfl fun a hF => ?_
  refine wl_estore (q := 3) (j := 0) (⟨_, ⟨_, _, _⟩, ⟨_, _⟩, _, _, _, _, _, _, _, _, _, _, _, _, _⟩ : Sl.Thread) hF hS hp rfl sz3 (hF.ev rfl) rfl ec rfl (fun _ => rfl) (fun _ => by dsimp only [threadEK, Thread.encv, List.set] <;> rfl) (by intro _; rfl) fun w13 hS => ?_; dsimp only [List.set] at hS
  refine wl_nil ?_
  try simp only [Exit.then, Exit.inBlock, ↓reduceIte]
  refine ret0n rfl hF ⟨rfl, ?_⟩
  unfold flushS
  rw [if_neg c15, if_neg c20, if_neg c39, if_pos c76]
  exact hS
 refine ws fun K12 hK12 => ?_
 refine ra 2 hF tk rfl fun a hF => ?_
 refine wl_nil (hK12 _ _ ?_)
 refine wc_fx (t := 89) hF rfl ?_ ?_ <;> clear hF <;> intro c89 hF <;> try simp only [zb] at c89
 ·
  refine ws fun K13 hK13 => ?_
  refine ra 4 hF tk rfl fun a hF => ?_
  refine wl hF rfl rfl rfl (r_loadn ag25 (hF.ev rfl) (hS.boxn (vs := [_, _, _, _, _, _]) (i := 0) (m := 6) rfl rfl) sz25) fun a hF => ?_
  refine ra 1 hF tk rfl fun a hF => ?_
  refine wl_call hF rfl rfl rfl (r_call3 en109 (hF.ev rfl) (hF.ev rfl) ec) (specHazardCell_c _ _ _) ?_; clear hF a; rintro v w14 a ⟨rfl, hB_⟩ hF; have hS := hS.ext hB_
  refine wl_call hF rfl rfl rfl (r_call3 en123 (hF.ev rfl) (hF.ev rfl) ec) (l9Put_c (s := s) hS) ?_; clear hF a; rintro v w15 a ⟨rfl, hS⟩ hF
  refine wl_nil (hK13 _ _ ?_)
  refine wp_region_lit ?_
  refine ra 2 hF tk rfl fun a hF => ?_
  replace hS := Sep.headp (A := [_, _, _, _]) (B := [_, _, _, _]) hS [0, 3, 1, 2] (by decide) rfl rfl
  refine wl_call hF rfl rfl rfl (r_call2 en171 (hF.ev rfl) (hF.ev rfl)) (l15After_c (s := putS s (hazardCell s.config (p : Int) 1) 0) hp hS) ?_; clear hF a; rintro v w16 a ⟨rfl, hS⟩ hF
  refine wl_nil ?_
  try simp only [Exit.then, Exit.inBlock, ↓reduceIte]
  refine ret0n rfl hF ⟨rfl, ?_⟩
  unfold flushS
  rw [if_neg c15, if_neg c20, if_neg c39, if_neg c76, if_pos c89]
  exact (Sep.headp (A := [_, _, _, _]) (B := [_, _, _, _]) hS [0, 2, 3, 1] (by decide) rfl rfl)
 refine wp_skip ?_
 try simp only [Exit.then, Exit.inBlock, ↓reduceIte]
 refine ret0n rfl hF ⟨rfl, ?_⟩
 unfold flushS
 rw [if_neg c15, if_neg c20, if_neg c39, if_neg c76, if_neg c89]
 exact hS
set_option maxHeartbeats 4000000 in
set_option maxRecDepth 20000 in
theorem specIsFlush_c {W : World} {n : Int} : Calls Tryz.prog 121 #[vi n] W (Ret fun v w' => v = .bool (isF n) ∧ Below W.heap.size W w') := by
 refine calls_fr Tryz.func121 rfl Tryz.ntmps121 rfl ?_
 intro a hF
 have hS := Sep.refl W
 refine ws fun K1 hK1 => ?_
 refine ra 1 hF tk rfl fun a hF => ?_
 refine wl_nil (hK1 _ _ ?_)
 refine ws fun K2 hK2 => ?_
 refine ra 3 hF tk rfl fun a hF => ?_
 apply wl_or (A := [_, _, _]) (pk := 8) hF hS (tc := 5) rfl
 ·
  intro hg5 a hF; try simp only [zb] at hg5
  refine ra 1 hF tk rfl fun a hF => ?_
  refine wl_take hF rfl rfl rfl rfl ?_
  refine wl_call hF rfl rfl rfl (r_call3 en46 (hF.ev rfl) ec ec) (l1In_c _ _ _) ?_; clear hF a; rintro v w1 a ⟨rfl, hB_⟩ hF; have hS := hS.ext hB_
  refine ra 1 hF tk rfl fun a hF => ?_
  exact wl_nil ⟨rfl, (Fr.pre (A := [_, _, _]) hF rfl).keep hF (t := 8) rfl, hS⟩
 ·
  intro hg5 a hF; try simp only [zb] at hg5
  refine ra 3 hF tk rfl fun a hF => ?_
  exact wl_nil ⟨rfl, (Fr.pre (A := [_, _, _]) hF rfl).keep hF (t := 8) rfl, hS⟩
 clear hF a hS; intro a w2 hF hS
 refine ra 1 hF tk rfl fun a hF => ?_
 refine wl_nil (hK2 _ _ ?_)
 refine wp_ret ?_
 try simp only [Exit.then, Exit.inBlock, ↓reduceIte]
 exact ret1 rfl hF rfl ⟨rfl, hS.old⟩
end Go.Proofs.YtgofolgogfmhgaaGreat.Wk
namespace Go.Proofs.YtgofolgogfmhgaaGreat.Wk
open Go Go.RowKit Sl
set_option linter.unusedVariables false
set_option linter.unusedSimpArgs false
set_option maxRecDepth 20000
def beginS (s : Sl.State) (t : Sl.Thread) (p : Int) : Sl.State × Sl.Thread :=
  if t.pc = 1 then (s, { t with seen := at0 s.cells 0, pc := if s.config.clockMax ≤ at0 s.cells 0 then 5 else 2 })
  else if t.pc = 2 then (putS s (announceCell s.config p) t.seen, { t with pc := 3 })
  else if t.pc = 3 then if at0 s.cells 0 = t.seen then (s, { t with pc := 4 }) else ({ s with retries := IntKind.i64.wrap (s.retries + 1) }, { t with pc := 1 })
  else if t.pc = 4 then (swapS s 0 t.seen (IntKind.i64.wrap (t.seen + 1)), endT { t with snapshot := t.seen } 0 0)
  else if t.pc = 5 then (putS s (announceCell s.config p) 0, endT t 5 0)
  else (s, t)
def isB (n : Int) : Bool := decide (1 ≤ n ∧ n ≤ 5)
set_option maxHeartbeats 4000000 in
set_option maxRecDepth 20000 in
theorem l11Begin_c {W w : World} {l : List Res} {g gt ot mt ct p : Nat} {z0 z1 : Slv} {s : Sl.State} {t : Sl.Thread} (hp : p < s.threads.length) (hlc : 2 ≤ s.cells.length) (hS : Sep W (Box g ((s).encv (sv z0) (sv z1) (.slice (some ⟨gt, ot, none⟩) mt ct)) :: Own intEK (sv z0) (s).cells :: Own intEK (sv z1) (s).generations :: Own threadEK (.slice (some ⟨gt, ot, none⟩) mt ct) (s.threads.set p t) :: l) w) : Calls Tryz.prog 112 #[.pointer (some ⟨g, 0, none⟩), vi (p : Int)] w (Ret fun v w' => v = .tuple #[] ∧ Sep W (Box g (((beginS s t (p : Int)).1).encv (sv z0) (sv z1) (.slice (some ⟨gt, ot, none⟩) mt ct)) :: Own intEK (sv z0) ((beginS s t (p : Int)).1).cells :: Own intEK (sv z1) ((beginS s t (p : Int)).1).generations :: Own threadEK (.slice (some ⟨gt, ot, none⟩) mt ct) (s.threads.set p (beginS s t (p : Int)).2) :: l) w') := by
 refine calls_fr Tryz.func112 rfl Tryz.ntmps112 rfl ?_
 intro a hF
 have hl0 := hS.own_len (q := 1) rfl
 have hl1 := hS.own_len (q := 2) rfl
 have hmt : mt = s.threads.length := by have := hS.own_len (q := 3) (s := (some ⟨gt, ot, none⟩, mt, ct)) rfl; simpa using this
 refine ws fun K1 hK1 => ?_
 refine rb 5 0 hF tk hS rfl rfl rfl fun a hF => ?_
 refine wl hF rfl rfl rfl (r_index sl27 (hF.ev rfl) (hF.ev rfl) (by omega) (by first | omega | (dsimp only; omega))) fun a hF => ?_
 refine ra 1 hF tk rfl fun a hF => ?_
 refine wl_nil (hK1 _ _ ?_)
 refine ws fun K2 hK2 => ?_
 refine ra 3 hF tk rfl fun a hF => ?_
 refine wl hF rfl rfl rfl (r_loadn ag25 (hF.ev rfl) (hS.boxn (vs := [_, _, _, _, _, _]) (i := 0) (m := 6) rfl rfl) sz25) fun a hF => ?_
 refine ra 1 hF tk rfl fun a hF => ?_
 refine wl_call hF rfl rfl rfl (r_call2 en124 (hF.ev rfl) (hF.ev rfl)) (specAnnounceCell_c _ _) ?_; clear hF a; rintro v w1 a ⟨rfl, hB_⟩ hF; have hS := hS.ext hB_
 refine ra 1 hF tk rfl fun a hF => ?_
 refine wl_nil (hK2 _ _ ?_)
 refine ws fun K3 hK3 => ?_
 refine ra 3 hF tk rfl fun a hF => ?_
 refine wl hF rfl rfl rfl (r_load1 sc3 (hF.ev rfl) (hS.elt1 (q := 3) (j := 0) hp rfl (fun _ => rfl))) fun a hF => ?_
 refine wl_nil (hK3 _ _ ?_)
 refine wp_block ?_
 refine ws fun K4 hK4 => ?_
 refine ra 2 hF tk rfl fun a hF => ?_
 refine wl_nil (hK4 _ _ ?_)
 refine wc_fx (t := 22) hF rfl ?_ ?_ <;> clear hF <;> intro c22 hF <;> try simp only [zb] at c22
 ·
  refine ws fun K5 hK5 => ?_
  refine rb 5 0 hF tk hS rfl rfl rfl fun a hF => ?_
  obtain ⟨g29, o29, m29, q29, hv29, hm29, hl29, hc29⟩ := Rd.atF ((hS.own_rd (i := 1) rfl)) (a := a) (X := .const (.int .i64 0)) ec (by omega) (by omega)
  refine wl hF rfl rfl rfl (r_index sl26 ((hF.ev rfl).trans hv29) ec (by omega) (by first | omega | (simp at hm29; omega))) fun a hF => ?_
  refine wl hF rfl rfl rfl (r_load1 sc3 (hF.ev rfl) (hc29 0 _ rfl)) fun a hF => ?_
  refine ra 2 hF tk rfl fun a hF => ?_
  refine wl_estore (q := 3) (j := 11) (⟨_, ⟨_, _, _⟩, ⟨_, _⟩, _, _, _, _, _, _, _, _, _, _, _, _, _⟩ : Sl.Thread) hF hS hp rfl sz3 (hF.ev rfl) rfl (hF.ev rfl) rfl (fun _ => rfl) (fun _ => by dsimp only [threadEK, Thread.encv, List.set] <;> rfl) (by intro _; rfl) fun w2 hS => ?_; dsimp only [List.set] at hS
  refine wl_nil (hK5 _ _ ?_)
  refine ws fun K6 hK6 => ?_
  refine ra 3 hF tk rfl fun a hF => ?_
  refine wl_estore (q := 3) (j := 0) (⟨_, ⟨_, _, _⟩, ⟨_, _⟩, _, _, _, _, _, _, _, _, _, _, _, _, _⟩ : Sl.Thread) hF hS hp rfl sz3 (hF.ev rfl) rfl ec rfl (fun _ => rfl) (fun _ => by dsimp only [threadEK, Thread.encv, List.set] <;> rfl) (by intro _; rfl) fun w3 hS => ?_; dsimp only [List.set] at hS
  refine wl_nil (hK6 _ _ ?_)
  refine wp_seq_k fun K7 hK7 => ?_
  refine wp_region_calm (by kernel_rfl) (by kernel_rfl) ?_
  refine qa 3 hF tk rfl fun a hF => ?_
  refine wq hF rfl rfl rfl (fun w_ hB_ => r_load1 sc3 (hF.ev rfl) ((hS.ext hB_).elt1 (q := 3) (j := 11) hp rfl (fun _ => rfl))) fun a hF => ?_
  refine qb 6 0 hF tk hS rfl rfl rfl fun a hF => ?_
  refine wpQuiet_nil ?_; intro w4 hB_; have hS := hS.ext hB_
  refine hK7 _ _ ?_
  refine wc_fx (t := 45) hF rfl ?_ ?_ <;> clear hF <;> intro c45 hF <;> try simp only [zb] at c45
  ·
   refine wp_region_lit ?_
   refine ra 3 hF tk rfl fun a hF => ?_
   refine wl_estore (q := 3) (j := 0) (⟨_, ⟨_, _, _⟩, ⟨_, _⟩, _, _, _, _, _, _, _, _, _, _, _, _, _⟩ : Sl.Thread) hF hS hp rfl sz3 (hF.ev rfl) rfl ec rfl (fun _ => rfl) (fun _ => by dsimp only [threadEK, Thread.encv, List.set] <;> rfl) (by intro _; rfl) fun w5 hS => ?_; dsimp only [List.set] at hS
   refine wl_nil ?_
   try simp only [Exit.then, Exit.inBlock, ↓reduceIte]
   refine ret0n rfl hF ⟨rfl, ?_⟩
   unfold beginS
   rw [if_pos c22, if_pos c45]
   exact hS
  refine wp_skip ?_
  try simp only [Exit.then, Exit.inBlock, ↓reduceIte]
  refine ret0n rfl hF ⟨rfl, ?_⟩
  unfold beginS
  rw [if_pos c22, if_neg c45]
  exact hS
 refine ws fun K8 hK8 => ?_
 refine ra 2 hF tk rfl fun a hF => ?_
 refine wl_nil (hK8 _ _ ?_)
 refine wc_fx (t := 49) hF rfl ?_ ?_ <;> clear hF <;> intro c49 hF <;> try simp only [zb] at c49
 ·
  refine ws fun K9 hK9 => ?_
  refine ra 5 hF tk rfl fun a hF => ?_
  refine wl hF rfl rfl rfl (r_load1 sc3 (hF.ev rfl) (hS.elt1 (q := 3) (j := 11) hp rfl (fun _ => rfl))) fun a hF => ?_
  refine wl_call hF rfl rfl rfl (r_call3 en123 (hF.ev rfl) (hF.ev rfl) (hF.ev rfl)) (l9Put_c (s := s) hS) ?_; clear hF a; rintro v w6 a ⟨rfl, hS⟩ hF
  refine wl_nil (hK9 _ _ ?_)
  refine wp_region_lit ?_
  refine ra 3 hF tk rfl fun a hF => ?_
  refine wl_estore (q := 3) (j := 0) (⟨_, ⟨_, _, _⟩, ⟨_, _⟩, _, _, _, _, _, _, _, _, _, _, _, _, _⟩ : Sl.Thread) hF hS hp rfl sz3 (hF.ev rfl) rfl ec rfl (fun _ => rfl) (fun _ => by dsimp only [threadEK, Thread.encv, List.set] <;> rfl) (by intro _; rfl) fun w7 hS => ?_; dsimp only [List.set] at hS
  refine wl_nil ?_
  try simp only [Exit.then, Exit.inBlock, ↓reduceIte]
  refine ret0n rfl hF ⟨rfl, ?_⟩
  unfold beginS
  rw [if_neg c22, if_pos c49]
  exact hS
 refine ws fun K10 hK10 => ?_
 refine ra 2 hF tk rfl fun a hF => ?_
 refine wl_nil (hK10 _ _ ?_)
 refine wc_fx (t := 61) hF rfl ?_ ?_ <;> clear hF <;> intro c61 hF <;> try simp only [zb] at c61
 ·
  refine ws fun K11 hK11 => ?_
  refine ra 3 hF tk rfl fun a hF => ?_
  refine wl_estore (q := 3) (j := 0) (⟨_, ⟨_, _, _⟩, ⟨_, _⟩, _, _, _, _, _, _, _, _, _, _, _, _, _⟩ : Sl.Thread) hF hS hp rfl sz3 (hF.ev rfl) rfl ec rfl (fun _ => rfl) (fun _ => by dsimp only [threadEK, Thread.encv, List.set] <;> rfl) (by intro _; rfl) fun w8 hS => ?_; dsimp only [List.set] at hS
  refine wl_nil (hK11 _ _ ?_)
  refine wp_seq_k fun K12 hK12 => ?_
  refine wp_region_calm (by kernel_rfl) (by kernel_rfl) ?_
  refine qb 4 0 hF tk hS rfl rfl rfl fun a hF => ?_
  obtain ⟨g70, o70, m70, q70, hv70, hm70, hl70, hc70⟩ := Rd.atF ((hS.own_rd (i := 1) rfl)) (a := a) (X := .const (.int .i64 0)) ec (by omega) (by omega)
  refine wq hF rfl rfl rfl (fun w_ hB_ => r_index sl26 ((hF.ev rfl).trans hv70) ec (by omega) (by first | omega | (simp at hm70; omega))) fun a hF => ?_
  refine wq hF rfl rfl rfl (fun w_ hB_ => r_load1 sc3 (hF.ev rfl) (cellB hB_ (hc70 0 _ rfl))) fun a hF => ?_
  refine qa 3 hF tk rfl fun a hF => ?_
  refine wq hF rfl rfl rfl (fun w_ hB_ => r_load1 sc3 (hF.ev rfl) ((hS.ext hB_).elt1 (q := 3) (j := 11) hp rfl (fun _ => rfl))) fun a hF => ?_
  refine qa 1 hF tk rfl fun a hF => ?_
  refine wpQuiet_nil ?_; intro w9 hB_; have hS := hS.ext hB_
  refine hK12 _ _ ?_
  refine wc_fx (t := 76) hF rfl ?_ ?_ <;> clear hF <;> intro c76 hF <;> try simp only [zb] at c76
  ·
   refine ws fun K13 hK13 => ?_
   refine rb 8 0 hF tk hS rfl rfl rfl fun a hF => ?_
   refine wl_store hF hS (i := 0) rfl sz3 (hF.ev rfl) (hF.ev rfl) rfl rfl fun w10 hS => ?_; dsimp only [List.set, Nat.reduceAdd] at hS
   refine wl_nil (hK13 _ _ ?_)
   refine wp_region_lit ?_
   refine ra 3 hF tk rfl fun a hF => ?_
   refine wl_estore (q := 3) (j := 0) (⟨_, ⟨_, _, _⟩, ⟨_, _⟩, _, _, _, _, _, _, _, _, _, _, _, _, _⟩ : Sl.Thread) hF hS hp rfl sz3 (hF.ev rfl) rfl ec rfl (fun _ => rfl) (fun _ => by dsimp only [threadEK, Thread.encv, List.set] <;> rfl) (by intro _; rfl) fun w11 hS => ?_; dsimp only [List.set] at hS
   refine wl_nil ?_
   try simp only [Exit.then, Exit.inBlock, ↓reduceIte]
   refine ret0n rfl hF ⟨rfl, ?_⟩
   unfold beginS
   rw [if_neg c22, if_neg c49, if_pos c61, if_neg c76]
   exact hS
  refine wp_skip ?_
  try simp only [Exit.then, Exit.inBlock, ↓reduceIte]
  refine ret0n rfl hF ⟨rfl, ?_⟩
  unfold beginS
  rw [if_neg c22, if_neg c49, if_pos c61, if_pos c76]
  exact hS
 refine ws fun K14 hK14 => ?_
 refine ra 2 hF tk rfl fun a hF => ?_
 refine wl_nil (hK14 _ _ ?_)
 refine wc_fx (t := 88) hF rfl ?_ ?_ <;> clear hF <;> intro c88 hF <;> try simp only [zb] at c88
 ·
  refine wp_seq_k fun K15 hK15 => ?_
  refine wp_region_todo (is := [0, 1, 2, 3, 4, 5, 6, 7, 8, 9, 10]) [] [10] (by kernel_rfl) hF hS ⟨trivial, by decide, by decide, by decide⟩ (by kernel_rfl) ?_; clear hF; intro hl_ wd hSd
  refine todo_pure hl_ (by kernel_rfl) rfl (gw0 rfl) rfl rfl rfl (fun a w_ hF => r_move (hF.ev rfl)) ?_
  refine todo_pure hl_ (by kernel_rfl) rfl (gw0 rfl) rfl rfl rfl (fun a w_ hF => r_move (hF.ev rfl)) ?_
  refine todo_pure hl_ (by kernel_rfl) rfl (gw0 rfl) rfl rfl rfl (fun a w_ hF => r_nilCheck (hF.ev rfl)) ?_
  refine todo_pure hl_ (by kernel_rfl) rfl (gw0 rfl) rfl rfl rfl (fun a w_ hF => r_field fo42_8 (hF.ev rfl)) ?_
  refine todo_load [10] hl_ (by kernel_rfl) rfl (gw0 rfl) rfl rfl rfl (fun a w_ hF hB_ => r_load1 sc3 (hF.ev rfl) ((hSd.ext hB_).elt1 (q := 3) (j := 11) hp rfl (fun _ => rfl))) ?_
  refine todo_pure hl_ (by kernel_rfl) rfl (gw0 rfl) rfl rfl rfl (fun a w_ hF => r_move (hF.ev rfl)) ?_
  refine todo_pure hl_ (by kernel_rfl) rfl (gw0 rfl) rfl rfl rfl (fun a w_ hF => r_nilCheck (hF.ev rfl)) ?_
  refine todo_pure hl_ (by kernel_rfl) rfl (gw0 rfl) rfl rfl rfl (fun a w_ hF => r_field fo42_8 (hF.ev rfl)) ?_
  refine todo_load [9, 10] hl_ (by kernel_rfl) rfl (gw0 rfl) rfl rfl rfl (fun a w_ hF hB_ => r_load1 sc3 (hF.ev rfl) ((hSd.ext hB_).elt1 (q := 3) (j := 11) hp rfl (fun _ => rfl))) ?_
  refine todo_pure hl_ (by kernel_rfl) rfl (gw0 rfl) rfl rfl rfl (fun a w_ hF => r_add (hF.ev rfl) ec) ?_
  refine todo_fork [(10, [])] hl_ rfl (by kernel_rfl) (List.forall_mem_cons.2 ⟨?_, fun _ h_ => nomatch h_⟩)
  ·
   refine op_mc (Γ := Unit) (m' := []) rfl (gw0 rfl) rfl rfl rfl (fun a w_ hF => r_call4 en163 (hF.ev rfl) ec (hF.ev rfl) (hF.ev rfl)) (fun w_ hS => calls_unit (l9Swap_c (s := s) hS)) ?_; intro _; try clear hSd; try clear wd; intro wd hSd
   refine todo_fin hl_ rfl (by kernel_rfl) (tl := []) rfl ?_; clear hS a; intro a w12 hF hA_
   have hS := hA_.sep; clear hA_
   clear hl_; try clear hSd
   try dsimp only [List.cons_append, List.nil_append, List.set] at hS
   try clear wd
   refine wl_nil ⟨rfl, ?_⟩
   refine hK15 _ _ ?_
   refine ws fun K16 hK16 => ?_
   refine ra 4 hF tk rfl fun a hF => ?_
   refine wl hF rfl rfl rfl (r_load1 sc3 (hF.ev rfl) (hS.elt1 (q := 3) (j := 11) hp rfl (fun _ => rfl))) fun a hF => ?_
   refine ra 2 hF tk rfl fun a hF => ?_
   refine wl_estore (q := 3) (j := 6) (⟨_, ⟨_, _, _⟩, ⟨_, _⟩, _, _, _, _, _, _, _, _, _, _, _, _, _⟩ : Sl.Thread) hF hS hp rfl sz3 (hF.ev rfl) rfl (hF.ev rfl) rfl (fun _ => rfl) (fun _ => by dsimp only [threadEK, Thread.encv, List.set] <;> rfl) (by intro _; rfl) fun w13 hS => ?_; dsimp only [List.set] at hS
   refine wl_nil (hK16 _ _ ?_)
   refine wp_region_lit ?_
   refine ra 2 hF tk rfl fun a hF => ?_
   replace hS := Sep.headp (A := [_, _, _, _]) (B := [_, _, _, _]) hS [0, 3, 1, 2] (by decide) rfl rfl
   refine wl_call hF rfl rfl rfl (r_call4 en49 (hF.ev rfl) (hF.ev rfl) ec ec) (l10Finish_c (s := swapS s 0 t.seen (IntKind.i64.wrap (t.seen + 1))) hp hS) ?_; clear hF a; rintro v w14 a ⟨rfl, hS⟩ hF
   refine wl_nil ?_
   try simp only [Exit.then, Exit.inBlock, ↓reduceIte]
   refine ret0n rfl hF ⟨rfl, ?_⟩
   unfold beginS
   rw [if_neg c22, if_neg c49, if_neg c61, if_pos c88]
   exact (Sep.headp (A := [_, _, _, _]) (B := [_, _, _, _]) hS [0, 2, 3, 1] (by decide) rfl rfl)
 refine ws fun K17 hK17 => ?_
 refine ra 2 hF tk rfl fun a hF => ?_
 refine wl_nil (hK17 _ _ ?_)
 refine wc_fx (t := 111) hF rfl ?_ ?_ <;> clear hF <;> intro c111 hF <;> try simp only [zb] at c111
 ·
  refine ws fun K18 hK18 => ?_
  refine ra 2 hF tk rfl fun a hF => ?_
  refine wl_call hF rfl rfl rfl (r_call3 en123 (hF.ev rfl) (hF.ev rfl) ec) (l9Put_c (s := s) hS) ?_; clear hF a; rintro v w15 a ⟨rfl, hS⟩ hF
  refine wl_nil (hK18 _ _ ?_)
  refine wp_region_lit ?_
  refine ra 2 hF tk rfl fun a hF => ?_
  replace hS := Sep.headp (A := [_, _, _, _]) (B := [_, _, _, _]) hS [0, 3, 1, 2] (by decide) rfl rfl
  refine wl_call hF rfl rfl rfl (r_call4 en49 (hF.ev rfl) (hF.ev rfl) ec ec) (l10Finish_c (s := putS s (announceCell s.config (p : Int)) 0) hp hS) ?_; clear hF a; rintro v w16 a ⟨rfl, hS⟩ hF
  refine wl_nil ?_
  try simp only [Exit.then, Exit.inBlock, ↓reduceIte]
  refine ret0n rfl hF ⟨rfl, ?_⟩
  unfold beginS
  rw [if_neg c22, if_neg c49, if_neg c61, if_neg c88, if_pos c111]
  exact (Sep.headp (A := [_, _, _, _]) (B := [_, _, _, _]) hS [0, 2, 3, 1] (by decide) rfl rfl)
 refine wp_skip ?_
 try simp only [Exit.then, Exit.inBlock, ↓reduceIte]
 refine ret0n rfl hF ⟨rfl, ?_⟩
 unfold beginS
 rw [if_neg c22, if_neg c49, if_neg c61, if_neg c88, if_neg c111]
 exact hS
set_option maxHeartbeats 4000000 in
set_option maxRecDepth 20000 in
theorem specIsBegin_c {W : World} {n : Int} : Calls Tryz.prog 111 #[vi n] W (Ret fun v w' => v = .bool (isB n) ∧ Below W.heap.size W w') := by
 refine calls_fr Tryz.func111 rfl Tryz.ntmps111 rfl ?_
 intro a hF
 have hS := Sep.refl W
 refine ws fun K1 hK1 => ?_
 refine ra 1 hF tk rfl fun a hF => ?_
 refine wl_nil (hK1 _ _ ?_)
 refine ws fun K2 hK2 => ?_
 refine ra 1 hF tk rfl fun a hF => ?_
 refine wl_call hF rfl rfl rfl (r_call3 en46 (hF.ev rfl) ec ec) (l1In_c _ _ _) ?_; clear hF a; rintro v w1 a ⟨rfl, hB_⟩ hF; have hS := hS.ext hB_
 refine ra 1 hF tk rfl fun a hF => ?_
 refine wl_nil (hK2 _ _ ?_)
 refine wp_ret ?_
 try simp only [Exit.then, Exit.inBlock, ↓reduceIte]
 exact ret1 rfl hF rfl ⟨rfl, hS.old⟩
end Go.Proofs.YtgofolgogfmhgaaGreat.Wk
namespace Go.Proofs.YtgofolgogfmhgaaGreat.Wk
open Go Go.RowKit Sl
set_option linter.unusedVariables false
set_option linter.unusedSimpArgs false
set_option maxRecDepth 20000
def isWr (n : Int) : Bool := decide (30 ≤ n ∧ n ≤ 47)
def scanEndS (s : Sl.State) (t : Sl.Thread) (p : Int) : Sl.State × Sl.Thread := (putS s (announceCell s.config p) 0, endT { t with snapshot := 0 } 0 0)
def stepS (s : Sl.State) (t : Sl.Thread) (p : Int) : Sl.State × Sl.Thread :=
  if isB t.pc = true then beginS s t p
  else if isW t.pc = true then walkS s t p
  else if isR t.pc = true then readS s t p
  else if isWr t.pc = true then if t.pc ≤ 34 then takeS s t p else if t.pc ≤ 42 then headS s t p else ownS s t p
  else if isF t.pc = true then flushS s t p
  else if t.pc = 70 then reclaimS s t p
  else if t.pc = 80 then scanEndS s t p
  else (s, t)
theorem no_true {b : Bool} (h : b = false) : ¬ b = true := by rw [h]; decide
set_option maxHeartbeats 4000000 in
set_option maxRecDepth 20000 in
theorem specIsWrite_c {W : World} {n : Int} : Calls Tryz.prog 117 #[vi n] W (Ret fun v w' => v = .bool (isWr n) ∧ Below W.heap.size W w') := by
 refine calls_fr Tryz.func117 rfl Tryz.ntmps117 rfl ?_
 intro a hF
 have hS := Sep.refl W
 refine ws fun K1 hK1 => ?_
 refine ra 1 hF tk rfl fun a hF => ?_
 refine wl_nil (hK1 _ _ ?_)
 refine ws fun K2 hK2 => ?_
 refine ra 1 hF tk rfl fun a hF => ?_
 refine wl_call hF rfl rfl rfl (r_call3 en46 (hF.ev rfl) ec ec) (l1In_c _ _ _) ?_; clear hF a; rintro v w1 a ⟨rfl, hB_⟩ hF; have hS := hS.ext hB_
 refine ra 1 hF tk rfl fun a hF => ?_
 refine wl_nil (hK2 _ _ ?_)
 refine wp_ret ?_
 try simp only [Exit.then, Exit.inBlock, ↓reduceIte]
 exact ret1 rfl hF rfl ⟨rfl, hS.old⟩
set_option maxHeartbeats 4000000 in
set_option maxRecDepth 20000 in
theorem l17Step_c {W w : World} {l : List Res} {g gt ot mt ct p : Nat} {z0 z1 : Slv} {s : Sl.State} {t : Sl.Thread} (hp : p < s.threads.length) (hf : Fit s t) (hS : Sep W (Box g ((s).encv (sv z0) (sv z1) (.slice (some ⟨gt, ot, none⟩) mt ct)) :: Own intEK (sv z0) (s).cells :: Own intEK (sv z1) (s).generations :: Own threadEK (.slice (some ⟨gt, ot, none⟩) mt ct) (s.threads.set p t) :: l) w) : Calls Tryz.prog 62 #[.pointer (some ⟨g, 0, none⟩), vi (p : Int)] w (Ret fun v w' => v = .tuple #[] ∧ Sep W (Box g (((stepS (stepped s) t (p : Int)).1).encv (sv z0) (sv z1) (.slice (some ⟨gt, ot, none⟩) mt ct)) :: Own intEK (sv z0) ((stepS (stepped s) t (p : Int)).1).cells :: Own intEK (sv z1) ((stepS (stepped s) t (p : Int)).1).generations :: Own threadEK (.slice (some ⟨gt, ot, none⟩) mt ct) (s.threads.set p (stepS (stepped s) t (p : Int)).2) :: l) w') := by
 refine calls_fr Tryz.func62 rfl Tryz.ntmps62 rfl ?_
 intro a hF
 have hl0 := hS.own_len (q := 1) rfl
 have hl1 := hS.own_len (q := 2) rfl
 have hmt : mt = s.threads.length := by have := hS.own_len (q := 3) (s := (some ⟨gt, ot, none⟩, mt, ct)) rfl; simpa using this
 have hlc := hf.two
 refine ws fun K1 hK1 => ?_
 refine rb 5 0 hF tk hS rfl rfl rfl fun a hF => ?_
 refine wl hF rfl rfl rfl (r_index sl27 (hF.ev rfl) (hF.ev rfl) (by omega) (by first | omega | (dsimp only; omega))) fun a hF => ?_
 refine ra 1 hF tk rfl fun a hF => ?_
 refine wl hF rfl rfl rfl (r_load1 sc3 (hF.ev rfl) (hS.elt1 (q := 3) (j := 0) hp rfl (fun _ => rfl))) fun a hF => ?_
 refine ra 1 hF tk rfl fun a hF => ?_
 refine wl_nil (hK1 _ _ ?_)
 refine ws fun K2 hK2 => ?_
 refine rb 8 0 hF tk hS rfl rfl rfl fun a hF => ?_
 refine wl_store hF hS (i := 0) rfl sz3 (hF.ev rfl) (hF.ev rfl) rfl rfl fun w1 hS => ?_; dsimp only [List.set, Nat.reduceAdd] at hS
 refine wl_nil (hK2 _ _ ?_)
 refine wp_block ?_
 refine ws fun K3 hK3 => ?_
 refine ra 1 hF tk rfl fun a hF => ?_
 refine wl_call hF rfl rfl rfl (r_call1 en111 (hF.ev rfl)) (specIsBegin_c) ?_; clear hF a; rintro v w2 a ⟨rfl, hB_⟩ hF; have hS := hS.ext hB_
 refine ra 1 hF tk rfl fun a hF => ?_
 refine wl_nil (hK3 _ _ ?_)
 refine wc_fx (t := 21) hF rfl ?_ ?_ <;> clear hF <;> intro c21 hF <;> try simp only [zb] at c21
 ·
  refine wp_region_lit ?_
  refine ra 2 hF tk rfl fun a hF => ?_
  refine wl_call hF rfl rfl rfl (r_call2 en112 (hF.ev rfl) (hF.ev rfl)) (l11Begin_c (s := stepped s) hp hlc hS) ?_; clear hF a; rintro v w3 a ⟨rfl, hS⟩ hF
  refine wl_nil ?_
  try simp only [Exit.then, Exit.inBlock, ↓reduceIte]
  refine ret0n rfl hF ⟨rfl, ?_⟩
  unfold stepS
  rw [if_pos c21]
  exact hS
 refine ws fun K4 hK4 => ?_
 refine ra 1 hF tk rfl fun a hF => ?_
 refine wl_call hF rfl rfl rfl (r_call1 en113 (hF.ev rfl)) (specIsWalk_c) ?_; clear hF a; rintro v w4 a ⟨rfl, hB_⟩ hF; have hS := hS.ext hB_
 refine ra 1 hF tk rfl fun a hF => ?_
 refine wl_nil (hK4 _ _ ?_)
 refine wc_fx (t := 27) hF rfl ?_ ?_ <;> clear hF <;> intro c27 hF <;> try simp only [zb] at c27
 ·
  refine wp_region_lit ?_
  refine ra 2 hF tk rfl fun a hF => ?_
  refine wl_call hF rfl rfl rfl (r_call2 en114 (hF.ev rfl) (hF.ev rfl)) (l12Walk_c (s := stepped s) hp hf.stepped hS) ?_; clear hF a; rintro v w5 a ⟨rfl, hS⟩ hF
  refine wl_nil ?_
  try simp only [Exit.then, Exit.inBlock, ↓reduceIte]
  refine ret0n rfl hF ⟨rfl, ?_⟩
  unfold stepS
  rw [if_neg (no_true c21), if_pos c27]
  exact hS
 refine ws fun K5 hK5 => ?_
 refine ra 1 hF tk rfl fun a hF => ?_
 refine wl_call hF rfl rfl rfl (r_call1 en115 (hF.ev rfl)) (specIsRead_c) ?_; clear hF a; rintro v w6 a ⟨rfl, hB_⟩ hF; have hS := hS.ext hB_
 refine ra 1 hF tk rfl fun a hF => ?_
 refine wl_nil (hK5 _ _ ?_)
 refine wc_fx (t := 33) hF rfl ?_ ?_ <;> clear hF <;> intro c33 hF <;> try simp only [zb] at c33
 ·
  refine wp_region_lit ?_
  refine ra 2 hF tk rfl fun a hF => ?_
  refine wl_call hF rfl rfl rfl (r_call2 en116 (hF.ev rfl) (hF.ev rfl)) (l13Read_c (s := stepped s) hp hf.stepped hS) ?_; clear hF a; rintro v w7 a ⟨rfl, hS⟩ hF
  refine wl_nil ?_
  try simp only [Exit.then, Exit.inBlock, ↓reduceIte]
  refine ret0n rfl hF ⟨rfl, ?_⟩
  unfold stepS
  rw [if_neg (no_true c21), if_neg (no_true c27), if_pos c33]
  exact hS
 refine ws fun K6 hK6 => ?_
 refine ra 1 hF tk rfl fun a hF => ?_
 refine wl_call hF rfl rfl rfl (r_call1 en117 (hF.ev rfl)) (specIsWrite_c) ?_; clear hF a; rintro v w8 a ⟨rfl, hB_⟩ hF; have hS := hS.ext hB_
 refine ra 1 hF tk rfl fun a hF => ?_
 refine wl_nil (hK6 _ _ ?_)
 refine wc_fx (t := 39) hF rfl ?_ ?_ <;> clear hF <;> intro c39 hF <;> try simp only [zb] at c39
 ·
  refine wp_block ?_
  refine ws fun K7 hK7 => ?_
  refine ra 3 hF tk rfl fun a hF => ?_
  refine wl_nil (hK7 _ _ ?_)
  refine wc_fx (t := 45) hF rfl ?_ ?_ <;> clear hF <;> intro c45 hF <;> try simp only [zb] at c45
  ·
   refine wp_region_lit ?_
   refine ra 2 hF tk rfl fun a hF => ?_
   refine wl_call hF rfl rfl rfl (r_call2 en118 (hF.ev rfl) (hF.ev rfl)) (l14Take_c (s := stepped s) hp hf.stepped hS) ?_; clear hF a; rintro v w9 a ⟨rfl, hS⟩ hF
   refine wl_nil ?_
   try simp only [Exit.then, Exit.inBlock, ↓reduceIte]
   refine ret0n rfl hF ⟨rfl, ?_⟩
   unfold stepS
   rw [if_neg (no_true c21), if_neg (no_true c27), if_neg (no_true c33), if_pos c39, if_pos c45]
   exact hS
  refine ws fun K8 hK8 => ?_
  refine ra 3 hF tk rfl fun a hF => ?_
  refine wl_nil (hK8 _ _ ?_)
  refine wc_fx (t := 51) hF rfl ?_ ?_ <;> clear hF <;> intro c51 hF <;> try simp only [zb] at c51
  ·
   refine wp_region_lit ?_
   refine ra 2 hF tk rfl fun a hF => ?_
   refine wl_call hF rfl rfl rfl (r_call2 en119 (hF.ev rfl) (hF.ev rfl)) (l14Head_c (s := stepped s) hp hf.stepped hS) ?_; clear hF a; rintro v w10 a ⟨rfl, hS⟩ hF
   refine wl_nil ?_
   try simp only [Exit.then, Exit.inBlock, ↓reduceIte]
   refine ret0n rfl hF ⟨rfl, ?_⟩
   unfold stepS
   rw [if_neg (no_true c21), if_neg (no_true c27), if_neg (no_true c33), if_pos c39, if_neg c45, if_pos c51]
   exact hS
  refine wp_region_lit ?_
  refine ra 2 hF tk rfl fun a hF => ?_
  refine wl_call hF rfl rfl rfl (r_call2 en120 (hF.ev rfl) (hF.ev rfl)) (l14Own_c (s := stepped s) hp hf.stepped hS) ?_; clear hF a; rintro v w11 a ⟨rfl, hS⟩ hF
  refine wl_nil ?_
  try simp only [Exit.then, Exit.inBlock, ↓reduceIte]
  refine ret0n rfl hF ⟨rfl, ?_⟩
  unfold stepS
  rw [if_neg (no_true c21), if_neg (no_true c27), if_neg (no_true c33), if_pos c39, if_neg c45, if_neg c51]
  exact hS
 refine ws fun K9 hK9 => ?_
 refine ra 1 hF tk rfl fun a hF => ?_
 refine wl_call hF rfl rfl rfl (r_call1 en121 (hF.ev rfl)) (specIsFlush_c) ?_; clear hF a; rintro v w12 a ⟨rfl, hB_⟩ hF; have hS := hS.ext hB_
 refine ra 1 hF tk rfl fun a hF => ?_
 refine wl_nil (hK9 _ _ ?_)
 refine wc_fx (t := 57) hF rfl ?_ ?_ <;> clear hF <;> intro c57 hF <;> try simp only [zb] at c57
 ·
  refine wp_region_lit ?_
  refine ra 2 hF tk rfl fun a hF => ?_
  refine wl_call hF rfl rfl rfl (r_call2 en122 (hF.ev rfl) (hF.ev rfl)) (l15Flush_c (s := stepped s) hp hf.stepped hS) ?_; clear hF a; rintro v w13 a ⟨rfl, hS⟩ hF
  refine wl_nil ?_
  try simp only [Exit.then, Exit.inBlock, ↓reduceIte]
  refine ret0n rfl hF ⟨rfl, ?_⟩
  unfold stepS
  rw [if_neg (no_true c21), if_neg (no_true c27), if_neg (no_true c33), if_neg (no_true c39), if_pos c57]
  exact hS
 refine ws fun K10 hK10 => ?_
 refine ra 3 hF tk rfl fun a hF => ?_
 refine wl_nil (hK10 _ _ ?_)
 refine wc_fx (t := 63) hF rfl ?_ ?_ <;> clear hF <;> intro c63 hF <;> try simp only [zb] at c63
 ·
  refine wp_region_lit ?_
  refine ra 2 hF tk rfl fun a hF => ?_
  refine wl_call hF rfl rfl rfl (r_call2 en61 (hF.ev rfl) (hF.ev rfl)) (l16Scan_c (s := stepped s) hp hf.stepped hS) ?_; clear hF a; rintro v w14 a ⟨rfl, hS⟩ hF
  refine wl_nil ?_
  try simp only [Exit.then, Exit.inBlock, ↓reduceIte]
  refine ret0n rfl hF ⟨rfl, ?_⟩
  unfold stepS
  rw [if_neg (no_true c21), if_neg (no_true c27), if_neg (no_true c33), if_neg (no_true c39), if_neg (no_true c57), if_pos c63]
  exact hS
 refine ws fun K11 hK11 => ?_
 refine ra 3 hF tk rfl fun a hF => ?_
 refine wl_nil (hK11 _ _ ?_)
 refine wc_fx (t := 69) hF rfl ?_ ?_ <;> clear hF <;> intro c69 hF <;> try simp only [zb] at c69
 ·
  refine ws fun K12 hK12 => ?_
  refine ra 4 hF tk rfl fun a hF => ?_
  refine wl hF rfl rfl rfl (r_loadn ag25 (hF.ev rfl) (hS.boxn (vs := [_, _, _, _, _, _]) (i := 0) (m := 6) rfl rfl) sz25) fun a hF => ?_
  refine ra 1 hF tk rfl fun a hF => ?_
  refine wl_call hF rfl rfl rfl (r_call2 en124 (hF.ev rfl) (hF.ev rfl)) (specAnnounceCell_c _ _) ?_; clear hF a; rintro v w15 a ⟨rfl, hB_⟩ hF; have hS := hS.ext hB_
  refine wl_call hF rfl rfl rfl (r_call3 en123 (hF.ev rfl) (hF.ev rfl) ec) (l9Put_c (s := stepped s) hS) ?_; clear hF a; rintro v w16 a ⟨rfl, hS⟩ hF
  refine wl_nil (hK12 _ _ ?_)
  refine ws fun K13 hK13 => ?_
  refine rb 5 0 hF tk hS rfl rfl rfl fun a hF => ?_
  refine wl hF rfl rfl rfl (r_index sl27 (hF.ev rfl) (hF.ev rfl) (by omega) (by first | omega | (dsimp only; omega))) fun a hF => ?_
  refine ra 1 hF tk rfl fun a hF => ?_
  refine wl_estore (q := 3) (j := 6) (⟨_, ⟨_, _, _⟩, ⟨_, _⟩, _, _, _, _, _, _, _, _, _, _, _, _, _⟩ : Sl.Thread) hF hS hp rfl sz3 (hF.ev rfl) rfl ec rfl (fun _ => rfl) (fun _ => by dsimp only [threadEK, Thread.encv, List.set] <;> rfl) (by intro _; rfl) fun w17 hS => ?_; dsimp only [List.set] at hS
  refine wl_nil (hK13 _ _ ?_)
  refine wp_region_lit ?_
  refine ra 2 hF tk rfl fun a hF => ?_
  replace hS := Sep.headp (A := [_, _, _, _]) (B := [_, _, _, _]) hS [0, 3, 1, 2] (by decide) rfl rfl
  refine wl_call hF rfl rfl rfl (r_call4 en49 (hF.ev rfl) (hF.ev rfl) ec ec) (l10Finish_c (s := putS (stepped s) (announceCell s.config (p : Int)) 0) hp hS) ?_; clear hF a; rintro v w18 a ⟨rfl, hS⟩ hF
  refine wl_nil ?_
  try simp only [Exit.then, Exit.inBlock, ↓reduceIte]
  refine ret0n rfl hF ⟨rfl, ?_⟩
  unfold stepS
  rw [if_neg (no_true c21), if_neg (no_true c27), if_neg (no_true c33), if_neg (no_true c39), if_neg (no_true c57), if_neg c63, if_pos c69]
  exact (Sep.headp (A := [_, _, _, _]) (B := [_, _, _, _]) hS [0, 2, 3, 1] (by decide) rfl rfl)
 refine wp_skip ?_
 try simp only [Exit.then, Exit.inBlock, ↓reduceIte]
 refine ret0n rfl hF ⟨rfl, ?_⟩
 unfold stepS
 rw [if_neg (no_true c21), if_neg (no_true c27), if_neg (no_true c33), if_neg (no_true c39), if_neg (no_true c57), if_neg c63, if_neg c69]
 exact hS
end Go.Proofs.YtgofolgogfmhgaaGreat.Wk
namespace Go.Proofs.YtgofolgogfmhgaaGreat.Wk
open Go Go.RowKit Sl
set_option linter.unusedVariables false
set_option linter.unusedSimpArgs false
set_option maxRecDepth 20000
/-- what every step keeps -/
structure KS (s x : Sl.State) : Prop where
  cf : x.config = s.config
  th : x.threads = s.threads
  lc : x.cells.length = s.cells.length
  lg : x.generations.length = s.generations.length
  wc : ∀ y ∈ x.cells, int64 y
  wg : ∀ y ∈ x.generations, int64 y
  ws : int64 x.steps
  wh : int64 x.changes
  wr : int64 x.retries
  wf : int64 x.faults
theorem int64_wrap (n : Int) : int64 (IntKind.i64.wrap n) := by rw [w64]; unfold int64; omega
theorem int64_ite {c : Prop} [Decidable c] {a b : Int} (ha : int64 a) (hb : int64 b) : int64 (if c then a else b) := by split <;> assumption
theorem int64_marked {h : Int} (h1 : int64 h) : int64 (marked h) := by unfold marked; split <;> first | exact int64_wrap _ | exact h1
theorem int64_indexOf {h : Int} (h1 : int64 h) : int64 (indexOf h) := by unfold indexOf; unfold int64 at *; split <;> omega
theorem int64_makeHandle {i g : Int} : int64 (makeHandle i g) := by unfold makeHandle; split <;> first | exact int64_wrap _ | (unfold int64; omega)
theorem mem_putC {xs : List Int} {a v : Int} (h : ∀ y ∈ xs, int64 y) (hv : int64 v) : ∀ y ∈ putC xs a v, int64 y := by
 intro y hy
 unfold putC at hy
 split at hy
 · rcases List.mem_or_eq_of_mem_set hy with h1 | h1
   · exact h y h1
   · subst h1; exact hv
 · exact h y hy
theorem int64_putN {xs : List Int} {a v n : Int} (h : int64 n) : int64 (putN xs a v n) := by unfold putN; split <;> first | exact int64_wrap _ | exact h
section
variable {s x : Sl.State} {t : Sl.Thread} {a u v h n p : Int}
theorem KS.put (k : KS s x) (hv : int64 v) : KS s (putS x a v) := ⟨k.cf, k.th, (putC_len).trans k.lc, k.lg, mem_putC k.wc hv, k.wg, k.ws, int64_putN k.wh, k.wr, k.wf⟩
theorem KS.swap (k : KS s x) (hv : int64 v) : KS s (swapS x a u v) := by
 refine ⟨k.cf, k.th, ?_, k.lg, ?_, k.wg, k.ws, ?_, k.wr, k.wf⟩ <;> unfold swapS <;> dsimp only <;> split
 · exact (putC_len).trans k.lc
 · exact k.lc
 · exact mem_putC k.wc hv
 · exact k.wc
 · exact int64_putN k.wh
 · exact k.wh
theorem KS.fault (k : KS s x) : KS s (faultS x h) := ⟨k.cf, k.th, k.lc, k.lg, k.wc, k.wg, k.ws, k.wh, k.wr, int64_ite k.wf (int64_wrap _)⟩
theorem KS.prev (k : KS s x) : KS s (prevS x t) := ⟨k.cf, k.th, k.lc, k.lg, k.wc, k.wg, k.ws, k.wh, k.wr, int64_ite k.wf (int64_ite k.wf (int64_wrap _))⟩
theorem KS.retry (k : KS s x) : KS s { x with retries := IntKind.i64.wrap n } := ⟨k.cf, k.th, k.lc, k.lg, k.wc, k.wg, k.ws, k.wh, int64_wrap _, k.wf⟩
theorem KS.stepped (k : KS s x) : KS s (stepped x) := ⟨k.cf, k.th, k.lc, k.lg, k.wc, k.wg, int64_wrap _, k.wh, k.wr, k.wf⟩
/-- a thread that takes a node has seen a number of a node -/
def P31 (c : Config) (t : Sl.Thread) : Prop := t.pc = 31 → 0 ≤ t.seen ∧ t.seen < c.capacity
def SOk (s : Sl.State) (z : Sl.State × Sl.Thread) : Prop := KS s z.1 ∧ z.2.wf ∧ P31 s.config z.2
theorem wf_end {c x : Int} (hw : t.wf) (hc : int64 c) (hx : int64 x) : (endT t c x).wf := by
 obtain ⟨h1, h2, h3, h4, h5, h6, h7, h8, h9, h10, h11, h12, h13, h14, h15, h16⟩ := hw
 unfold endT clearT
 exact ⟨int64_zero, h2, ⟨hc, hx⟩, h4, int64_zero, int64_zero, int64_zero, int64_zero, int64_zero, int64_zero, int64_zero, (fun _ h => by cases h), h13, h14, h15, h16⟩
theorem p31_end {c : Config} {a b : Int} : P31 c (endT t a b) := fun h => by unfold endT at h; simp at h
end
theorem int64_at0 {xs : List Int} {i : Int} (h : ∀ y ∈ xs, int64 y) : int64 (at0 xs i) := by
 unfold at0
 cases e : xs[i.toNat]? with
 | none => exact int64_zero
 | some y => exact h y (List.mem_of_getElem? e)
theorem beginS_ok {s x : Sl.State} {t : Sl.Thread} {p : Int} (k : KS s x) (hw : t.wf) (hi : P31 s.config t) : SOk s (beginS x t p) := by
 have hwc := k.wc; have hwg := k.wg
 have hct := k.cf
 obtain ⟨h1, h2, h3, h4, h5, h6, h7, h8, h9, h10, h11, h12, h13, h14, h15, h16⟩ := id hw
 have ho1 := h2.1; have ho2 := h2.2.1; have ho3 := h2.2.2; have hr1 := h3.1; have hr2 := h3.2
 have h00 : int64 (at0 x.cells 0) := int64_at0 hwc
 have h01 : int64 (at0 x.cells 1) := int64_at0 hwc
 unfold beginS
 repeat' split
 all_goals refine ⟨?_, ?_, ?_⟩
 all_goals try dsimp only
 all_goals first
   | exact wf_end (t := { t with snapshot := t.seen }) ⟨h1, h2, h3, h9, h5, h6, h7, h8, h9, h10, h11, h12, h13, h14, h15, h16⟩ (by unfold int64; omega) (by unfold int64; omega)
   | (first
      | exact k
      | exact k.put (by first | assumption | exact int64_makeHandle | (unfold int64; omega) | (unfold int64; dsimp only; omega) | exact int64_wrap _ | exact int64_loadC (by assumption) | exact int64_unmarked (by assumption) | exact int64_unmarked (int64_loadC (by assumption)) | exact int64_marked (by assumption))
      | exact k.fault
      | exact k.retry
      | exact k.prev
      | exact k.fault.put (by first | assumption | exact int64_makeHandle | (unfold int64; omega) | (unfold int64; dsimp only; omega) | exact int64_wrap _ | exact int64_loadC (by assumption) | exact int64_unmarked (by assumption) | exact int64_unmarked (int64_loadC (by assumption)) | exact int64_marked (by assumption))
      | exact k.swap (by first | assumption | exact int64_makeHandle | (unfold int64; omega) | (unfold int64; dsimp only; omega) | exact int64_wrap _ | exact int64_loadC (by assumption) | exact int64_unmarked (by assumption) | exact int64_unmarked (int64_loadC (by assumption)) | exact int64_marked (by assumption))
      | exact k.fault.swap (by first | assumption | exact int64_makeHandle | (unfold int64; omega) | (unfold int64; dsimp only; omega) | exact int64_wrap _ | exact int64_loadC (by assumption) | exact int64_unmarked (by assumption) | exact int64_unmarked (int64_loadC (by assumption)) | exact int64_marked (by assumption))
      | exact k.prev.swap (by first | assumption | exact int64_makeHandle | (unfold int64; omega) | (unfold int64; dsimp only; omega) | exact int64_wrap _ | exact int64_loadC (by assumption) | exact int64_unmarked (by assumption) | exact int64_unmarked (int64_loadC (by assumption)) | exact int64_marked (by assumption))
      | exact k.prev.retry
      | exact (k.swap (by first | assumption | exact int64_makeHandle | (unfold int64; omega) | (unfold int64; dsimp only; omega) | exact int64_wrap _ | exact int64_loadC (by assumption) | exact int64_unmarked (by assumption) | exact int64_unmarked (int64_loadC (by assumption)) | exact int64_marked (by assumption))).retry
      | exact (k.fault.swap (by first | assumption | exact int64_makeHandle | (unfold int64; omega) | (unfold int64; dsimp only; omega) | exact int64_wrap _ | exact int64_loadC (by assumption) | exact int64_unmarked (by assumption) | exact int64_unmarked (int64_loadC (by assumption)) | exact int64_marked (by assumption))).retry
      | exact (k.prev.swap (by first | assumption | exact int64_makeHandle | (unfold int64; omega) | (unfold int64; dsimp only; omega) | exact int64_wrap _ | exact int64_loadC (by assumption) | exact int64_unmarked (by assumption) | exact int64_unmarked (int64_loadC (by assumption)) | exact int64_marked (by assumption))).retry
      done)
   | exact hi
   | exact p31_end
   | (intro h; exfalso; revert h; dsimp only; first | omega | (split <;> omega) | (split <;> (try split) <;> omega))
   | exact wf_end hw (by first | assumption | exact int64_makeHandle | (unfold int64; omega) | (unfold int64; dsimp only; omega) | exact int64_wrap _ | exact int64_loadC (by assumption) | exact int64_unmarked (by assumption) | exact int64_unmarked (int64_loadC (by assumption)) | exact int64_marked (by assumption)) (by first | assumption | exact int64_makeHandle | (unfold int64; omega) | (unfold int64; dsimp only; omega) | exact int64_wrap _ | exact int64_loadC (by assumption) | exact int64_unmarked (by assumption) | exact int64_unmarked (int64_loadC (by assumption)) | exact int64_marked (by assumption))
   | (refine ⟨?_, ?_, ?_, ?_, ?_, ?_, ?_, ?_, ?_, ?_, ?_, ?_, ?_, ?_, ?_, ?_⟩ <;> (try dsimp only) <;> first | first | assumption | exact int64_makeHandle | (unfold int64; omega) | (unfold int64; dsimp only; omega) | exact int64_wrap _ | exact int64_loadC (by assumption) | exact int64_unmarked (by assumption) | exact int64_unmarked (int64_loadC (by assumption)) | exact int64_marked (by assumption) | exact int64_ite (by first | assumption | exact int64_makeHandle | (unfold int64; omega) | (unfold int64; dsimp only; omega) | exact int64_wrap _ | exact int64_loadC (by assumption) | exact int64_unmarked (by assumption) | exact int64_unmarked (int64_loadC (by assumption)) | exact int64_marked (by assumption)) (by first | assumption | exact int64_makeHandle | (unfold int64; omega) | (unfold int64; dsimp only; omega) | exact int64_wrap _ | exact int64_loadC (by assumption) | exact int64_unmarked (by assumption) | exact int64_unmarked (int64_loadC (by assumption)) | exact int64_marked (by assumption)) | exact int64_ite (by first | assumption | exact int64_makeHandle | (unfold int64; omega) | (unfold int64; dsimp only; omega) | exact int64_wrap _ | exact int64_loadC (by assumption) | exact int64_unmarked (by assumption) | exact int64_unmarked (int64_loadC (by assumption)) | exact int64_marked (by assumption)) (int64_ite (by first | assumption | exact int64_makeHandle | (unfold int64; omega) | (unfold int64; dsimp only; omega) | exact int64_wrap _ | exact int64_loadC (by assumption) | exact int64_unmarked (by assumption) | exact int64_unmarked (int64_loadC (by assumption)) | exact int64_marked (by assumption)) (by first | assumption | exact int64_makeHandle | (unfold int64; omega) | (unfold int64; dsimp only; omega) | exact int64_wrap _ | exact int64_loadC (by assumption) | exact int64_unmarked (by assumption) | exact int64_unmarked (int64_loadC (by assumption)) | exact int64_marked (by assumption))) | (refine ⟨?_, ?_⟩ <;> first | assumption | exact int64_makeHandle | (unfold int64; omega) | (unfold int64; dsimp only; omega) | exact int64_wrap _ | exact int64_loadC (by assumption) | exact int64_unmarked (by assumption) | exact int64_unmarked (int64_loadC (by assumption)) | exact int64_marked (by assumption)))
theorem wf_clear {t : Sl.Thread} {n : Int} (hw : t.wf) (hn : int64 n) : ({ clearT t with pc := n } : Sl.Thread).wf := by
 obtain ⟨h1, h2, h3, h4, h5, h6, h7, h8, h9, h10, h11, h12, h13, h14, h15, h16⟩ := hw
 unfold clearT
 exact ⟨hn, h2, h3, h4, int64_zero, int64_zero, int64_zero, int64_zero, int64_zero, int64_zero, int64_zero, (fun _ h => by cases h), h13, h14, h15, h16⟩
theorem all_snoc {α : Type} {P : α → Prop} {xs : List α} {y : α} (h : ∀ x ∈ xs, P x) (hy : P y) : ∀ x ∈ xs ++ [y], P x := by
 intro x hx
 rcases List.mem_append.1 hx with h1 | h1
 · exact h x h1
 · rw [List.mem_singleton.1 h1]; exact hy
theorem goT_wf {t : Sl.Thread} (hw : t.wf) : (goT t).wf := by
 obtain ⟨h1, h2, h3, h4, h5, h6, h7, h8, h9, h10, h11, h12, h13, h14, h15, h16⟩ := hw
 have hd : ∀ x ∈ t.work.drop 1, x.wf := fun x hx => h15 x (List.mem_of_mem_drop hx)
 unfold goT
 split
 · split
   · exact ⟨by unfold int64; dsimp only; omega, h2, ⟨by unfold int64; dsimp only; omega, by unfold int64; dsimp only; omega⟩, h4, h5, h6, h7, h8, h9, h10, h11, h12, h13, h14, h15, h16⟩
   split
   · rename_i hl
     exact ⟨int64_ite (by unfold int64; omega) (by unfold int64; omega), h2, h3, h4, h5, h6, h7, h8, h9, h10, h11, h12, h13, h14, hd, all_snoc h16 (h15 _ (at0_mem (by omega) (by omega))).1⟩
   · exact ⟨by unfold int64; dsimp only; omega, h2, h3, h4, h5, h6, h7, h8, h9, h10, h11, h12, h13, h14, h15, h16⟩
 · exact ⟨by unfold int64; dsimp only; omega, h2, h3, h4, h5, h6, h7, h8, h9, h10, h11, h12, h13, h14, h15, h16⟩
theorem p31_goT {c : Config} {t : Sl.Thread} : P31 c (goT t) := by
 unfold goT
 split
 · split
   · intro h; simp at h
   split
   · intro h; exfalso; revert h; dsimp only; split <;> omega
   · intro h; simp at h
 · intro h; simp at h
theorem walkS_ok {s x : Sl.State} {t : Sl.Thread} {p : Int} (k : KS s x) (hw : t.wf) (hi : P31 s.config t) : SOk s (walkS x t p) := by
 have hwc := k.wc; have hwg := k.wg
 have hct := k.cf
 obtain ⟨h1, h2, h3, h4, h5, h6, h7, h8, h9, h10, h11, h12, h13, h14, h15, h16⟩ := id hw
 have ho1 := h2.1; have ho2 := h2.2.1; have ho3 := h2.2.2; have hr1 := h3.1; have hr2 := h3.2
 have h00 : int64 (at0 x.cells 0) := int64_at0 hwc
 have h01 : int64 (at0 x.cells 1) := int64_at0 hwc
 unfold walkS
 repeat' split
 all_goals refine ⟨?_, ?_, ?_⟩
 all_goals try dsimp only
 all_goals first
   | exact p31_goT
   | (refine goT_wf ?_; refine ⟨?_, ?_, ?_, ?_, ?_, ?_, ?_, ?_, ?_, ?_, ?_, ?_, ?_, ?_, ?_, ?_⟩ <;> (try dsimp only) <;> first | first | assumption | exact int64_makeHandle | (unfold int64; omega) | (unfold int64; dsimp only; omega) | exact int64_wrap _ | exact int64_loadC (by assumption) | exact int64_unmarked (by assumption) | exact int64_unmarked (int64_loadC (by assumption)) | exact int64_marked (by assumption) | (refine ⟨?_, ?_⟩ <;> first | assumption | exact int64_makeHandle | (unfold int64; omega) | (unfold int64; dsimp only; omega) | exact int64_wrap _ | exact int64_loadC (by assumption) | exact int64_unmarked (by assumption) | exact int64_unmarked (int64_loadC (by assumption)) | exact int64_marked (by assumption)))
   | (first
      | exact k
      | exact k.put (by first | assumption | exact int64_makeHandle | (unfold int64; omega) | (unfold int64; dsimp only; omega) | exact int64_wrap _ | exact int64_loadC (by assumption) | exact int64_unmarked (by assumption) | exact int64_unmarked (int64_loadC (by assumption)) | exact int64_marked (by assumption))
      | exact k.fault
      | exact k.retry
      | exact k.prev
      | exact k.fault.put (by first | assumption | exact int64_makeHandle | (unfold int64; omega) | (unfold int64; dsimp only; omega) | exact int64_wrap _ | exact int64_loadC (by assumption) | exact int64_unmarked (by assumption) | exact int64_unmarked (int64_loadC (by assumption)) | exact int64_marked (by assumption))
      | exact k.swap (by first | assumption | exact int64_makeHandle | (unfold int64; omega) | (unfold int64; dsimp only; omega) | exact int64_wrap _ | exact int64_loadC (by assumption) | exact int64_unmarked (by assumption) | exact int64_unmarked (int64_loadC (by assumption)) | exact int64_marked (by assumption))
      | exact k.fault.swap (by first | assumption | exact int64_makeHandle | (unfold int64; omega) | (unfold int64; dsimp only; omega) | exact int64_wrap _ | exact int64_loadC (by assumption) | exact int64_unmarked (by assumption) | exact int64_unmarked (int64_loadC (by assumption)) | exact int64_marked (by assumption))
      | exact k.prev.swap (by first | assumption | exact int64_makeHandle | (unfold int64; omega) | (unfold int64; dsimp only; omega) | exact int64_wrap _ | exact int64_loadC (by assumption) | exact int64_unmarked (by assumption) | exact int64_unmarked (int64_loadC (by assumption)) | exact int64_marked (by assumption))
      | exact k.prev.retry
      | exact (k.swap (by first | assumption | exact int64_makeHandle | (unfold int64; omega) | (unfold int64; dsimp only; omega) | exact int64_wrap _ | exact int64_loadC (by assumption) | exact int64_unmarked (by assumption) | exact int64_unmarked (int64_loadC (by assumption)) | exact int64_marked (by assumption))).retry
      | exact (k.fault.swap (by first | assumption | exact int64_makeHandle | (unfold int64; omega) | (unfold int64; dsimp only; omega) | exact int64_wrap _ | exact int64_loadC (by assumption) | exact int64_unmarked (by assumption) | exact int64_unmarked (int64_loadC (by assumption)) | exact int64_marked (by assumption))).retry
      | exact (k.prev.swap (by first | assumption | exact int64_makeHandle | (unfold int64; omega) | (unfold int64; dsimp only; omega) | exact int64_wrap _ | exact int64_loadC (by assumption) | exact int64_unmarked (by assumption) | exact int64_unmarked (int64_loadC (by assumption)) | exact int64_marked (by assumption))).retry
      done)
   | exact hi
   | exact p31_end
   | (intro h; exfalso; revert h; dsimp only; first | omega | (split <;> omega) | (split <;> (try split) <;> omega))
   | exact wf_end hw (by first | assumption | exact int64_makeHandle | (unfold int64; omega) | (unfold int64; dsimp only; omega) | exact int64_wrap _ | exact int64_loadC (by assumption) | exact int64_unmarked (by assumption) | exact int64_unmarked (int64_loadC (by assumption)) | exact int64_marked (by assumption)) (by first | assumption | exact int64_makeHandle | (unfold int64; omega) | (unfold int64; dsimp only; omega) | exact int64_wrap _ | exact int64_loadC (by assumption) | exact int64_unmarked (by assumption) | exact int64_unmarked (int64_loadC (by assumption)) | exact int64_marked (by assumption))
   | (refine ⟨?_, ?_, ?_, ?_, ?_, ?_, ?_, ?_, ?_, ?_, ?_, ?_, ?_, ?_, ?_, ?_⟩ <;> (try dsimp only) <;> first | first | assumption | exact int64_makeHandle | (unfold int64; omega) | (unfold int64; dsimp only; omega) | exact int64_wrap _ | exact int64_loadC (by assumption) | exact int64_unmarked (by assumption) | exact int64_unmarked (int64_loadC (by assumption)) | exact int64_marked (by assumption) | exact int64_ite (by first | assumption | exact int64_makeHandle | (unfold int64; omega) | (unfold int64; dsimp only; omega) | exact int64_wrap _ | exact int64_loadC (by assumption) | exact int64_unmarked (by assumption) | exact int64_unmarked (int64_loadC (by assumption)) | exact int64_marked (by assumption)) (by first | assumption | exact int64_makeHandle | (unfold int64; omega) | (unfold int64; dsimp only; omega) | exact int64_wrap _ | exact int64_loadC (by assumption) | exact int64_unmarked (by assumption) | exact int64_unmarked (int64_loadC (by assumption)) | exact int64_marked (by assumption)) | exact int64_ite (by first | assumption | exact int64_makeHandle | (unfold int64; omega) | (unfold int64; dsimp only; omega) | exact int64_wrap _ | exact int64_loadC (by assumption) | exact int64_unmarked (by assumption) | exact int64_unmarked (int64_loadC (by assumption)) | exact int64_marked (by assumption)) (int64_ite (by first | assumption | exact int64_makeHandle | (unfold int64; omega) | (unfold int64; dsimp only; omega) | exact int64_wrap _ | exact int64_loadC (by assumption) | exact int64_unmarked (by assumption) | exact int64_unmarked (int64_loadC (by assumption)) | exact int64_marked (by assumption)) (by first | assumption | exact int64_makeHandle | (unfold int64; omega) | (unfold int64; dsimp only; omega) | exact int64_wrap _ | exact int64_loadC (by assumption) | exact int64_unmarked (by assumption) | exact int64_unmarked (int64_loadC (by assumption)) | exact int64_marked (by assumption))) | (refine ⟨?_, ?_⟩ <;> first | assumption | exact int64_makeHandle | (unfold int64; omega) | (unfold int64; dsimp only; omega) | exact int64_wrap _ | exact int64_loadC (by assumption) | exact int64_unmarked (by assumption) | exact int64_unmarked (int64_loadC (by assumption)) | exact int64_marked (by assumption)))
theorem readS_ok {s x : Sl.State} {t : Sl.Thread} {p : Int} (k : KS s x) (hw : t.wf) (hi : P31 s.config t) : SOk s (readS x t p) := by
 have hwc := k.wc; have hwg := k.wg
 have hct := k.cf
 obtain ⟨h1, h2, h3, h4, h5, h6, h7, h8, h9, h10, h11, h12, h13, h14, h15, h16⟩ := id hw
 have ho1 := h2.1; have ho2 := h2.2.1; have ho3 := h2.2.2; have hr1 := h3.1; have hr2 := h3.2
 have h00 : int64 (at0 x.cells 0) := int64_at0 hwc
 have h01 : int64 (at0 x.cells 1) := int64_at0 hwc
 unfold readS
 repeat' split
 all_goals refine ⟨?_, ?_, ?_⟩
 all_goals try dsimp only
 all_goals first
   | (first
      | exact k
      | exact k.put (by first | assumption | exact int64_makeHandle | (unfold int64; omega) | (unfold int64; dsimp only; omega) | exact int64_wrap _ | exact int64_loadC (by assumption) | exact int64_unmarked (by assumption) | exact int64_unmarked (int64_loadC (by assumption)) | exact int64_marked (by assumption))
      | exact k.fault
      | exact k.retry
      | exact k.prev
      | exact k.fault.put (by first | assumption | exact int64_makeHandle | (unfold int64; omega) | (unfold int64; dsimp only; omega) | exact int64_wrap _ | exact int64_loadC (by assumption) | exact int64_unmarked (by assumption) | exact int64_unmarked (int64_loadC (by assumption)) | exact int64_marked (by assumption))
      | exact k.swap (by first | assumption | exact int64_makeHandle | (unfold int64; omega) | (unfold int64; dsimp only; omega) | exact int64_wrap _ | exact int64_loadC (by assumption) | exact int64_unmarked (by assumption) | exact int64_unmarked (int64_loadC (by assumption)) | exact int64_marked (by assumption))
      | exact k.fault.swap (by first | assumption | exact int64_makeHandle | (unfold int64; omega) | (unfold int64; dsimp only; omega) | exact int64_wrap _ | exact int64_loadC (by assumption) | exact int64_unmarked (by assumption) | exact int64_unmarked (int64_loadC (by assumption)) | exact int64_marked (by assumption))
      | exact k.prev.swap (by first | assumption | exact int64_makeHandle | (unfold int64; omega) | (unfold int64; dsimp only; omega) | exact int64_wrap _ | exact int64_loadC (by assumption) | exact int64_unmarked (by assumption) | exact int64_unmarked (int64_loadC (by assumption)) | exact int64_marked (by assumption))
      | exact k.prev.retry
      | exact (k.swap (by first | assumption | exact int64_makeHandle | (unfold int64; omega) | (unfold int64; dsimp only; omega) | exact int64_wrap _ | exact int64_loadC (by assumption) | exact int64_unmarked (by assumption) | exact int64_unmarked (int64_loadC (by assumption)) | exact int64_marked (by assumption))).retry
      | exact (k.fault.swap (by first | assumption | exact int64_makeHandle | (unfold int64; omega) | (unfold int64; dsimp only; omega) | exact int64_wrap _ | exact int64_loadC (by assumption) | exact int64_unmarked (by assumption) | exact int64_unmarked (int64_loadC (by assumption)) | exact int64_marked (by assumption))).retry
      | exact (k.prev.swap (by first | assumption | exact int64_makeHandle | (unfold int64; omega) | (unfold int64; dsimp only; omega) | exact int64_wrap _ | exact int64_loadC (by assumption) | exact int64_unmarked (by assumption) | exact int64_unmarked (int64_loadC (by assumption)) | exact int64_marked (by assumption))).retry
      done)
   | exact hi
   | exact p31_end
   | (intro h; exfalso; revert h; dsimp only; first | omega | (split <;> omega) | (split <;> (try split) <;> omega))
   | exact wf_end hw (by first | assumption | exact int64_makeHandle | (unfold int64; omega) | (unfold int64; dsimp only; omega) | exact int64_wrap _ | exact int64_loadC (by assumption) | exact int64_unmarked (by assumption) | exact int64_unmarked (int64_loadC (by assumption)) | exact int64_marked (by assumption)) (by first | assumption | exact int64_makeHandle | (unfold int64; omega) | (unfold int64; dsimp only; omega) | exact int64_wrap _ | exact int64_loadC (by assumption) | exact int64_unmarked (by assumption) | exact int64_unmarked (int64_loadC (by assumption)) | exact int64_marked (by assumption))
   | (refine ⟨?_, ?_, ?_, ?_, ?_, ?_, ?_, ?_, ?_, ?_, ?_, ?_, ?_, ?_, ?_, ?_⟩ <;> (try dsimp only) <;> first | first | assumption | exact int64_makeHandle | (unfold int64; omega) | (unfold int64; dsimp only; omega) | exact int64_wrap _ | exact int64_loadC (by assumption) | exact int64_unmarked (by assumption) | exact int64_unmarked (int64_loadC (by assumption)) | exact int64_marked (by assumption) | exact int64_ite (by first | assumption | exact int64_makeHandle | (unfold int64; omega) | (unfold int64; dsimp only; omega) | exact int64_wrap _ | exact int64_loadC (by assumption) | exact int64_unmarked (by assumption) | exact int64_unmarked (int64_loadC (by assumption)) | exact int64_marked (by assumption)) (by first | assumption | exact int64_makeHandle | (unfold int64; omega) | (unfold int64; dsimp only; omega) | exact int64_wrap _ | exact int64_loadC (by assumption) | exact int64_unmarked (by assumption) | exact int64_unmarked (int64_loadC (by assumption)) | exact int64_marked (by assumption)) | exact int64_ite (by first | assumption | exact int64_makeHandle | (unfold int64; omega) | (unfold int64; dsimp only; omega) | exact int64_wrap _ | exact int64_loadC (by assumption) | exact int64_unmarked (by assumption) | exact int64_unmarked (int64_loadC (by assumption)) | exact int64_marked (by assumption)) (int64_ite (by first | assumption | exact int64_makeHandle | (unfold int64; omega) | (unfold int64; dsimp only; omega) | exact int64_wrap _ | exact int64_loadC (by assumption) | exact int64_unmarked (by assumption) | exact int64_unmarked (int64_loadC (by assumption)) | exact int64_marked (by assumption)) (by first | assumption | exact int64_makeHandle | (unfold int64; omega) | (unfold int64; dsimp only; omega) | exact int64_wrap _ | exact int64_loadC (by assumption) | exact int64_unmarked (by assumption) | exact int64_unmarked (int64_loadC (by assumption)) | exact int64_marked (by assumption))) | (refine ⟨?_, ?_⟩ <;> first | assumption | exact int64_makeHandle | (unfold int64; omega) | (unfold int64; dsimp only; omega) | exact int64_wrap _ | exact int64_loadC (by assumption) | exact int64_unmarked (by assumption) | exact int64_unmarked (int64_loadC (by assumption)) | exact int64_marked (by assumption)))
theorem takeS_ok {s x : Sl.State} {t : Sl.Thread} {p : Int} (k : KS s x) (hw : t.wf) (hz : 0 ≤ at0 x.cells 1) (hi : P31 s.config t) : SOk s (takeS x t p) := by
 have hwc := k.wc; have hwg := k.wg
 have hct := k.cf
 obtain ⟨h1, h2, h3, h4, h5, h6, h7, h8, h9, h10, h11, h12, h13, h14, h15, h16⟩ := id hw
 have ho1 := h2.1; have ho2 := h2.2.1; have ho3 := h2.2.2; have hr1 := h3.1; have hr2 := h3.2
 have h00 : int64 (at0 x.cells 0) := int64_at0 hwc
 have h01 : int64 (at0 x.cells 1) := int64_at0 hwc
 unfold takeS
 repeat' split
 all_goals refine ⟨?_, ?_, ?_⟩
 all_goals try dsimp only
 all_goals first
   | (intro _; dsimp only; rw [← hct]; omega)
   | (first
      | exact k
      | exact k.put (by first | assumption | exact int64_makeHandle | (unfold int64; omega) | (unfold int64; dsimp only; omega) | exact int64_wrap _ | exact int64_loadC (by assumption) | exact int64_unmarked (by assumption) | exact int64_unmarked (int64_loadC (by assumption)) | exact int64_marked (by assumption))
      | exact k.fault
      | exact k.retry
      | exact k.prev
      | exact k.fault.put (by first | assumption | exact int64_makeHandle | (unfold int64; omega) | (unfold int64; dsimp only; omega) | exact int64_wrap _ | exact int64_loadC (by assumption) | exact int64_unmarked (by assumption) | exact int64_unmarked (int64_loadC (by assumption)) | exact int64_marked (by assumption))
      | exact k.swap (by first | assumption | exact int64_makeHandle | (unfold int64; omega) | (unfold int64; dsimp only; omega) | exact int64_wrap _ | exact int64_loadC (by assumption) | exact int64_unmarked (by assumption) | exact int64_unmarked (int64_loadC (by assumption)) | exact int64_marked (by assumption))
      | exact k.fault.swap (by first | assumption | exact int64_makeHandle | (unfold int64; omega) | (unfold int64; dsimp only; omega) | exact int64_wrap _ | exact int64_loadC (by assumption) | exact int64_unmarked (by assumption) | exact int64_unmarked (int64_loadC (by assumption)) | exact int64_marked (by assumption))
      | exact k.prev.swap (by first | assumption | exact int64_makeHandle | (unfold int64; omega) | (unfold int64; dsimp only; omega) | exact int64_wrap _ | exact int64_loadC (by assumption) | exact int64_unmarked (by assumption) | exact int64_unmarked (int64_loadC (by assumption)) | exact int64_marked (by assumption))
      | exact k.prev.retry
      | exact (k.swap (by first | assumption | exact int64_makeHandle | (unfold int64; omega) | (unfold int64; dsimp only; omega) | exact int64_wrap _ | exact int64_loadC (by assumption) | exact int64_unmarked (by assumption) | exact int64_unmarked (int64_loadC (by assumption)) | exact int64_marked (by assumption))).retry
      | exact (k.fault.swap (by first | assumption | exact int64_makeHandle | (unfold int64; omega) | (unfold int64; dsimp only; omega) | exact int64_wrap _ | exact int64_loadC (by assumption) | exact int64_unmarked (by assumption) | exact int64_unmarked (int64_loadC (by assumption)) | exact int64_marked (by assumption))).retry
      | exact (k.prev.swap (by first | assumption | exact int64_makeHandle | (unfold int64; omega) | (unfold int64; dsimp only; omega) | exact int64_wrap _ | exact int64_loadC (by assumption) | exact int64_unmarked (by assumption) | exact int64_unmarked (int64_loadC (by assumption)) | exact int64_marked (by assumption))).retry
      done)
   | exact hi
   | exact p31_end
   | (intro h; exfalso; revert h; dsimp only; first | omega | (split <;> omega) | (split <;> (try split) <;> omega))
   | exact wf_end hw (by first | assumption | exact int64_makeHandle | (unfold int64; omega) | (unfold int64; dsimp only; omega) | exact int64_wrap _ | exact int64_loadC (by assumption) | exact int64_unmarked (by assumption) | exact int64_unmarked (int64_loadC (by assumption)) | exact int64_marked (by assumption)) (by first | assumption | exact int64_makeHandle | (unfold int64; omega) | (unfold int64; dsimp only; omega) | exact int64_wrap _ | exact int64_loadC (by assumption) | exact int64_unmarked (by assumption) | exact int64_unmarked (int64_loadC (by assumption)) | exact int64_marked (by assumption))
   | (refine ⟨?_, ?_, ?_, ?_, ?_, ?_, ?_, ?_, ?_, ?_, ?_, ?_, ?_, ?_, ?_, ?_⟩ <;> (try dsimp only) <;> first | first | assumption | exact int64_makeHandle | (unfold int64; omega) | (unfold int64; dsimp only; omega) | exact int64_wrap _ | exact int64_loadC (by assumption) | exact int64_unmarked (by assumption) | exact int64_unmarked (int64_loadC (by assumption)) | exact int64_marked (by assumption) | exact int64_ite (by first | assumption | exact int64_makeHandle | (unfold int64; omega) | (unfold int64; dsimp only; omega) | exact int64_wrap _ | exact int64_loadC (by assumption) | exact int64_unmarked (by assumption) | exact int64_unmarked (int64_loadC (by assumption)) | exact int64_marked (by assumption)) (by first | assumption | exact int64_makeHandle | (unfold int64; omega) | (unfold int64; dsimp only; omega) | exact int64_wrap _ | exact int64_loadC (by assumption) | exact int64_unmarked (by assumption) | exact int64_unmarked (int64_loadC (by assumption)) | exact int64_marked (by assumption)) | exact int64_ite (by first | assumption | exact int64_makeHandle | (unfold int64; omega) | (unfold int64; dsimp only; omega) | exact int64_wrap _ | exact int64_loadC (by assumption) | exact int64_unmarked (by assumption) | exact int64_unmarked (int64_loadC (by assumption)) | exact int64_marked (by assumption)) (int64_ite (by first | assumption | exact int64_makeHandle | (unfold int64; omega) | (unfold int64; dsimp only; omega) | exact int64_wrap _ | exact int64_loadC (by assumption) | exact int64_unmarked (by assumption) | exact int64_unmarked (int64_loadC (by assumption)) | exact int64_marked (by assumption)) (by first | assumption | exact int64_makeHandle | (unfold int64; omega) | (unfold int64; dsimp only; omega) | exact int64_wrap _ | exact int64_loadC (by assumption) | exact int64_unmarked (by assumption) | exact int64_unmarked (int64_loadC (by assumption)) | exact int64_marked (by assumption))) | (refine ⟨?_, ?_⟩ <;> first | assumption | exact int64_makeHandle | (unfold int64; omega) | (unfold int64; dsimp only; omega) | exact int64_wrap _ | exact int64_loadC (by assumption) | exact int64_unmarked (by assumption) | exact int64_unmarked (int64_loadC (by assumption)) | exact int64_marked (by assumption)))
theorem headS_ok {s x : Sl.State} {t : Sl.Thread} {p : Int} (k : KS s x) (hw : t.wf) (hi : P31 s.config t) : SOk s (headS x t p) := by
 have hwc := k.wc; have hwg := k.wg
 have hct := k.cf
 obtain ⟨h1, h2, h3, h4, h5, h6, h7, h8, h9, h10, h11, h12, h13, h14, h15, h16⟩ := id hw
 have ho1 := h2.1; have ho2 := h2.2.1; have ho3 := h2.2.2; have hr1 := h3.1; have hr2 := h3.2
 have h00 : int64 (at0 x.cells 0) := int64_at0 hwc
 have h01 : int64 (at0 x.cells 1) := int64_at0 hwc
 unfold headS
 repeat' split
 all_goals refine ⟨?_, ?_, ?_⟩
 all_goals try dsimp only
 all_goals first
   | (first
      | exact k
      | exact k.put (by first | assumption | exact int64_makeHandle | (unfold int64; omega) | (unfold int64; dsimp only; omega) | exact int64_wrap _ | exact int64_loadC (by assumption) | exact int64_unmarked (by assumption) | exact int64_unmarked (int64_loadC (by assumption)) | exact int64_marked (by assumption))
      | exact k.fault
      | exact k.retry
      | exact k.prev
      | exact k.fault.put (by first | assumption | exact int64_makeHandle | (unfold int64; omega) | (unfold int64; dsimp only; omega) | exact int64_wrap _ | exact int64_loadC (by assumption) | exact int64_unmarked (by assumption) | exact int64_unmarked (int64_loadC (by assumption)) | exact int64_marked (by assumption))
      | exact k.swap (by first | assumption | exact int64_makeHandle | (unfold int64; omega) | (unfold int64; dsimp only; omega) | exact int64_wrap _ | exact int64_loadC (by assumption) | exact int64_unmarked (by assumption) | exact int64_unmarked (int64_loadC (by assumption)) | exact int64_marked (by assumption))
      | exact k.fault.swap (by first | assumption | exact int64_makeHandle | (unfold int64; omega) | (unfold int64; dsimp only; omega) | exact int64_wrap _ | exact int64_loadC (by assumption) | exact int64_unmarked (by assumption) | exact int64_unmarked (int64_loadC (by assumption)) | exact int64_marked (by assumption))
      | exact k.prev.swap (by first | assumption | exact int64_makeHandle | (unfold int64; omega) | (unfold int64; dsimp only; omega) | exact int64_wrap _ | exact int64_loadC (by assumption) | exact int64_unmarked (by assumption) | exact int64_unmarked (int64_loadC (by assumption)) | exact int64_marked (by assumption))
      | exact k.prev.retry
      | exact (k.swap (by first | assumption | exact int64_makeHandle | (unfold int64; omega) | (unfold int64; dsimp only; omega) | exact int64_wrap _ | exact int64_loadC (by assumption) | exact int64_unmarked (by assumption) | exact int64_unmarked (int64_loadC (by assumption)) | exact int64_marked (by assumption))).retry
      | exact (k.fault.swap (by first | assumption | exact int64_makeHandle | (unfold int64; omega) | (unfold int64; dsimp only; omega) | exact int64_wrap _ | exact int64_loadC (by assumption) | exact int64_unmarked (by assumption) | exact int64_unmarked (int64_loadC (by assumption)) | exact int64_marked (by assumption))).retry
      | exact (k.prev.swap (by first | assumption | exact int64_makeHandle | (unfold int64; omega) | (unfold int64; dsimp only; omega) | exact int64_wrap _ | exact int64_loadC (by assumption) | exact int64_unmarked (by assumption) | exact int64_unmarked (int64_loadC (by assumption)) | exact int64_marked (by assumption))).retry
      done)
   | exact hi
   | exact p31_end
   | (intro h; exfalso; revert h; dsimp only; first | omega | (split <;> omega) | (split <;> (try split) <;> omega))
   | exact wf_end hw (by first | assumption | exact int64_makeHandle | (unfold int64; omega) | (unfold int64; dsimp only; omega) | exact int64_wrap _ | exact int64_loadC (by assumption) | exact int64_unmarked (by assumption) | exact int64_unmarked (int64_loadC (by assumption)) | exact int64_marked (by assumption)) (by first | assumption | exact int64_makeHandle | (unfold int64; omega) | (unfold int64; dsimp only; omega) | exact int64_wrap _ | exact int64_loadC (by assumption) | exact int64_unmarked (by assumption) | exact int64_unmarked (int64_loadC (by assumption)) | exact int64_marked (by assumption))
   | (refine ⟨?_, ?_, ?_, ?_, ?_, ?_, ?_, ?_, ?_, ?_, ?_, ?_, ?_, ?_, ?_, ?_⟩ <;> (try dsimp only) <;> first | first | assumption | exact int64_makeHandle | (unfold int64; omega) | (unfold int64; dsimp only; omega) | exact int64_wrap _ | exact int64_loadC (by assumption) | exact int64_unmarked (by assumption) | exact int64_unmarked (int64_loadC (by assumption)) | exact int64_marked (by assumption) | exact int64_ite (by first | assumption | exact int64_makeHandle | (unfold int64; omega) | (unfold int64; dsimp only; omega) | exact int64_wrap _ | exact int64_loadC (by assumption) | exact int64_unmarked (by assumption) | exact int64_unmarked (int64_loadC (by assumption)) | exact int64_marked (by assumption)) (by first | assumption | exact int64_makeHandle | (unfold int64; omega) | (unfold int64; dsimp only; omega) | exact int64_wrap _ | exact int64_loadC (by assumption) | exact int64_unmarked (by assumption) | exact int64_unmarked (int64_loadC (by assumption)) | exact int64_marked (by assumption)) | exact int64_ite (by first | assumption | exact int64_makeHandle | (unfold int64; omega) | (unfold int64; dsimp only; omega) | exact int64_wrap _ | exact int64_loadC (by assumption) | exact int64_unmarked (by assumption) | exact int64_unmarked (int64_loadC (by assumption)) | exact int64_marked (by assumption)) (int64_ite (by first | assumption | exact int64_makeHandle | (unfold int64; omega) | (unfold int64; dsimp only; omega) | exact int64_wrap _ | exact int64_loadC (by assumption) | exact int64_unmarked (by assumption) | exact int64_unmarked (int64_loadC (by assumption)) | exact int64_marked (by assumption)) (by first | assumption | exact int64_makeHandle | (unfold int64; omega) | (unfold int64; dsimp only; omega) | exact int64_wrap _ | exact int64_loadC (by assumption) | exact int64_unmarked (by assumption) | exact int64_unmarked (int64_loadC (by assumption)) | exact int64_marked (by assumption))) | (refine ⟨?_, ?_⟩ <;> first | assumption | exact int64_makeHandle | (unfold int64; omega) | (unfold int64; dsimp only; omega) | exact int64_wrap _ | exact int64_loadC (by assumption) | exact int64_unmarked (by assumption) | exact int64_unmarked (int64_loadC (by assumption)) | exact int64_marked (by assumption)))
theorem ownS_ok {s x : Sl.State} {t : Sl.Thread} {p : Int} (k : KS s x) (hw : t.wf) (hi : P31 s.config t) : SOk s (ownS x t p) := by
 have hwc := k.wc; have hwg := k.wg
 have hct := k.cf
 obtain ⟨h1, h2, h3, h4, h5, h6, h7, h8, h9, h10, h11, h12, h13, h14, h15, h16⟩ := id hw
 have ho1 := h2.1; have ho2 := h2.2.1; have ho3 := h2.2.2; have hr1 := h3.1; have hr2 := h3.2
 have h00 : int64 (at0 x.cells 0) := int64_at0 hwc
 have h01 : int64 (at0 x.cells 1) := int64_at0 hwc
 unfold ownS
 repeat' split
 all_goals refine ⟨?_, ?_, ?_⟩
 all_goals try dsimp only
 all_goals first
   | exact wf_clear hw (by unfold int64; omega)
   | (intro h; unfold clearT at h; simp at h; done)
   | (have hne : (newE x t).wf := ⟨h7, ho2, h10, int64_loadC hwc⟩; exact ⟨by unfold int64; dsimp only; omega, h2, h3, h4, h5, h6, h7, h8, h9, h10, h11, h12, h13, all_snoc h14 hne, h15, h16⟩)
   | (first
      | exact k
      | exact k.put (by first | assumption | exact int64_makeHandle | (unfold int64; omega) | (unfold int64; dsimp only; omega) | exact int64_wrap _ | exact int64_loadC (by assumption) | exact int64_unmarked (by assumption) | exact int64_unmarked (int64_loadC (by assumption)) | exact int64_marked (by assumption))
      | exact k.fault
      | exact k.retry
      | exact k.prev
      | exact k.fault.put (by first | assumption | exact int64_makeHandle | (unfold int64; omega) | (unfold int64; dsimp only; omega) | exact int64_wrap _ | exact int64_loadC (by assumption) | exact int64_unmarked (by assumption) | exact int64_unmarked (int64_loadC (by assumption)) | exact int64_marked (by assumption))
      | exact k.swap (by first | assumption | exact int64_makeHandle | (unfold int64; omega) | (unfold int64; dsimp only; omega) | exact int64_wrap _ | exact int64_loadC (by assumption) | exact int64_unmarked (by assumption) | exact int64_unmarked (int64_loadC (by assumption)) | exact int64_marked (by assumption))
      | exact k.fault.swap (by first | assumption | exact int64_makeHandle | (unfold int64; omega) | (unfold int64; dsimp only; omega) | exact int64_wrap _ | exact int64_loadC (by assumption) | exact int64_unmarked (by assumption) | exact int64_unmarked (int64_loadC (by assumption)) | exact int64_marked (by assumption))
      | exact k.prev.swap (by first | assumption | exact int64_makeHandle | (unfold int64; omega) | (unfold int64; dsimp only; omega) | exact int64_wrap _ | exact int64_loadC (by assumption) | exact int64_unmarked (by assumption) | exact int64_unmarked (int64_loadC (by assumption)) | exact int64_marked (by assumption))
      | exact k.prev.retry
      | exact (k.swap (by first | assumption | exact int64_makeHandle | (unfold int64; omega) | (unfold int64; dsimp only; omega) | exact int64_wrap _ | exact int64_loadC (by assumption) | exact int64_unmarked (by assumption) | exact int64_unmarked (int64_loadC (by assumption)) | exact int64_marked (by assumption))).retry
      | exact (k.fault.swap (by first | assumption | exact int64_makeHandle | (unfold int64; omega) | (unfold int64; dsimp only; omega) | exact int64_wrap _ | exact int64_loadC (by assumption) | exact int64_unmarked (by assumption) | exact int64_unmarked (int64_loadC (by assumption)) | exact int64_marked (by assumption))).retry
      | exact (k.prev.swap (by first | assumption | exact int64_makeHandle | (unfold int64; omega) | (unfold int64; dsimp only; omega) | exact int64_wrap _ | exact int64_loadC (by assumption) | exact int64_unmarked (by assumption) | exact int64_unmarked (int64_loadC (by assumption)) | exact int64_marked (by assumption))).retry
      done)
   | exact hi
   | exact p31_end
   | (intro h; exfalso; revert h; dsimp only; first | omega | (split <;> omega) | (split <;> (try split) <;> omega))
   | exact wf_end hw (by first | assumption | exact int64_makeHandle | (unfold int64; omega) | (unfold int64; dsimp only; omega) | exact int64_wrap _ | exact int64_loadC (by assumption) | exact int64_unmarked (by assumption) | exact int64_unmarked (int64_loadC (by assumption)) | exact int64_marked (by assumption)) (by first | assumption | exact int64_makeHandle | (unfold int64; omega) | (unfold int64; dsimp only; omega) | exact int64_wrap _ | exact int64_loadC (by assumption) | exact int64_unmarked (by assumption) | exact int64_unmarked (int64_loadC (by assumption)) | exact int64_marked (by assumption))
   | (refine ⟨?_, ?_, ?_, ?_, ?_, ?_, ?_, ?_, ?_, ?_, ?_, ?_, ?_, ?_, ?_, ?_⟩ <;> (try dsimp only) <;> first | first | assumption | exact int64_makeHandle | (unfold int64; omega) | (unfold int64; dsimp only; omega) | exact int64_wrap _ | exact int64_loadC (by assumption) | exact int64_unmarked (by assumption) | exact int64_unmarked (int64_loadC (by assumption)) | exact int64_marked (by assumption) | exact int64_ite (by first | assumption | exact int64_makeHandle | (unfold int64; omega) | (unfold int64; dsimp only; omega) | exact int64_wrap _ | exact int64_loadC (by assumption) | exact int64_unmarked (by assumption) | exact int64_unmarked (int64_loadC (by assumption)) | exact int64_marked (by assumption)) (by first | assumption | exact int64_makeHandle | (unfold int64; omega) | (unfold int64; dsimp only; omega) | exact int64_wrap _ | exact int64_loadC (by assumption) | exact int64_unmarked (by assumption) | exact int64_unmarked (int64_loadC (by assumption)) | exact int64_marked (by assumption)) | exact int64_ite (by first | assumption | exact int64_makeHandle | (unfold int64; omega) | (unfold int64; dsimp only; omega) | exact int64_wrap _ | exact int64_loadC (by assumption) | exact int64_unmarked (by assumption) | exact int64_unmarked (int64_loadC (by assumption)) | exact int64_marked (by assumption)) (int64_ite (by first | assumption | exact int64_makeHandle | (unfold int64; omega) | (unfold int64; dsimp only; omega) | exact int64_wrap _ | exact int64_loadC (by assumption) | exact int64_unmarked (by assumption) | exact int64_unmarked (int64_loadC (by assumption)) | exact int64_marked (by assumption)) (by first | assumption | exact int64_makeHandle | (unfold int64; omega) | (unfold int64; dsimp only; omega) | exact int64_wrap _ | exact int64_loadC (by assumption) | exact int64_unmarked (by assumption) | exact int64_unmarked (int64_loadC (by assumption)) | exact int64_marked (by assumption))) | (refine ⟨?_, ?_⟩ <;> first | assumption | exact int64_makeHandle | (unfold int64; omega) | (unfold int64; dsimp only; omega) | exact int64_wrap _ | exact int64_loadC (by assumption) | exact int64_unmarked (by assumption) | exact int64_unmarked (int64_loadC (by assumption)) | exact int64_marked (by assumption)))
theorem scanEndS_ok {s x : Sl.State} {t : Sl.Thread} {p : Int} (k : KS s x) (hw : t.wf) (hi : P31 s.config t) : SOk s (scanEndS x t p) := by
 have hwc := k.wc; have hwg := k.wg
 have hct := k.cf
 obtain ⟨h1, h2, h3, h4, h5, h6, h7, h8, h9, h10, h11, h12, h13, h14, h15, h16⟩ := id hw
 have ho1 := h2.1; have ho2 := h2.2.1; have ho3 := h2.2.2; have hr1 := h3.1; have hr2 := h3.2
 have h00 : int64 (at0 x.cells 0) := int64_at0 hwc
 have h01 : int64 (at0 x.cells 1) := int64_at0 hwc
 unfold scanEndS
 repeat' split
 all_goals refine ⟨?_, ?_, ?_⟩
 all_goals try dsimp only
 all_goals first
   | exact wf_end (t := { t with snapshot := 0 }) ⟨h1, h2, h3, int64_zero, h5, h6, h7, h8, h9, h10, h11, h12, h13, h14, h15, h16⟩ (by unfold int64; omega) (by unfold int64; omega)
   | (first
      | exact k
      | exact k.put (by first | assumption | exact int64_makeHandle | (unfold int64; omega) | (unfold int64; dsimp only; omega) | exact int64_wrap _ | exact int64_loadC (by assumption) | exact int64_unmarked (by assumption) | exact int64_unmarked (int64_loadC (by assumption)) | exact int64_marked (by assumption))
      | exact k.fault
      | exact k.retry
      | exact k.prev
      | exact k.fault.put (by first | assumption | exact int64_makeHandle | (unfold int64; omega) | (unfold int64; dsimp only; omega) | exact int64_wrap _ | exact int64_loadC (by assumption) | exact int64_unmarked (by assumption) | exact int64_unmarked (int64_loadC (by assumption)) | exact int64_marked (by assumption))
      | exact k.swap (by first | assumption | exact int64_makeHandle | (unfold int64; omega) | (unfold int64; dsimp only; omega) | exact int64_wrap _ | exact int64_loadC (by assumption) | exact int64_unmarked (by assumption) | exact int64_unmarked (int64_loadC (by assumption)) | exact int64_marked (by assumption))
      | exact k.fault.swap (by first | assumption | exact int64_makeHandle | (unfold int64; omega) | (unfold int64; dsimp only; omega) | exact int64_wrap _ | exact int64_loadC (by assumption) | exact int64_unmarked (by assumption) | exact int64_unmarked (int64_loadC (by assumption)) | exact int64_marked (by assumption))
      | exact k.prev.swap (by first | assumption | exact int64_makeHandle | (unfold int64; omega) | (unfold int64; dsimp only; omega) | exact int64_wrap _ | exact int64_loadC (by assumption) | exact int64_unmarked (by assumption) | exact int64_unmarked (int64_loadC (by assumption)) | exact int64_marked (by assumption))
      | exact k.prev.retry
      | exact (k.swap (by first | assumption | exact int64_makeHandle | (unfold int64; omega) | (unfold int64; dsimp only; omega) | exact int64_wrap _ | exact int64_loadC (by assumption) | exact int64_unmarked (by assumption) | exact int64_unmarked (int64_loadC (by assumption)) | exact int64_marked (by assumption))).retry
      | exact (k.fault.swap (by first | assumption | exact int64_makeHandle | (unfold int64; omega) | (unfold int64; dsimp only; omega) | exact int64_wrap _ | exact int64_loadC (by assumption) | exact int64_unmarked (by assumption) | exact int64_unmarked (int64_loadC (by assumption)) | exact int64_marked (by assumption))).retry
      | exact (k.prev.swap (by first | assumption | exact int64_makeHandle | (unfold int64; omega) | (unfold int64; dsimp only; omega) | exact int64_wrap _ | exact int64_loadC (by assumption) | exact int64_unmarked (by assumption) | exact int64_unmarked (int64_loadC (by assumption)) | exact int64_marked (by assumption))).retry
      done)
   | exact hi
   | exact p31_end
   | (intro h; exfalso; revert h; dsimp only; first | omega | (split <;> omega) | (split <;> (try split) <;> omega))
   | exact wf_end hw (by first | assumption | exact int64_makeHandle | (unfold int64; omega) | (unfold int64; dsimp only; omega) | exact int64_wrap _ | exact int64_loadC (by assumption) | exact int64_unmarked (by assumption) | exact int64_unmarked (int64_loadC (by assumption)) | exact int64_marked (by assumption)) (by first | assumption | exact int64_makeHandle | (unfold int64; omega) | (unfold int64; dsimp only; omega) | exact int64_wrap _ | exact int64_loadC (by assumption) | exact int64_unmarked (by assumption) | exact int64_unmarked (int64_loadC (by assumption)) | exact int64_marked (by assumption))
   | (refine ⟨?_, ?_, ?_, ?_, ?_, ?_, ?_, ?_, ?_, ?_, ?_, ?_, ?_, ?_, ?_, ?_⟩ <;> (try dsimp only) <;> first | first | assumption | exact int64_makeHandle | (unfold int64; omega) | (unfold int64; dsimp only; omega) | exact int64_wrap _ | exact int64_loadC (by assumption) | exact int64_unmarked (by assumption) | exact int64_unmarked (int64_loadC (by assumption)) | exact int64_marked (by assumption) | exact int64_ite (by first | assumption | exact int64_makeHandle | (unfold int64; omega) | (unfold int64; dsimp only; omega) | exact int64_wrap _ | exact int64_loadC (by assumption) | exact int64_unmarked (by assumption) | exact int64_unmarked (int64_loadC (by assumption)) | exact int64_marked (by assumption)) (by first | assumption | exact int64_makeHandle | (unfold int64; omega) | (unfold int64; dsimp only; omega) | exact int64_wrap _ | exact int64_loadC (by assumption) | exact int64_unmarked (by assumption) | exact int64_unmarked (int64_loadC (by assumption)) | exact int64_marked (by assumption)) | exact int64_ite (by first | assumption | exact int64_makeHandle | (unfold int64; omega) | (unfold int64; dsimp only; omega) | exact int64_wrap _ | exact int64_loadC (by assumption) | exact int64_unmarked (by assumption) | exact int64_unmarked (int64_loadC (by assumption)) | exact int64_marked (by assumption)) (int64_ite (by first | assumption | exact int64_makeHandle | (unfold int64; omega) | (unfold int64; dsimp only; omega) | exact int64_wrap _ | exact int64_loadC (by assumption) | exact int64_unmarked (by assumption) | exact int64_unmarked (int64_loadC (by assumption)) | exact int64_marked (by assumption)) (by first | assumption | exact int64_makeHandle | (unfold int64; omega) | (unfold int64; dsimp only; omega) | exact int64_wrap _ | exact int64_loadC (by assumption) | exact int64_unmarked (by assumption) | exact int64_unmarked (int64_loadC (by assumption)) | exact int64_marked (by assumption))) | (refine ⟨?_, ?_⟩ <;> first | assumption | exact int64_makeHandle | (unfold int64; omega) | (unfold int64; dsimp only; omega) | exact int64_wrap _ | exact int64_loadC (by assumption) | exact int64_unmarked (by assumption) | exact int64_unmarked (int64_loadC (by assumption)) | exact int64_marked (by assumption)))
theorem foundN_wf {t : Sl.Thread} {n : Int} (h : ∀ x ∈ t.found, int64 x) (hn : int64 n) : ∀ x ∈ foundN t n, int64 x := by
 unfold foundN; split
 · exact h
 · exact all_snoc h hn
theorem splitK_wf {pol key : Int} {es : List Entry} {ns : List Int} (h : ∀ x ∈ es, x.wf) : ∀ x ∈ splitK pol key es ns, x.wf := fun x hx => h x (List.mem_filter.1 hx).1
theorem splitD_wf {pol key : Int} {es : List Entry} {ns : List Int} (h : ∀ x ∈ es, x.wf) : ∀ x ∈ splitD pol key es ns, x.wf := fun x hx => h x (List.mem_filter.1 hx).1
theorem afterT_wf {c : Config} {t : Sl.Thread} (hw : t.wf) : (afterT c t).wf := by
 unfold afterT; split
 · exact wf_clear hw (by unfold int64; omega)
 · exact wf_end hw int64_zero int64_zero
theorem p31_after {c d : Config} {t : Sl.Thread} : P31 c (afterT d t) := by
 unfold afterT; split
 · intro h; unfold clearT at h; simp at h
 · exact p31_end
theorem mergeT_wf {s : Sl.State} {t : Sl.Thread} (hw : t.wf) (hc : ∀ y ∈ s.cells, int64 y) : (mergeT s t).wf := by
 obtain ⟨h1, h2, h3, h4, h5, h6, h7, h8, h9, h10, h11, h12, h13, h14, h15, h16⟩ := hw
 have hf : ∀ x ∈ scanF s t, int64 x := foundN_wf h12 (int64_loadC hc)
 unfold mergeT
 exact ⟨by unfold int64; dsimp only; omega, h2, h3, h4, h5, h6, h7, h8, h9, h10, int64_wrap _, hf, h13, splitK_wf h14, (fun x hx => (List.mem_append.1 hx).elim (h15 x) (splitD_wf h14 x)), h16⟩
theorem scanT_wf {s : Sl.State} {t : Sl.Thread} (hw : t.wf) (hc : ∀ y ∈ s.cells, int64 y) : (scanT s t).wf := by
 unfold scanT; split
 · obtain ⟨h1, h2, h3, h4, h5, h6, h7, h8, h9, h10, h11, h12, h13, h14, h15, h16⟩ := hw
   exact ⟨h1, h2, h3, h4, h5, h6, h7, h8, h9, h10, int64_wrap _, foundN_wf h12 (int64_loadC hc), h13, h14, h15, h16⟩
 split
 · exact afterT_wf (mergeT_wf hw hc)
 · exact mergeT_wf hw hc
theorem p31_scanT {c : Config} {s : Sl.State} {t : Sl.Thread} (h5 : t.pc = 50) : P31 c (scanT s t) := by
 unfold scanT; split
 · intro h; dsimp only at h; omega
 split
 · exact p31_after
 · intro h; unfold mergeT at h; simp at h
theorem flushS_ok {s x : Sl.State} {t : Sl.Thread} {p : Int} (k : KS s x) (hw : t.wf) (hi : P31 s.config t) : SOk s (flushS x t p) := by
 have hwc := k.wc; have hwg := k.wg
 have hct := k.cf
 obtain ⟨h1, h2, h3, h4, h5, h6, h7, h8, h9, h10, h11, h12, h13, h14, h15, h16⟩ := id hw
 have ho1 := h2.1; have ho2 := h2.2.1; have ho3 := h2.2.2; have hr1 := h3.1; have hr2 := h3.2
 have h00 : int64 (at0 x.cells 0) := int64_at0 hwc
 have h01 : int64 (at0 x.cells 1) := int64_at0 hwc
 unfold flushS
 repeat' split
 all_goals refine ⟨?_, ?_, ?_⟩
 all_goals try dsimp only
 all_goals first
   | exact scanT_wf hw hwc
   | exact p31_scanT (by assumption)
   | exact afterT_wf hw
   | exact p31_after
   | (first
      | exact k
      | exact k.put (by first | assumption | exact int64_makeHandle | (unfold int64; omega) | (unfold int64; dsimp only; omega) | exact int64_wrap _ | exact int64_loadC (by assumption) | exact int64_unmarked (by assumption) | exact int64_unmarked (int64_loadC (by assumption)) | exact int64_marked (by assumption))
      | exact k.fault
      | exact k.retry
      | exact k.prev
      | exact k.fault.put (by first | assumption | exact int64_makeHandle | (unfold int64; omega) | (unfold int64; dsimp only; omega) | exact int64_wrap _ | exact int64_loadC (by assumption) | exact int64_unmarked (by assumption) | exact int64_unmarked (int64_loadC (by assumption)) | exact int64_marked (by assumption))
      | exact k.swap (by first | assumption | exact int64_makeHandle | (unfold int64; omega) | (unfold int64; dsimp only; omega) | exact int64_wrap _ | exact int64_loadC (by assumption) | exact int64_unmarked (by assumption) | exact int64_unmarked (int64_loadC (by assumption)) | exact int64_marked (by assumption))
      | exact k.fault.swap (by first | assumption | exact int64_makeHandle | (unfold int64; omega) | (unfold int64; dsimp only; omega) | exact int64_wrap _ | exact int64_loadC (by assumption) | exact int64_unmarked (by assumption) | exact int64_unmarked (int64_loadC (by assumption)) | exact int64_marked (by assumption))
      | exact k.prev.swap (by first | assumption | exact int64_makeHandle | (unfold int64; omega) | (unfold int64; dsimp only; omega) | exact int64_wrap _ | exact int64_loadC (by assumption) | exact int64_unmarked (by assumption) | exact int64_unmarked (int64_loadC (by assumption)) | exact int64_marked (by assumption))
      | exact k.prev.retry
      | exact (k.swap (by first | assumption | exact int64_makeHandle | (unfold int64; omega) | (unfold int64; dsimp only; omega) | exact int64_wrap _ | exact int64_loadC (by assumption) | exact int64_unmarked (by assumption) | exact int64_unmarked (int64_loadC (by assumption)) | exact int64_marked (by assumption))).retry
      | exact (k.fault.swap (by first | assumption | exact int64_makeHandle | (unfold int64; omega) | (unfold int64; dsimp only; omega) | exact int64_wrap _ | exact int64_loadC (by assumption) | exact int64_unmarked (by assumption) | exact int64_unmarked (int64_loadC (by assumption)) | exact int64_marked (by assumption))).retry
      | exact (k.prev.swap (by first | assumption | exact int64_makeHandle | (unfold int64; omega) | (unfold int64; dsimp only; omega) | exact int64_wrap _ | exact int64_loadC (by assumption) | exact int64_unmarked (by assumption) | exact int64_unmarked (int64_loadC (by assumption)) | exact int64_marked (by assumption))).retry
      done)
   | exact hi
   | exact p31_end
   | (intro h; exfalso; revert h; dsimp only; first | omega | (split <;> omega) | (split <;> (try split) <;> omega))
   | exact wf_end hw (by first | assumption | exact int64_makeHandle | (unfold int64; omega) | (unfold int64; dsimp only; omega) | exact int64_wrap _ | exact int64_loadC (by assumption) | exact int64_unmarked (by assumption) | exact int64_unmarked (int64_loadC (by assumption)) | exact int64_marked (by assumption)) (by first | assumption | exact int64_makeHandle | (unfold int64; omega) | (unfold int64; dsimp only; omega) | exact int64_wrap _ | exact int64_loadC (by assumption) | exact int64_unmarked (by assumption) | exact int64_unmarked (int64_loadC (by assumption)) | exact int64_marked (by assumption))
   | (refine ⟨?_, ?_, ?_, ?_, ?_, ?_, ?_, ?_, ?_, ?_, ?_, ?_, ?_, ?_, ?_, ?_⟩ <;> (try dsimp only) <;> first | first | assumption | exact int64_makeHandle | (unfold int64; omega) | (unfold int64; dsimp only; omega) | exact int64_wrap _ | exact int64_loadC (by assumption) | exact int64_unmarked (by assumption) | exact int64_unmarked (int64_loadC (by assumption)) | exact int64_marked (by assumption) | exact int64_ite (by first | assumption | exact int64_makeHandle | (unfold int64; omega) | (unfold int64; dsimp only; omega) | exact int64_wrap _ | exact int64_loadC (by assumption) | exact int64_unmarked (by assumption) | exact int64_unmarked (int64_loadC (by assumption)) | exact int64_marked (by assumption)) (by first | assumption | exact int64_makeHandle | (unfold int64; omega) | (unfold int64; dsimp only; omega) | exact int64_wrap _ | exact int64_loadC (by assumption) | exact int64_unmarked (by assumption) | exact int64_unmarked (int64_loadC (by assumption)) | exact int64_marked (by assumption)) | exact int64_ite (by first | assumption | exact int64_makeHandle | (unfold int64; omega) | (unfold int64; dsimp only; omega) | exact int64_wrap _ | exact int64_loadC (by assumption) | exact int64_unmarked (by assumption) | exact int64_unmarked (int64_loadC (by assumption)) | exact int64_marked (by assumption)) (int64_ite (by first | assumption | exact int64_makeHandle | (unfold int64; omega) | (unfold int64; dsimp only; omega) | exact int64_wrap _ | exact int64_loadC (by assumption) | exact int64_unmarked (by assumption) | exact int64_unmarked (int64_loadC (by assumption)) | exact int64_marked (by assumption)) (by first | assumption | exact int64_makeHandle | (unfold int64; omega) | (unfold int64; dsimp only; omega) | exact int64_wrap _ | exact int64_loadC (by assumption) | exact int64_unmarked (by assumption) | exact int64_unmarked (int64_loadC (by assumption)) | exact int64_marked (by assumption))) | (refine ⟨?_, ?_⟩ <;> first | assumption | exact int64_makeHandle | (unfold int64; omega) | (unfold int64; dsimp only; omega) | exact int64_wrap _ | exact int64_loadC (by assumption) | exact int64_unmarked (by assumption) | exact int64_unmarked (int64_loadC (by assumption)) | exact int64_marked (by assumption)))
theorem freeAll_wf {gs fr hs : List Int} (hg : ∀ x ∈ gs, int64 x) (hf : ∀ x ∈ fr, int64 x) (hh : ∀ x ∈ hs, int64 x) : (∀ x ∈ (freeAll gs fr hs).1, int64 x) ∧ (∀ x ∈ (freeAll gs fr hs).2, int64 x) := by
 unfold freeAll
 induction hs generalizing gs fr with
 | nil => exact ⟨hg, hf⟩
 | cons h hs ih =>
   simp only [List.foldl_cons]
   have h0 := hh h List.mem_cons_self
   have h1 := fun x hx => hh x (List.mem_cons_of_mem _ hx)
   unfold freeStep
   split
   · exact ih (fun x hx => (List.mem_or_eq_of_mem_set hx).elim (hg x) (fun e => e ▸ int64_wrap _)) (all_snoc hf (int64_indexOf h0)) h1
   · exact ih hg hf h1
theorem reclaimS_ok {s x : Sl.State} {t : Sl.Thread} {p : Int} (k : KS s x) (hw : t.wf) (hi : P31 s.config t) : SOk s (reclaimS x t p) := by
 obtain ⟨h1, h2, h3, h4, h5, h6, h7, h8, h9, h10, h11, h12, h13, h14, h15, h16⟩ := id hw
 have hfo : ∀ y ∈ foundN t (scanN x t), int64 y := foundN_wf h12 (int64_loadC k.wc)
 have hfr := freeAll_wf (hs := splitOut t.limbo (foundN t (scanN x t))) k.wg h13 (fun y hy => h16 y (List.mem_filter.1 hy).1)
 unfold reclaimS
 split
 · exact ⟨k, ⟨h1, h2, h3, h4, h5, h6, h7, h8, h9, h10, int64_wrap _, hfo, h13, h14, h15, h16⟩, hi⟩
 · refine ⟨⟨k.cf, k.th, k.lc, ?_, k.wc, hfr.1, k.ws, k.wh, k.wr, k.wf⟩, ?_, ?_⟩
   · exact freeAll_len.trans k.lg
   · obtain ⟨g1, g2, g3, g4, g5, g6, g7, g8, g9, g10, g11, g12, g13, g14, g15, g16⟩ := wf_end hw int64_zero int64_zero
     exact ⟨g1, g2, g3, g4, g5, g6, g7, g8, g9, g10, g11, g12, hfr.2, g14, g15, (fun y hy => h16 y (List.mem_filter.1 hy).1)⟩
   · intro h; unfold endT at h; simp at h
theorem stepS_ok {s x : Sl.State} {t : Sl.Thread} {p : Int} (k : KS s x) (hw : t.wf) (hz : 0 ≤ at0 x.cells 1) (hi : P31 s.config t) : SOk s (stepS x t p) := by
 unfold stepS
 repeat' split
 · exact beginS_ok k hw hi
 · exact walkS_ok k hw hi
 · exact readS_ok k hw hi
 · exact takeS_ok k hw hz hi
 · exact headS_ok k hw hi
 · exact ownS_ok k hw hi
 · exact flushS_ok k hw hi
 · exact reclaimS_ok k hw hi
 · exact scanEndS_ok k hw hi
 · exact ⟨k, hw, hi⟩
end Go.Proofs.YtgofolgogfmhgaaGreat.Wk
namespace Go.Proofs.YtgofolgogfmhgaaGreat.Wk
open Go Go.RowKit Sl
set_option linter.unusedVariables false
set_option linter.unusedSimpArgs false
set_option maxRecDepth 20000
/-- a state that has come of operations begun and of steps -/
structure Good (s : Sl.State) : Prop where
  sh : shapeOk s
  wf : s.wf
  sz : s.size ≤ 2200
  p31 : ∀ t ∈ s.threads, P31 s.config t
theorem crow_mul {α : Type} {c : α → Nat} {xs : List α} {k : Nat} (h : ∀ x ∈ xs, c x ≤ k) : crow c xs ≤ xs.length * k := by
 induction xs with
 | nil => simp [crow]
 | cons x xs ih =>
   have h1 := ih (fun y hy => h y (List.mem_cons_of_mem _ hy))
   have h2 := h x List.mem_cons_self
   simp only [crow, List.length_cons, Nat.add_mul, Nat.one_mul]; omega
theorem ok_size {s : Sl.State} (h : stateOk s = true) : s.size ≤ 2118 := by
 obtain ⟨hok, h1, h2, h3⟩ := stateOk_shape h
 have hcc := cellCount_eq hok
 have hb := hok; unfold Config.ok at hb
 have h4 : crow Sl.Thread.size s.threads ≤ s.threads.length * 500 := crow_mul fun t ht => by
   have g : s.threads.all (threadOk s.config) = true := by unfold stateOk at h; simp only [Bool.and_eq_true] at h; exact h.1.1.1.2
   have g1 := List.all_eq_true.1 g t ht
   unfold threadOk at g1; simp only [Bool.and_eq_true] at g1
   have g2 : sizesOk t := of_decide_eq_true g1.2
   unfold sizesOk at g2
   unfold Sl.Thread.size
   omega
 unfold Sl.State.size
 omega
theorem goT_size' {t : Sl.Thread} : (goT t).size ≤ t.size := by
 unfold goT Sl.Thread.size
 repeat' split
 all_goals ((try simp only [List.length_append, List.length_drop, List.length_cons, List.length_nil]); first | omega | exact Nat.le_refl _)
theorem stepS_len {s : Sl.State} {t : Sl.Thread} {p : Int} : (stepS s t p).2.size ≤ t.size + 1 := by
 have e := @endT_size
 unfold stepS
 repeat' split
 · unfold beginS; repeat' split
   all_goals first | exact Nat.le_succ _ | exact Nat.le_trans (endT_size) (Nat.le_succ _)
 · unfold walkS; repeat' split
   all_goals first | exact Nat.le_succ _ | exact Nat.le_trans (goT_size') (Nat.le_succ _)
 · unfold readS; repeat' split
   all_goals first | exact Nat.le_succ _ | exact Nat.le_trans (endT_size) (Nat.le_succ _)
 · unfold takeS; repeat' split
   all_goals first | exact Nat.le_succ _ | exact Nat.le_trans (endT_size) (Nat.le_succ _)
 · unfold headS; repeat' split
   all_goals exact Nat.le_succ _
 · unfold ownS; repeat' split
   all_goals first | exact Nat.le_succ _ | exact Nat.le_trans (endT_size) (Nat.le_succ _) | (unfold clearT Sl.Thread.size; simp only [List.length_nil, List.length_append, List.length_cons]; omega) | (unfold Sl.Thread.size; simp only [List.length_nil, List.length_append, List.length_cons]; omega)
 · exact (flushS_size s t p).2
 · exact (reclaimS_size s t p).2
 · exact Nat.le_trans (endT_size (t := { t with snapshot := 0 })) (Nat.le_succ _)
 · exact Nat.le_succ _
theorem Good.ks {s : Sl.State} (h : Good s) : KS s s := ⟨rfl, rfl, rfl, rfl, h.wf.2.1, h.wf.2.2.1, h.wf.2.2.2.2.1, h.wf.2.2.2.2.2.1, h.wf.2.2.2.2.2.2.1, h.wf.2.2.2.2.2.2.2⟩
/-- a state in which one thread and what belongs to all has changed -/
theorem good_set {s x : Sl.State} {t : Sl.Thread} {p : Nat} (h : Good s) (hs : s.size ≤ 2118) (k : KS s x) (hw : t.wf) (hi : P31 s.config t) (hp : p < s.threads.length) (hz : t.size ≤ (at0 s.threads (p : Int)).size + 1) : Good { x with threads := s.threads.set p t } := by
 obtain ⟨a1, a2, a3, a4⟩ := h.sh
 have hx : s.threads[p]? = some (at0 s.threads (p : Int)) := at0_nat hp
 refine ⟨⟨?_, ?_, ?_, ?_⟩, ⟨?_, k.wc, k.wg, ?_, k.ws, k.wh, k.wr, k.wf⟩, ?_, ?_⟩ <;> (try dsimp only)
 · rw [k.cf]; exact a1
 · rw [k.cf, k.lc]; exact a2
 · rw [k.cf, k.lg]; exact a3
 · rw [k.cf, List.length_set]; exact a4
 · rw [k.cf]; exact h.wf.1
 · exact fun y hy => (List.mem_or_eq_of_mem_set hy).elim (h.wf.2.2.2.1 y) (fun e => e ▸ hw)
 · have h4 := crow_set_le (c := Sl.Thread.size) (k := 1) hx hz
   show x.cells.length + x.generations.length + ((s.threads.set p t).length + crow Sl.Thread.size (s.threads.set p t)) ≤ 2200
   have e2 : s.size = s.cells.length + s.generations.length + (s.threads.length + crow Sl.Thread.size s.threads) := rfl
   rw [k.lc, k.lg, List.length_set]; omega
 · rw [k.cf]
   exact fun y hy => (List.mem_or_eq_of_mem_set hy).elim (h.p31 y) (fun e => e ▸ hi)
theorem ok_born {s : Sl.State} (h : stateOk s = true) : 0 ≤ at0 s.cells 1 := by
 unfold stateOk at h; simp only [Bool.and_eq_true, decide_eq_true_eq] at h
 have := h.2; unfold countsOk at this; omega
theorem good_step {s : Sl.State} {p : Nat} (h : Good s) (hr : isRunning s (p : Int) = true) : Good (stepBy stepS (stepped s) p) := by
 obtain ⟨hs, h0, h1⟩ := running_of hr
 have hm : at0 s.threads (p : Int) ∈ s.threads := at0_mem (by omega) (by omega)
 obtain ⟨k, hw, hi⟩ := stepS_ok (s := s) (x := stepped s) (p := (p : Int)) h.ks.stepped (h.wf.2.2.2.1 _ hm) (ok_born (s := s) hs) (h.p31 _ hm)
 exact good_set (s := s) h (ok_size hs) k hw hi (by omega) stepS_len
theorem startT_wf {t : Sl.Thread} {o : Sl.Op} {gs : List Int} (hw : t.wf) (ho : o.wf) : (startT t o gs).wf := by
 have hw' : ({ t with op := o } : Sl.Thread).wf := ⟨hw.1, ho, hw.2.2⟩
 obtain ⟨g1, g2, g3, g4, g5, g6, g7, g8, g9, g10, g11, g12, g13, g14, g15, g16⟩ := wf_end hw' int64_zero int64_zero
 unfold startT
 repeat' split
 all_goals first
   | exact ⟨by unfold int64; dsimp only; omega, g2, g3, g4, g5, g6, g7, g8, g9, g10, g11, g12, g13, g14, g15, g16⟩
   | exact ⟨by unfold int64; dsimp only; omega, g2, g3, g4, int64_makeHandle, g6, g7, g8, g9, g10, g11, g12, (fun x hx => g13 x (List.mem_of_mem_take hx)), g14, g15, g16⟩
theorem p31_start {c : Config} {t : Sl.Thread} {o : Sl.Op} {gs : List Int} : P31 c (startT t o gs) := by
 unfold startT
 repeat' split
 all_goals (intro h; simp at h)
theorem refusal_int {s : Sl.State} {p : Int} {o : Sl.Op} : int64 (refusalOf s p o) := by
 unfold refusalOf
 repeat' split
 all_goals (unfold int64; omega)
theorem good_start {s : Sl.State} {p : Int} {o : Sl.Op} (h : Good s) (ho : o.wf) : Good (startS s p o).1 := by
 unfold startS
 split
 · rename_i hc
   obtain ⟨⟨hs, h0, h1⟩, _⟩ := hc
   obtain ⟨p, rfl⟩ : ∃ k : Nat, p = (k : Int) := ⟨p.toNat, by omega⟩
   have hm : at0 s.threads (p : Int) ∈ s.threads := at0_mem (by omega) (by omega)
   have hw := h.wf.2.2.2.1 _ hm
   split
   · exact good_set (p := p) h (ok_size hs) h.ks (startT_wf hw ho) p31_start (by omega) (Nat.le_trans startT_size (Nat.le_succ _))
   · exact good_set (p := p) h (ok_size hs) h.ks (wf_end (t := { at0 s.threads (p : Int) with op := o }) ⟨hw.1, ho, hw.2.2⟩ refusal_int int64_zero) p31_end (by omega) (Nat.le_trans endT_size (Nat.le_succ _))
 · exact h
end Go.Proofs.YtgofolgogfmhgaaGreat.Wk
