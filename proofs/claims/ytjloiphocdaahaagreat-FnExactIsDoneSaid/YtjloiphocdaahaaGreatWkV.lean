/- Walks: machines that are valid. -/
import Derived.Test.YtjloiphocdaahaaGreatChecked
import Derived.Test.YtjloiphocdaahaaGreatWkMm
import Derived.Test.YtjloiphocdaahaaGreatWkR1
import Derived.Test.YtjloiphocdaahaaGreatFactsB
namespace Go.Proofs.YtjloiphocdaahaaGreat.Wk
open Go Go.RowKit Sl
set_option linter.unusedVariables false
set_option linter.unusedSimpArgs false
set_option maxRecDepth 20000

/-- what is asked of programs, events, a machine -/
def progOk (l : List Sl.Op) : Bool := l.all (fun o => decide o.ok) && decide ((l.length : Int) ≤ 20)
def eventOk (n t : Int) (e : Sl.Event) : Bool := decide (0 ≤ e.thread ∧ e.thread ≤ n - 1) && decide e.op.ok && decide (0 ≤ e.start ∧ e.start ≤ t) && (decide (e.fin = -1) || decide (e.start ≤ e.fin ∧ e.fin ≤ t))
def nextOk (m : Sl.Machine) : Bool := (List.range m.next.length).all fun i => decide (0 ≤ at0 m.next (i : Int) ∧ at0 m.next (i : Int) ≤ ((at0 m.programs (i : Int)).length : Int))
def machineOk (m : Sl.Machine) : Bool := stateOk m.state && decide ((m.programs.length : Int) = m.state.config.threads ∧ (m.next.length : Int) = m.state.config.threads) && m.programs.all progOk && nextOk m && decide (0 ≤ m.time ∧ m.time ≤ 1000000) && decide ((m.events.length : Int) ≤ 80) && m.events.all (eventOk m.next.length m.time)
section
variable {m : Sl.Machine}
theorem ma_yes (h1 : stateOk m.state = true) (h2 : (m.programs.length : Int) = m.state.config.threads) (h3 : (m.next.length : Int) = m.state.config.threads) (h4 : m.programs.all progOk = true) (h5 : nextOk m = true) (h6 : 0 ≤ m.time ∧ m.time ≤ 1000000) (h7 : ¬ 80 < (m.events.length : Int)) : machineOk m = m.events.all (eventOk m.next.length m.time) := by
  unfold machineOk
  rw [h1, decide_eq_true (show _ ∧ _ from ⟨h2, h3⟩), h4, h5, decide_eq_true h6, decide_eq_true (show (m.events.length : Int) ≤ 80 by omega)]; rfl
theorem ma_no1 (h : (((stateOk m.state = false ∨ ¬ (m.programs.length : Int) = m.state.config.threads) ∨ ¬ (m.next.length : Int) = m.state.config.threads) ∨ ¬ (0 ≤ m.time ∧ m.time ≤ 1000000)) ∨ 80 < (m.events.length : Int)) : machineOk m = false := by
  unfold machineOk
  rcases h with (((h | h) | h) | h) | h
  · rw [h]; rfl
  · rw [decide_eq_false (show ¬ (_ ∧ _) from fun e => h e.1)]; simp
  · rw [decide_eq_false (show ¬ (_ ∧ _) from fun e => h e.2)]; simp
  · rw [decide_eq_false h]; simp
  · rw [decide_eq_false (show ¬ (m.events.length : Int) ≤ 80 by omega)]; simp
theorem ma_progs (h : m.programs.all progOk = false) : machineOk m = false := by unfold machineOk; rw [h]; simp
theorem ma_next (h : nextOk m = false) : machineOk m = false := by unfold machineOk; rw [h]; simp
theorem ma_events (h : m.events.all (eventOk m.next.length m.time) = false) : machineOk m = false := by unfold machineOk; rw [h]; simp
end
def progsOk (c : Config) (ps : List (List Sl.Op)) : Bool := decide c.ok && decide ((ps.length : Int) = c.threads) && ps.all progOk

set_option maxHeartbeats 4000000 in
set_option maxRecDepth 20000 in
theorem specProgram_c {W : World} {va : Value} {xs : List Sl.Op} (ha : opEK.Rd W va xs) : Calls Tryz.prog 29 #[va] W (Ret fun v w' => v = .bool (progOk xs) ∧ Below W.heap.size W w') := by
  refine calls_fr Tryz.func29 rfl Tryz.ntmps29 rfl ?_
  intro a hF
  have hS := Sep.refl W
  obtain ⟨A_a, q_a, rfl, hq_a, hn_a⟩ := ha.sl; unfold maxLen at hn_a
  refine ws fun K1 hK1 => ?_
  refine wl_mvs (A := [_]) hF rfl ?_; clear hF a; intro a hF
  refine wl_nil (hK1 _ _ ?_)
  refine wp_seq_k fun K2 hK2 => ?_
  refine ws fun K3 hK3 => ?_
  refine wl_mvs (A := [_]) hF rfl ?_; clear hF a; intro a hF
  refine wl_nil (hK3 _ _ ?_)
  refine wp_block ?_
  have hL_ := ((hF.nil.keep hF (t := 2) rfl).keep hF (t := 0) rfl)
  refine wp_loop_r (σ := Nat) (fun k L_ => (3, vi k) :: L_) (fun k => (k ≤ xs.length) ∧ ((xs.take k).all (fun o => decide o.ok) = true)) (fun k => xs.length - k) 0 hS (hL_.keepE hF (t := 3) rfl rfl) ?_ ?_
  · exact ⟨Nat.zero_le _, rfl⟩
  clear hF hS hL_ a
  rintro k a w1 ⟨hk, hn⟩ hS hF; try dsimp only at hF; try dsimp only at hS
  refine wp_seq_k fun K4 hK4 => ?_
  refine ws fun K5 hK5 => ?_
  refine wl_mvs (A := [_, _]) hF rfl ?_; clear hF a; intro a hF
  refine wl hF rfl rfl rfl (r_len ul49 (hF.ev rfl)) ?_; clear hF a; intro a hF
  refine wl hF rfl rfl rfl (r_lss (hF.ev rfl) (hF.ev rfl)) ?_; clear hF a; intro a hF
  refine wl_nil (hK5 _ _ ?_)
  refine wc_fx (t := 7) hF rfl ?_ ?_ <;> clear hF <;> intro c7 hF <;> try simp only [zb1, zb2, zb3, zb4, zb5, zb6, zb7, zb8] at c7
  ·
    have hlt : k < xs.length := by omega
    have hx := at0_nat hlt
    refine wp_skip ?_
    refine hK4 _ _ ?_
    refine wp_seq_k fun K6 hK6 => ?_
    refine wp_block ?_
    refine ws fun K7 hK7 => ?_
    refine wl_mvs (A := [_, _]) hF rfl ?_; clear hF a; intro a hF
    obtain ⟨g12, o12, m12, q12, hv12, hm12, hl12, hc12⟩ := Rd.atF (ha) (a := a) (X := .tmp 11) (hF.ev rfl) (by omega) (by omega)
    refine wl hF rfl rfl rfl (r_index sl49 ((hF.ev rfl).trans hv12) (hF.ev rfl) (by omega) (by first | omega | (simp at hm12; omega))) ?_; clear hF a; intro a hF
    refine wl hF rfl rfl rfl (r_loadn ag66 (hF.ev rfl) (fun j_ u_ hu_ => cellB hS.old (hc12 j_ u_ hu_)) sz66) ?_; clear hF a; intro a hF
    refine wl_call hF rfl rfl rfl (r_call1 en55 (hF.ev rfl)) (specIsOp_c _) ?_; clear hF a; rintro v w2 a ⟨rfl, hB_⟩ hF; replace hS := hS.ext hB_; clear hB_
    refine wl hF rfl rfl rfl (r_not (hF.ev rfl)) ?_; clear hF a; intro a hF
    refine wl_nil (hK7 _ _ ?_)
    refine wc_fx (t := 15) hF rfl ?_ ?_ <;> clear hF <;> intro c15 hF <;> try simp only [zb1, zb2, zb3, zb4, zb5, zb6, zb7, zb8] at c15
    ·
      refine ws fun K8 hK8 => ?_
      refine wl_mvs (A := [_]) hF rfl ?_; clear hF a; intro a hF
      refine wl_nil (hK8 _ _ ?_)
      refine wp_ret ?_
      try simp only [Exit.then, Exit.inBlock, ↓reduceIte]
      refine ret1 rfl hF rfl ⟨congrArg Value.bool (Eq.symm ?_), hS.old⟩
      unfold progOk
      first
        | rw [all_no hx (decide_eq_false c15), Bool.false_and]
        | rw [all_done hn (by omega), Bool.true_and]
    refine wp_skip ?_
    simp only [Exit.then, Exit.inBlock, ↓reduceIte]
    refine hK6 _ _ ?_
    refine wp_region_lit ?_
    refine wl_mvs (A := [_]) hF rfl ?_; clear hF a; intro a hF
    refine wl hF rfl rfl rfl (r_add (hF.ev rfl) ec) ?_; clear hF a; intro a hF
    refine wl_mvs (A := [_]) hF rfl ?_; clear hF a; intro a hF
    refine wl_nil ?_
    try simp only [Exit.then, Exit.inBlock, ↓reduceIte]
    refine ⟨k + 1, ⟨by omega, all_nxt hn hx (decide_eq_true c15)⟩, hS, (((hF.nil.keep hF (t := 2) rfl).keep hF (t := 0) rfl).keepE hF (t := 3) rfl (wk (by omega))), by omega⟩
  refine wp_exit ?_
  simp only [Exit.then, Exit.inBlock, ↓reduceIte]
  refine hK2 _ _ ?_
  refine ws fun K9 hK9 => ?_
  refine wl_mvs (A := [_]) hF rfl ?_; clear hF a; intro a hF
  refine wl hF rfl rfl rfl (r_len ul49 (hF.ev rfl)) ?_; clear hF a; intro a hF
  refine wl hF rfl rfl rfl (r_leq (hF.ev rfl) ec) ?_; clear hF a; intro a hF
  refine wl_mvs (A := [_]) hF rfl ?_; clear hF a; intro a hF
  refine wl_nil (hK9 _ _ ?_)
  refine wp_ret ?_
  try simp only [Exit.then, Exit.inBlock, ↓reduceIte]
  refine ret1 rfl hF rfl ⟨congrArg Value.bool (Eq.symm ?_), hS.old⟩
  unfold progOk
  first
    | rw [all_no hx (decide_eq_false c15), Bool.false_and]
    | rw [all_done hn (by omega), Bool.true_and]

set_option maxHeartbeats 4000000 in
set_option maxRecDepth 20000 in
theorem implProgram_c {W : World} {va : Value} {xs : List Sl.Op} (ha : opEK.Rd W va xs) : Calls Tryz.prog 71 #[va] W (Ret fun v w' => v = .bool (progOk xs) ∧ Below W.heap.size W w') := by
  refine calls_fr Tryz.func71 rfl Tryz.ntmps71 rfl ?_
  intro a hF
  have hS := Sep.refl W
  obtain ⟨A_a, q_a, rfl, hq_a, hn_a⟩ := ha.sl; unfold maxLen at hn_a
  refine ws fun K1 hK1 => ?_
  refine wl_mvs (A := [_]) hF rfl ?_; clear hF a; intro a hF
  refine wl_nil (hK1 _ _ ?_)
  refine wp_seq_k fun K2 hK2 => ?_
  refine ws fun K3 hK3 => ?_
  refine wl_mvs (A := [_]) hF rfl ?_; clear hF a; intro a hF
  refine wl hF rfl rfl rfl (r_len ul49 (hF.ev rfl)) ?_; clear hF a; intro a hF
  refine wl_mvs (A := [_]) hF rfl ?_; clear hF a; intro a hF
  refine wl_nil (hK3 _ _ ?_)
  refine wp_block ?_
  have hL_ := ((((hF.nil.keep hF (t := 6) rfl).keep hF (t := 5) rfl).keep hF (t := 2) rfl).keep hF (t := 0) rfl)
  refine wp_loop_r (σ := Nat) (fun k L_ => (7, vi k) :: L_) (fun k => (k ≤ xs.length) ∧ ((xs.take k).all (fun o => decide o.ok) = true)) (fun k => xs.length - k) 0 hS (hL_.keepE hF (t := 7) rfl rfl) ?_ ?_
  · exact ⟨Nat.zero_le _, rfl⟩
  clear hF hS hL_ a
  rintro k a w1 ⟨hk, hn⟩ hS hF; try dsimp only at hF; try dsimp only at hS
  refine ws fun K4 hK4 => ?_
  refine wl hF rfl rfl rfl (r_lss (hF.ev rfl) (hF.ev rfl)) ?_; clear hF a; intro a hF
  refine wl_nil (hK4 _ _ ?_)
  refine wp_seq_k fun K5 hK5 => ?_
  refine wc_fx (t := 8) hF rfl ?_ ?_ <;> clear hF <;> intro c8 hF <;> try simp only [zb1, zb2, zb3, zb4, zb5, zb6, zb7, zb8] at c8
  ·
    have hlt : k < xs.length := by omega
    have hx := at0_nat hlt
    refine wp_skip ?_
    refine hK5 _ _ ?_
    refine wp_seq_k fun K6 hK6 => ?_
    refine wp_block ?_
    refine ws fun K7 hK7 => ?_
    obtain ⟨g9, o9, m9, q9, hv9, hm9, hl9, hc9⟩ := Rd.atF (ha) (a := a) (X := .tmp 7) (hF.ev rfl) (by omega) (by omega)
    refine wl hF rfl rfl rfl (r_index sl49 ((hF.ev rfl).trans hv9) (hF.ev rfl) (by omega) (by first | omega | (simp at hm9; omega))) ?_; clear hF a; intro a hF
    refine wl hF rfl rfl rfl (r_loadn ag66 (hF.ev rfl) (fun j_ u_ hu_ => cellB hS.old (hc9 j_ u_ hu_)) sz66) ?_; clear hF a; intro a hF
    refine wl_alloc hF hS rfl zr66 ?_; clear hF a; intro g1 w2 a hS_ hB_ hF; replace hS := hS_; clear hS_ hB_
    refine wl_storen (cs' := [_, _, _]) hF hS (i := 0) rfl (hF.ev rfl) (hF.ev rfl) sz66 ⟨rfl, rfl⟩ rfl rfl ?_; intro w3 hS_; replace hS := hS_; clear hS_; dsimp only [List.set] at hS
    refine wl_nil (hK7 _ _ ?_)
    refine ws fun K8 hK8 => ?_
    refine wl hF rfl rfl rfl (r_loadn ag66 (hF.ev rfl) (hS.box_rd (i := 0) rfl) sz66) ?_; clear hF a; intro a hF
    refine wl_call hF rfl rfl rfl (r_call1 en40 (hF.ev rfl)) (implIsOp_c _) ?_; clear hF a; rintro v w4 a ⟨rfl, hB_⟩ hF; replace hS := hS.ext hB_; clear hB_
    refine wl hF rfl rfl rfl (r_not (hF.ev rfl)) ?_; clear hF a; intro a hF
    refine wl_nil (hK8 _ _ ?_)
    refine wc_fx (t := 13) hF rfl ?_ ?_ <;> clear hF <;> intro c13 hF <;> try simp only [zb1, zb2, zb3, zb4, zb5, zb6, zb7, zb8] at c13
    ·
      refine ws fun K9 hK9 => ?_
      refine wl_mvs (A := [_]) hF rfl ?_; clear hF a; intro a hF
      refine wl_nil (hK9 _ _ ?_)
      refine wp_ret ?_
      try simp only [Exit.then, Exit.inBlock, ↓reduceIte]
      refine ret1 rfl hF rfl ⟨congrArg Value.bool (Eq.symm ?_), hS.old⟩
      unfold progOk
      first
        | rw [all_no hx (decide_eq_false c13), Bool.false_and]
        | rw [all_done hn (by omega), Bool.true_and]
    refine wp_skip ?_
    simp only [Exit.then, Exit.inBlock, ↓reduceIte]
    refine hK6 _ _ ?_
    refine wp_region_lit ?_
    refine wl hF rfl rfl rfl (r_add (hF.ev rfl) ec) ?_; clear hF a; intro a hF
    refine wl_mvs (A := [_]) hF rfl ?_; clear hF a; intro a hF
    refine wl_nil ?_
    try simp only [Exit.then, Exit.inBlock, ↓reduceIte]
    refine ⟨k + 1, ⟨by omega, all_nxt hn hx (decide_eq_true c13)⟩, (hS.pick [] (by decide) rfl), (((((hF.nil.keep hF (t := 6) rfl).keep hF (t := 5) rfl).keep hF (t := 2) rfl).keep hF (t := 0) rfl).keepE hF (t := 7) rfl (wk (by omega))), by omega⟩
  refine wp_exit ?_
  simp only [Exit.then, Exit.inBlock, ↓reduceIte]
  refine hK2 _ _ ?_
  refine ws fun K10 hK10 => ?_
  refine wl_mvs (A := [_]) hF rfl ?_; clear hF a; intro a hF
  refine wl hF rfl rfl rfl (r_len ul49 (hF.ev rfl)) ?_; clear hF a; intro a hF
  refine wl hF rfl rfl rfl (r_leq (hF.ev rfl) ec) ?_; clear hF a; intro a hF
  refine wl_mvs (A := [_]) hF rfl ?_; clear hF a; intro a hF
  refine wl_nil (hK10 _ _ ?_)
  refine wp_ret ?_
  try simp only [Exit.then, Exit.inBlock, ↓reduceIte]
  refine ret1 rfl hF rfl ⟨congrArg Value.bool (Eq.symm ?_), hS.old⟩
  unfold progOk
  first
    | rw [all_no hx (decide_eq_false c13), Bool.false_and]
    | rw [all_done hn (by omega), Bool.true_and]

set_option maxHeartbeats 4000000 in
set_option maxRecDepth 20000 in
theorem arePrograms1_c {W : World} {va : Value} {xs : List Sl.Op} (ha : opEK.Rd W va xs) : Calls Tryz.prog 70 #[va] W (Ret fun v w' => v = .bool (!progOk xs) ∧ Below W.heap.size W w') := by
  refine calls_fr Tryz.func70 rfl Tryz.ntmps70 rfl ?_
  intro a hF
  have hS := Sep.refl W
  refine ws fun K1 hK1 => ?_
  refine wl_mvs (A := [_]) hF rfl ?_; clear hF a; intro a hF
  refine wl_nil (hK1 _ _ ?_)
  refine ws fun K2 hK2 => ?_
  refine wl_mvs (A := [_]) hF rfl ?_; clear hF a; intro a hF
  refine wl_call hF rfl rfl rfl (r_call1 en71 (hF.ev rfl)) (implProgram_c (hS.rd ha)) ?_; clear hF a; rintro v w1 a ⟨rfl, hB_⟩ hF; replace hS := hS.ext hB_; clear hB_
  refine wl hF rfl rfl rfl (r_not (hF.ev rfl)) ?_; clear hF a; intro a hF
  refine wl_mvs (A := [_]) hF rfl ?_; clear hF a; intro a hF
  refine wl_nil (hK2 _ _ ?_)
  refine wp_ret ?_
  try simp only [Exit.then, Exit.inBlock, ↓reduceIte]
  exact ret1 rfl hF rfl ⟨rfl, hS.old⟩

set_option maxHeartbeats 4000000 in
set_option maxRecDepth 20000 in
theorem indexFuncO_c {W : World} {va : Value} {xs : List (List Sl.Op)} {f : FuncId} {cap : Array Value} {p : (List Sl.Op) → Bool} (ha : (sliceEK opEK).Rd W va xs) (hen : enterB Tryz.prog f = true) (hf : ∀ (w : World) (v : Value) (x : (List Sl.Op)), Below W.heap.size W w → opEK.Rd w v x → Calls Tryz.prog f (#[v] ++ cap) w (Ret fun v w' => v = .bool (p x) ∧ Below w.heap.size w w')) : Calls Tryz.prog 92 #[va, .func (.func f) #[] cap] W (Ret fun v w' => (∃ j : Int, v = vi j ∧ (0 ≤ j ↔ xs.any p = true)) ∧ Below W.heap.size W w') := by
  refine calls_fr Tryz.func92 rfl Tryz.ntmps92 rfl ?_
  intro a hF
  obtain ⟨A_a, q_a, rfl, hq_a, hn_a⟩ := ha.sl; unfold maxLen at hn_a
  have hS := Sep.refl W
  refine ws fun K1 hK1 => ?_
  refine wl_mvs (A := [_]) hF rfl ?_; clear hF a; intro a hF
  refine wl_nil (hK1 _ _ ?_)
  refine wp_seq_k fun K2 hK2 => ?_
  refine ws fun K3 hK3 => ?_
  refine wl_mvs (A := [_]) hF rfl ?_; clear hF a; intro a hF
  refine wl hF rfl rfl rfl (r_len ul38 (hF.ev rfl)) ?_; clear hF a; intro a hF
  refine wl_mvs (A := [_]) hF rfl ?_; clear hF a; intro a hF
  refine wl_nil (hK3 _ _ ?_)
  refine wp_block ?_
  refine wp_loop_g (σ := Nat) (fun k a w => k ≤ xs.length ∧ (xs.take k).any p = false ∧ Sep W [] w ∧ Fr 19 [(8, vi k), (7, vi xs.length), (1, .func (.func f) #[] cap), (0, .slice A_a xs.length q_a)] a) (fun k => xs.length - k) 0 ?_ ?_
  · exact ⟨Nat.zero_le _, by simp, hS, ((((hF.nil.keep hF (t := 0) rfl).keep hF (t := 1) rfl).keep hF (t := 7) rfl).keep hF (t := 8) rfl)⟩
  clear hF hS a
  rintro k a w ⟨hk, hn, hS, hF⟩
  refine ws fun K4 hK4 => ?_
  refine wl hF rfl rfl rfl (r_lss (hF.ev rfl) (hF.ev rfl)) ?_; clear hF a; intro a hF
  refine wl_nil (hK4 _ _ ?_)
  refine wp_seq_k fun K5 hK5 => ?_
  first | refine wc_dec (hF.ev rfl) (fun c9 => ?_) (fun c9 => ?_) | refine wc_ndec (hF.ev rfl) (fun c9 => ?_) (fun c9 => ?_) | refine wc_b (hF.ev rfl) (fun c9 => ?_) (fun c9 => ?_)
  ·
    have hlt : k < xs.length := by omega
    obtain ⟨x, hx⟩ : ∃ x, xs[k]? = some x := ⟨_, List.getElem?_eq_getElem hlt⟩
    refine wp_skip ?_
    refine hK5 _ _ ?_
    refine wp_seq_k fun K6 hK6 => ?_
    refine wp_block ?_
    refine ws fun K7 hK7 => ?_
    refine wl_mvs (A := [_, _]) hF rfl ?_; clear hF a; intro a hF
    refine wl_nil (hK7 _ _ ?_)
    refine ws fun K8 hK8 => ?_
    refine wl_mvs (A := [_, _, _]) hF rfl ?_; clear hF a; intro a hF
    obtain ⟨g14, o14, m14, q14, cs14, hv14, hm14, hl14, hk14, hz14, hc14⟩ := Rd.idx (ha) hx
    obtain ⟨v14, rfl, hr14⟩ := hk14; obtain ⟨Ae14, qe14, rfl, _, hme14⟩ := hr14.sl; unfold maxLen at hme14
    refine wl hF rfl rfl rfl (r_index sl38 ((hF.ev rfl).trans hv14) (hF.ev rfl) (by omega) (by omega)) ?_; clear hF a; intro a hF
    refine wl hF rfl rfl rfl (r_load1 sc49 (hF.ev rfl) (cellB hS.old (hc14 0 _ rfl))) ?_; clear hF a; intro a hF
    refine wl_call hF rfl rfl rfl (r_callv1 hen (hF.ev rfl) (hF.ev rfl)) (hf _ _ x hS.old (hS.rd hr14)) ?_; clear hF a; rintro v w1 a ⟨rfl, hB_⟩ hF; replace hS := hS.ext hB_; clear hB_
    refine wl_nil (hK8 _ _ ?_)
    first | refine wc_dec (hF.ev rfl) (fun c16 => ?_) (fun c16 => ?_) | refine wc_ndec (hF.ev rfl) (fun c16 => ?_) (fun c16 => ?_) | refine wc_b (hF.ev rfl) (fun c16 => ?_) (fun c16 => ?_)
    ·
      refine ws fun K9 hK9 => ?_
      refine wl_mvs (A := [_, _]) hF rfl ?_; clear hF a; intro a hF
      refine wl_nil (hK9 _ _ ?_)
      refine wp_ret ?_
      try simp only [Exit.then, Exit.inBlock, ↓reduceIte]
      first | exact ret1 rfl hF rfl ⟨⟨_, rfl, ⟨fun _ => any_at hx c16, fun _ => by omega⟩⟩, hS.old⟩ | exact ret1 rfl hF rfl ⟨⟨_, rfl, ⟨fun h => absurd h (by omega), fun h => absurd h (by rw [any_all hn hk (by assumption)]; decide)⟩⟩, hS.old⟩
    refine wp_skip ?_
    simp only [Exit.then, Exit.inBlock, ↓reduceIte]
    refine hK6 _ _ ?_
    refine wp_region_lit ?_
    refine wl hF rfl rfl rfl (r_add (hF.ev rfl) ec) ?_; clear hF a; intro a hF
    refine wl_mvs (A := [_]) hF rfl ?_; clear hF a; intro a hF
    refine wl_nil ?_
    try simp only [Exit.then, Exit.inBlock, ↓reduceIte]
    exact ⟨k + 1, ⟨by omega, any_next hn hx c16, hS, ((((hF.nil.keep hF (t := 0) rfl).keep hF (t := 1) rfl).keep hF (t := 7) rfl).keepE hF (t := 8) rfl (wk (by omega)))⟩, by omega⟩
  refine wp_exit ?_
  simp only [Exit.then, Exit.inBlock, ↓reduceIte]
  refine hK2 _ _ ?_
  refine ws fun K10 hK10 => ?_
  refine wl_mvs (A := [_]) hF rfl ?_; clear hF a; intro a hF
  refine wl_nil (hK10 _ _ ?_)
  refine wp_ret ?_
  try simp only [Exit.then, Exit.inBlock, ↓reduceIte]
  first | exact ret1 rfl hF rfl ⟨⟨_, rfl, ⟨fun _ => any_at hx c16, fun _ => by omega⟩⟩, hS.old⟩ | exact ret1 rfl hF rfl ⟨⟨_, rfl, ⟨fun h => absurd h (by omega), fun h => absurd h (by rw [any_all hn hk (by assumption)]; decide)⟩⟩, hS.old⟩

set_option maxHeartbeats 4000000 in
set_option maxRecDepth 20000 in
theorem containsFuncO_c {W : World} {va : Value} {xs : List (List Sl.Op)} {f : FuncId} {cap : Array Value} {p : (List Sl.Op) → Bool} (ha : (sliceEK opEK).Rd W va xs) (hen : enterB Tryz.prog f = true) (hf : ∀ (w : World) (v : Value) (x : (List Sl.Op)), Below W.heap.size W w → opEK.Rd w v x → Calls Tryz.prog f (#[v] ++ cap) w (Ret fun v w' => v = .bool (p x) ∧ Below w.heap.size w w')) : Calls Tryz.prog 69 #[va, .func (.func f) #[] cap] W (Ret fun v w' => v = .bool (xs.any p) ∧ Below W.heap.size W w') := by
  refine calls_fr Tryz.func69 rfl Tryz.ntmps69 rfl ?_
  intro a hF
  have hS := Sep.refl W
  refine ws fun K1 hK1 => ?_
  refine wl_mvs (A := [_]) hF rfl ?_; clear hF a; intro a hF
  refine wl_nil (hK1 _ _ ?_)
  refine ws fun K2 hK2 => ?_
  refine wl_mvs (A := [_, _]) hF rfl ?_; clear hF a; intro a hF
  refine wl_call hF rfl rfl rfl (r_call2 en92 (hF.ev rfl) (hF.ev rfl)) (indexFuncO_c (hS.rd ha) hen hf) ?_; clear hF a; rintro v w1 a ⟨⟨j, rfl, hj⟩, hB_⟩ hF; replace hS := hS.ext hB_; clear hB_
  refine wl hF rfl rfl rfl (r_geq (hF.ev rfl) ec) ?_; clear hF a; intro a hF
  refine wl_mvs (A := [_]) hF rfl ?_; clear hF a; intro a hF
  refine wl_nil (hK2 _ _ ?_)
  refine wp_ret ?_
  try simp only [Exit.then, Exit.inBlock, ↓reduceIte]
  refine ret1 rfl hF rfl ⟨congrArg Value.bool ?_, hS.old⟩
  cases hb : xs.any p with
  | true => exact decide_eq_true (hj.2 hb)
  | false => exact decide_eq_false (fun h => by rw [hj.1 h] at hb; cases hb)

set_option maxHeartbeats 4000000 in
set_option maxRecDepth 20000 in
theorem indexFuncV_c {W : World} {va : Value} {xs : List Sl.Event} {f : FuncId} {cap : Array Value} {p : Sl.Event → Bool} (ha : eventEK.Rd W va xs) (hen : enterB Tryz.prog f = true) (hf : ∀ (w : World) (x : Sl.Event), x ∈ xs → Below W.heap.size W w → Calls Tryz.prog f (#[.agg x.enc.toArray] ++ cap) w (Ret fun v w' => v = .bool (p x) ∧ Below w.heap.size w w')) : Calls Tryz.prog 72 #[va, .func (.func f) #[] cap] W (Ret fun v w' => (∃ j : Int, v = vi j ∧ (0 ≤ j ↔ xs.any p = true)) ∧ Below W.heap.size W w') := by
  refine calls_fr Tryz.func72 rfl Tryz.ntmps72 rfl ?_
  intro a hF
  obtain ⟨A_a, q_a, rfl, hq_a, hn_a⟩ := ha.sl; unfold maxLen at hn_a
  have hS := Sep.refl W
  refine ws fun K1 hK1 => ?_
  refine wl_mvs (A := [_]) hF rfl ?_; clear hF a; intro a hF
  refine wl_nil (hK1 _ _ ?_)
  refine wp_seq_k fun K2 hK2 => ?_
  refine ws fun K3 hK3 => ?_
  refine wl_mvs (A := [_]) hF rfl ?_; clear hF a; intro a hF
  refine wl hF rfl rfl rfl (r_len ul39 (hF.ev rfl)) ?_; clear hF a; intro a hF
  refine wl_mvs (A := [_]) hF rfl ?_; clear hF a; intro a hF
  refine wl_nil (hK3 _ _ ?_)
  refine wp_block ?_
  refine wp_loop_g (σ := Nat) (fun k a w => k ≤ xs.length ∧ (xs.take k).any p = false ∧ Sep W [] w ∧ Fr 19 [(8, vi k), (7, vi xs.length), (1, .func (.func f) #[] cap), (0, .slice A_a xs.length q_a)] a) (fun k => xs.length - k) 0 ?_ ?_
  · exact ⟨Nat.zero_le _, by simp, hS, ((((hF.nil.keep hF (t := 0) rfl).keep hF (t := 1) rfl).keep hF (t := 7) rfl).keep hF (t := 8) rfl)⟩
  clear hF hS a
  rintro k a w ⟨hk, hn, hS, hF⟩
  refine ws fun K4 hK4 => ?_
  refine wl hF rfl rfl rfl (r_lss (hF.ev rfl) (hF.ev rfl)) ?_; clear hF a; intro a hF
  refine wl_nil (hK4 _ _ ?_)
  refine wp_seq_k fun K5 hK5 => ?_
  first | refine wc_dec (hF.ev rfl) (fun c9 => ?_) (fun c9 => ?_) | refine wc_ndec (hF.ev rfl) (fun c9 => ?_) (fun c9 => ?_) | refine wc_b (hF.ev rfl) (fun c9 => ?_) (fun c9 => ?_)
  ·
    have hlt : k < xs.length := by omega
    obtain ⟨x, hx⟩ : ∃ x, xs[k]? = some x := ⟨_, List.getElem?_eq_getElem hlt⟩
    refine wp_skip ?_
    refine hK5 _ _ ?_
    refine wp_seq_k fun K6 hK6 => ?_
    refine wp_block ?_
    refine ws fun K7 hK7 => ?_
    refine wl_mvs (A := [_, _]) hF rfl ?_; clear hF a; intro a hF
    refine wl_nil (hK7 _ _ ?_)
    refine ws fun K8 hK8 => ?_
    refine wl_mvs (A := [_, _, _]) hF rfl ?_; clear hF a; intro a hF
    obtain ⟨g14, o14, m14, q14, hv14, hm14, hl14, hc14⟩ := Rd.idxF (hS.rd ha) hx
    refine wl hF rfl rfl rfl (r_index sl39 ((hF.ev rfl).trans hv14) (hF.ev rfl) (by omega) (by omega)) ?_; clear hF a; intro a hF
    refine wl hF rfl rfl rfl (r_loadn ag76 (hF.ev rfl) (hc14) sz76) ?_; clear hF a; intro a hF
    refine wl_call hF rfl rfl rfl (r_callv1 hen (hF.ev rfl) (hF.ev rfl)) (hf _ x (List.mem_of_getElem? hx) hS.old) ?_; clear hF a; rintro v w1 a ⟨rfl, hB_⟩ hF; replace hS := hS.ext hB_; clear hB_
    refine wl_nil (hK8 _ _ ?_)
    first | refine wc_dec (hF.ev rfl) (fun c16 => ?_) (fun c16 => ?_) | refine wc_ndec (hF.ev rfl) (fun c16 => ?_) (fun c16 => ?_) | refine wc_b (hF.ev rfl) (fun c16 => ?_) (fun c16 => ?_)
    ·
      refine ws fun K9 hK9 => ?_
      refine wl_mvs (A := [_, _]) hF rfl ?_; clear hF a; intro a hF
      refine wl_nil (hK9 _ _ ?_)
      refine wp_ret ?_
      try simp only [Exit.then, Exit.inBlock, ↓reduceIte]
      first | exact ret1 rfl hF rfl ⟨⟨_, rfl, ⟨fun _ => any_at hx c16, fun _ => by omega⟩⟩, hS.old⟩ | exact ret1 rfl hF rfl ⟨⟨_, rfl, ⟨fun h => absurd h (by omega), fun h => absurd h (by rw [any_all hn hk (by assumption)]; decide)⟩⟩, hS.old⟩
    refine wp_skip ?_
    simp only [Exit.then, Exit.inBlock, ↓reduceIte]
    refine hK6 _ _ ?_
    refine wp_region_lit ?_
    refine wl hF rfl rfl rfl (r_add (hF.ev rfl) ec) ?_; clear hF a; intro a hF
    refine wl_mvs (A := [_]) hF rfl ?_; clear hF a; intro a hF
    refine wl_nil ?_
    try simp only [Exit.then, Exit.inBlock, ↓reduceIte]
    exact ⟨k + 1, ⟨by omega, any_next hn hx c16, hS, ((((hF.nil.keep hF (t := 0) rfl).keep hF (t := 1) rfl).keep hF (t := 7) rfl).keepE hF (t := 8) rfl (wk (by omega)))⟩, by omega⟩
  refine wp_exit ?_
  simp only [Exit.then, Exit.inBlock, ↓reduceIte]
  refine hK2 _ _ ?_
  refine ws fun K10 hK10 => ?_
  refine wl_mvs (A := [_]) hF rfl ?_; clear hF a; intro a hF
  refine wl_nil (hK10 _ _ ?_)
  refine wp_ret ?_
  try simp only [Exit.then, Exit.inBlock, ↓reduceIte]
  first | exact ret1 rfl hF rfl ⟨⟨_, rfl, ⟨fun _ => any_at hx c16, fun _ => by omega⟩⟩, hS.old⟩ | exact ret1 rfl hF rfl ⟨⟨_, rfl, ⟨fun h => absurd h (by omega), fun h => absurd h (by rw [any_all hn hk (by assumption)]; decide)⟩⟩, hS.old⟩

set_option maxHeartbeats 4000000 in
set_option maxRecDepth 20000 in
theorem containsFuncV_c {W : World} {va : Value} {xs : List Sl.Event} {f : FuncId} {cap : Array Value} {p : Sl.Event → Bool} (ha : eventEK.Rd W va xs) (hen : enterB Tryz.prog f = true) (hf : ∀ (w : World) (x : Sl.Event), x ∈ xs → Below W.heap.size W w → Calls Tryz.prog f (#[.agg x.enc.toArray] ++ cap) w (Ret fun v w' => v = .bool (p x) ∧ Below w.heap.size w w')) : Calls Tryz.prog 38 #[va, .func (.func f) #[] cap] W (Ret fun v w' => v = .bool (xs.any p) ∧ Below W.heap.size W w') := by
  refine calls_fr Tryz.func38 rfl Tryz.ntmps38 rfl ?_
  intro a hF
  have hS := Sep.refl W
  refine ws fun K1 hK1 => ?_
  refine wl_mvs (A := [_]) hF rfl ?_; clear hF a; intro a hF
  refine wl_nil (hK1 _ _ ?_)
  refine ws fun K2 hK2 => ?_
  refine wl_mvs (A := [_, _]) hF rfl ?_; clear hF a; intro a hF
  refine wl_call hF rfl rfl rfl (r_call2 en72 (hF.ev rfl) (hF.ev rfl)) (indexFuncV_c (hS.rd ha) hen hf) ?_; clear hF a; rintro v w1 a ⟨⟨j, rfl, hj⟩, hB_⟩ hF; replace hS := hS.ext hB_; clear hB_
  refine wl hF rfl rfl rfl (r_geq (hF.ev rfl) ec) ?_; clear hF a; intro a hF
  refine wl_mvs (A := [_]) hF rfl ?_; clear hF a; intro a hF
  refine wl_nil (hK2 _ _ ?_)
  refine wp_ret ?_
  try simp only [Exit.then, Exit.inBlock, ↓reduceIte]
  refine ret1 rfl hF rfl ⟨congrArg Value.bool ?_, hS.old⟩
  cases hb : xs.any p with
  | true => exact decide_eq_true (hj.2 hb)
  | false => exact decide_eq_false (fun h => by rw [hj.1 h] at hb; cases hb)

set_option maxHeartbeats 4000000 in
set_option maxRecDepth 20000 in
theorem arePrograms_c {W : World} {c : Config} {va : Value} {xs : List (List Sl.Op)} (ha : (sliceEK opEK).Rd W va xs) : Calls Tryz.prog 36 #[.agg c.enc.toArray, va] W (Ret fun v w' => v = .bool (progsOk c xs) ∧ Below W.heap.size W w') := by
  refine calls_fr Tryz.func36 rfl Tryz.ntmps36 rfl ?_
  intro a hF
  have hS := Sep.refl W
  obtain ⟨A_a, q_a, rfl, hq_a, hn_a⟩ := ha.sl; unfold maxLen at hn_a
  refine ws fun K1 hK1 => ?_
  refine wl_box (cs := [_, _, _, _, _, _]) hF hS rfl (hF.ev rfl) rfl ?_; clear hF a; intro g1 w1 a hS_ hB_ hF; replace hS := hS_; clear hS_ hB_
  refine wl_mvs (A := [_]) hF rfl ?_; clear hF a; intro a hF
  refine wl_nil (hK1 _ _ ?_)
  refine ws fun K2 hK2 => ?_
  refine wl hF rfl rfl rfl (r_loadn ag34 (hF.ev rfl) (hS.box_rd (i := 0) rfl) sz34) ?_; clear hF a; intro a hF
  refine wl_call hF rfl rfl rfl (r_call1 en59 (hF.ev rfl)) (implIsConfig_c _) ?_; clear hF a; rintro v w2 a ⟨rfl, hB_⟩ hF; replace hS := hS.ext hB_; clear hB_
  refine wl_mvs (A := [_]) hF rfl ?_; clear hF a; intro a hF
  apply wl_and (A := [_, _, _, _, _, _]) (pk := 13) hF hS (tc := 7) rfl
  ·
    intro hg7 a hF; try simp only [zb1, zb2, zb3, zb4, zb5, zb6, zb7, zb8] at hg7
    refine wl_mvs (A := [_]) hF rfl ?_; clear hF a; intro a hF
    refine wl_take hF rfl rfl rfl rfl ?_
    refine wl hF rfl rfl rfl (r_len ul38 (hF.ev rfl)) ?_; clear hF a; intro a hF
    refine wl_take hF rfl rfl rfl rfl ?_
    refine wl hF rfl rfl rfl (r_field fo34_0 (hF.ev rfl)) ?_; clear hF a; intro a hF
    refine wl_take hF rfl rfl rfl rfl ?_
    refine wl hF rfl rfl rfl (r_load1 sc3 (hF.ev rfl) (hS.box (i := 0) rfl rfl)) ?_; clear hF a; intro a hF
    refine wl_take hF rfl rfl rfl rfl ?_
    refine wl hF rfl rfl rfl (r_eql (hF.ev rfl) (hF.ev rfl)) ?_; clear hF a; intro a hF
    refine wl hF rfl rfl rfl (r_pick_t (hF.ev rfl) (hF.ev rfl)) ?_; clear hF a; intro a hF
    exact wl_nil ⟨rfl, (Fr.pre (A := [_, _, _, _, _, _]) hF rfl).keep hF (t := 13) rfl, hS⟩
  ·
    intro hg7 a hF; try simp only [zb1, zb2, zb3, zb4, zb5, zb6, zb7, zb8] at hg7
    refine wl_mvs (A := [_, _, _, _, _]) hF rfl ?_; clear hF a; intro a hF
    refine wl hF rfl rfl rfl (r_pick_f (hF.ev rfl) ec) ?_; clear hF a; intro a hF
    exact wl_nil ⟨rfl, (Fr.pre (A := [_, _, _, _, _, _]) hF rfl).keep hF (t := 13) rfl, hS⟩
  clear hF a hS; intro a w3 hF hS
  refine wl_mvs (A := [_]) hF rfl ?_; clear hF a; intro a hF
  apply wl_and (A := [_, _, _, _]) (pk := 18) hF hS (tc := 14) rfl
  ·
    intro hg14 a hF; try simp only [zb1, zb2, zb3, zb4, zb5, zb6, zb7, zb8] at hg14
    refine wl_mvs (A := [_]) hF rfl ?_; clear hF a; intro a hF
    refine wl_take hF rfl rfl rfl rfl ?_
    refine wl_call hF rfl rfl rfl (r_call2 en69 (hF.ev rfl) ef) (containsFuncO_c (p := fun l => !progOk l) (cap := #[]) (hS.rd ha) (by kernel_rfl) (fun w_ v x hB hr => by rw [app_0]; exact arePrograms1_c hr)) ?_; clear hF a; rintro v w4 a ⟨rfl, hB_⟩ hF; replace hS := hS.ext hB_; clear hB_
    refine wl_take hF rfl rfl rfl rfl ?_
    refine wl hF rfl rfl rfl (r_not (hF.ev rfl)) ?_; clear hF a; intro a hF
    refine wl hF rfl rfl rfl (r_pick_t (hF.ev rfl) (hF.ev rfl)) ?_; clear hF a; intro a hF
    exact wl_nil ⟨rfl, (Fr.pre (A := [_, _, _, _]) hF rfl).keep hF (t := 18) rfl, hS⟩
  ·
    intro hg14 a hF; try simp only [zb1, zb2, zb3, zb4, zb5, zb6, zb7, zb8] at hg14
    refine wl_mvs (A := [_, _, _]) hF rfl ?_; clear hF a; intro a hF
    refine wl hF rfl rfl rfl (r_pick_f (hF.ev rfl) ec) ?_; clear hF a; intro a hF
    exact wl_nil ⟨rfl, (Fr.pre (A := [_, _, _, _]) hF rfl).keep hF (t := 18) rfl, hS⟩
  clear hF a hS; intro a w5 hF hS
  refine wl_mvs (A := [_]) hF rfl ?_; clear hF a; intro a hF
  refine wl_nil (hK2 _ _ ?_)
  refine wp_ret ?_
  try simp only [Exit.then, Exit.inBlock, ↓reduceIte]
  refine ret1 rfl hF rfl ⟨congrArg Value.bool ?_, hS.old⟩
  unfold progsOk
  rw [any_not, Bool.not_not]

set_option maxHeartbeats 4000000 in
set_option maxRecDepth 20000 in
theorem l18Event_c {W : World} {m : Sl.Machine} {cs : List Value} (hm : machineEK.K W m cs) {i : Int} (h0 : 0 ≤ i) (h1 : i < m.events.length) : Calls Tryz.prog 30 #[.agg cs.toArray, vi i] W (Ret fun v w' => v = .bool (eventOk m.next.length m.time (at0 m.events i)) ∧ Below W.heap.size W w') := by
  refine calls_fr Tryz.func30 rfl Tryz.ntmps30 rfl ?_
  intro a hF
  have hS := Sep.refl W
  obtain ⟨v0, v1, v2, v3, v4, v5, rfl, r0, r1, r2, r3, r4, r5⟩ := hm
  have hm : machineEK.K W m (m.encv v0 v1 v2 v3 v4 v5) := ⟨_, _, _, _, _, _, rfl, r0, r1, r2, r3, r4, r5⟩
  obtain ⟨A_a, q_a, rfl, hq_a, hn_a⟩ := r0.sl; unfold maxLen at hn_a
  obtain ⟨A_b, q_b, rfl, hq_b, hn_b⟩ := r1.sl; unfold maxLen at hn_b
  obtain ⟨A_c, q_c, rfl, hq_c, hn_c⟩ := r2.sl; unfold maxLen at hn_c
  obtain ⟨A_d, q_d, rfl, hq_d, hn_d⟩ := r3.sl; unfold maxLen at hn_d
  obtain ⟨A_e, q_e, rfl, hq_e, hn_e⟩ := r4.sl; unfold maxLen at hn_e
  obtain ⟨A_f, q_f, rfl, hq_f, hn_f⟩ := r5.sl; unfold maxLen at hn_f
  have hwl : IntKind.i64.wrap ((m.next.length : Int) - 1) = m.next.length - 1 := w64_id (by omega) (by omega)
  refine ws fun K1 hK1 => ?_
  refine wl_box (cs := [_, _, _, _, _, _, _, _, _, _, _, _, _, _, _, _, _]) hF hS rfl (hF.ev rfl) rfl ?_; clear hF a; intro g1 w1 a hS_ hB_ hF; replace hS := hS_; clear hS_ hB_
  refine wl_mvs (A := [_]) hF rfl ?_; clear hF a; intro a hF
  refine wl_nil (hK1 _ _ ?_)
  refine ws fun K2 hK2 => ?_
  refine wl hF rfl rfl rfl (r_field fo41_3 (hF.ev rfl)) ?_; clear hF a; intro a hF
  refine wl hF rfl rfl rfl (r_load1 sc39 (hF.ev rfl) (hS.box (i := 0) rfl rfl)) ?_; clear hF a; intro a hF
  refine wl_mvs (A := [_]) hF rfl ?_; clear hF a; intro a hF
  obtain ⟨g9, o9, m9, q9, hv9, hm9, hl9, hc9⟩ := Rd.atF (r5) (a := a) (X := .tmp 8) (hF.ev rfl) (by omega) (by omega)
  refine wl hF rfl rfl rfl (r_index sl39 ((hF.ev rfl).trans hv9) (hF.ev rfl) (by omega) (by first | omega | (simp at hm9; omega))) ?_; clear hF a; intro a hF
  refine wl hF rfl rfl rfl (r_loadn ag76 (hF.ev rfl) (fun j_ u_ hu_ => cellB hS.old (hc9 j_ u_ hu_)) sz76) ?_; clear hF a; intro a hF
  refine wl_alloc hF hS rfl zr76 ?_; clear hF a; intro g2 w2 a hS_ hB_ hF; replace hS := hS_; clear hS_ hB_
  refine wl_storen (cs' := [_, _, _, _, _, _, _, _]) hF hS (i := 0) rfl (hF.ev rfl) (hF.ev rfl) sz76 ⟨rfl, rfl⟩ rfl rfl ?_; intro w3 hS_; replace hS := hS_; clear hS_; dsimp only [List.set] at hS
  refine wl_nil (hK2 _ _ ?_)
  refine wp_seq_k fun K3 hK3 => ?_
  refine ws fun K4 hK4 => ?_
  refine wl hF rfl rfl rfl (r_field fo76_0 (hF.ev rfl)) ?_; clear hF a; intro a hF
  refine wl hF rfl rfl rfl (r_load1 sc3 (hF.ev rfl) (hS.box (i := 0) rfl rfl)) ?_; clear hF a; intro a hF
  refine wl hF rfl rfl rfl (r_field fo41_2 (hF.ev rfl)) ?_; clear hF a; intro a hF
  refine wl hF rfl rfl rfl (r_load1 sc24 (hF.ev rfl) (hS.box (i := 1) rfl rfl)) ?_; clear hF a; intro a hF
  refine wl hF rfl rfl rfl (r_len ul24 (hF.ev rfl)) ?_; clear hF a; intro a hF
  refine wl hF rfl rfl rfl (r_sub (hF.ev rfl) ec) ?_; clear hF a; intro a hF
  refine wl_call hF rfl rfl rfl (r_call3 en28 (hF.ev rfl) ec (hF.ev rfl)) (l1In_c _ _ _) ?_; clear hF a; rintro v w4 a ⟨rfl, hB_⟩ hF; replace hS := hS.ext hB_; clear hB_
  refine wl hF rfl rfl rfl (r_not (hF.ev rfl)) ?_; clear hF a; intro a hF
  refine wl_mvs (A := [_]) hF rfl ?_; clear hF a; intro a hF
  apply wl_or (A := [_, _, _, _, _]) (pk := 24) hF hS (tc := 19) rfl
  ·
    intro hg19 a hF; try simp only [zb1, zb2, zb3, zb4, zb5, zb6, zb7, zb8] at hg19
    refine wl_take hF rfl rfl rfl rfl ?_
    refine wl hF rfl rfl rfl (r_field fo76_1 (hF.ev rfl)) ?_; clear hF a; intro a hF
    refine wl_take hF rfl rfl rfl rfl ?_
    refine wl hF rfl rfl rfl (r_loadn ag66 (hF.ev rfl) (hS.boxn (vs := [_, _, _]) (i := 0) (m := 3) rfl rfl) sz66) ?_; clear hF a; intro a hF
    refine wl_take hF rfl rfl rfl rfl ?_
    refine wl_call hF rfl rfl rfl (r_call1 en55 (hF.ev rfl)) (specIsOp_c _) ?_; clear hF a; rintro v w5 a ⟨rfl, hB_⟩ hF; replace hS := hS.ext hB_; clear hB_
    refine wl_take hF rfl rfl rfl rfl ?_
    refine wl hF rfl rfl rfl (r_not (hF.ev rfl)) ?_; clear hF a; intro a hF
    refine wl hF rfl rfl rfl (r_pick_f (hF.ev rfl) (hF.ev rfl)) ?_; clear hF a; intro a hF
    exact wl_nil ⟨rfl, (Fr.pre (A := [_, _, _, _, _]) hF rfl).keep hF (t := 24) rfl, hS⟩
  ·
    intro hg19 a hF; try simp only [zb1, zb2, zb3, zb4, zb5, zb6, zb7, zb8] at hg19
    refine wl_mvs (A := [_, _, _, _]) hF rfl ?_; clear hF a; intro a hF
    refine wl hF rfl rfl rfl (r_pick_t (hF.ev rfl) ec) ?_; clear hF a; intro a hF
    exact wl_nil ⟨rfl, (Fr.pre (A := [_, _, _, _, _]) hF rfl).keep hF (t := 24) rfl, hS⟩
  clear hF a hS; intro a w6 hF hS
  refine wl_mvs (A := [_]) hF rfl ?_; clear hF a; intro a hF
  apply wl_or (A := [_, _, _, _, _, _, _]) (pk := 32) hF hS (tc := 25) rfl
  ·
    intro hg25 a hF; try simp only [zb1, zb2, zb3, zb4, zb5, zb6, zb7, zb8] at hg25
    refine wl_take hF rfl rfl rfl rfl ?_
    refine wl hF rfl rfl rfl (r_field fo76_3 (hF.ev rfl)) ?_; clear hF a; intro a hF
    refine wl_take hF rfl rfl rfl rfl ?_
    refine wl hF rfl rfl rfl (r_load1 sc3 (hF.ev rfl) (hS.box (i := 0) rfl rfl)) ?_; clear hF a; intro a hF
    refine wl_take hF rfl rfl rfl rfl ?_
    refine wl hF rfl rfl rfl (r_field fo41_4 (hF.ev rfl)) ?_; clear hF a; intro a hF
    refine wl_take hF rfl rfl rfl rfl ?_
    refine wl hF rfl rfl rfl (r_load1 sc3 (hF.ev rfl) (hS.box (i := 1) rfl rfl)) ?_; clear hF a; intro a hF
    refine wl_take hF rfl rfl rfl rfl ?_
    refine wl_call hF rfl rfl rfl (r_call3 en28 (hF.ev rfl) ec (hF.ev rfl)) (l1In_c _ _ _) ?_; clear hF a; rintro v w7 a ⟨rfl, hB_⟩ hF; replace hS := hS.ext hB_; clear hB_
    refine wl_take hF rfl rfl rfl rfl ?_
    refine wl hF rfl rfl rfl (r_not (hF.ev rfl)) ?_; clear hF a; intro a hF
    refine wl hF rfl rfl rfl (r_pick_f (hF.ev rfl) (hF.ev rfl)) ?_; clear hF a; intro a hF
    exact wl_nil ⟨rfl, (Fr.pre (A := [_, _, _, _, _, _, _]) hF rfl).keep hF (t := 32) rfl, hS⟩
  ·
    intro hg25 a hF; try simp only [zb1, zb2, zb3, zb4, zb5, zb6, zb7, zb8] at hg25
    refine wl_mvs (A := [_, _, _, _, _, _]) hF rfl ?_; clear hF a; intro a hF
    refine wl hF rfl rfl rfl (r_pick_t (hF.ev rfl) ec) ?_; clear hF a; intro a hF
    exact wl_nil ⟨rfl, (Fr.pre (A := [_, _, _, _, _, _, _]) hF rfl).keep hF (t := 32) rfl, hS⟩
  clear hF a hS; intro a w8 hF hS
  refine wl_nil (hK4 _ _ ?_)
  refine wc_fx (t := 32) hF rfl ?_ ?_ <;> clear hF <;> intro c32 hF <;> try simp only [zb1, zb2, zb3, zb4, zb5, zb6, zb7, zb8] at c32
  ·
    rw [hwl] at c32
    refine ws fun K5 hK5 => ?_
    refine wl_mvs (A := [_]) hF rfl ?_; clear hF a; intro a hF
    refine wl_nil (hK5 _ _ ?_)
    refine wp_ret ?_
    try simp only [Exit.then, Exit.inBlock, ↓reduceIte]
    refine ret1 rfl hF rfl ⟨congrArg Value.bool (Eq.symm ?_), hS.old⟩
    unfold eventOk
    first
      | (rcases c32 with (c | c) | c
         · rw [decide_eq_false c]; rfl
         · rw [decide_eq_false c]; simp
         · rw [decide_eq_false c]; simp)
      | rw [decide_eq_true c32.1.1, decide_eq_true c32.1.2, decide_eq_true c32.2]; rfl
  rw [hwl] at c32
  refine wp_skip ?_
  refine hK3 _ _ ?_
  refine ws fun K6 hK6 => ?_
  refine wl hF rfl rfl rfl (r_field fo76_4 (hF.ev rfl)) ?_; clear hF a; intro a hF
  refine wl hF rfl rfl rfl (r_load1 sc3 (hF.ev rfl) (hS.box (i := 0) rfl rfl)) ?_; clear hF a; intro a hF
  refine wl hF rfl rfl rfl (r_eql (hF.ev rfl) ec) ?_; clear hF a; intro a hF
  refine wl_mvs (A := [_]) hF rfl ?_; clear hF a; intro a hF
  apply wl_or (A := [_, _, _, _, _, _, _, _]) (pk := 44) hF hS (tc := 36) rfl
  ·
    intro hg36 a hF; try simp only [zb1, zb2, zb3, zb4, zb5, zb6, zb7, zb8] at hg36
    refine wl_take hF rfl rfl rfl rfl ?_
    refine wl hF rfl rfl rfl (r_field fo76_4 (hF.ev rfl)) ?_; clear hF a; intro a hF
    refine wl_take hF rfl rfl rfl rfl ?_
    refine wl hF rfl rfl rfl (r_load1 sc3 (hF.ev rfl) (hS.box (i := 0) rfl rfl)) ?_; clear hF a; intro a hF
    refine wl_take hF rfl rfl rfl rfl ?_
    refine wl hF rfl rfl rfl (r_field fo76_3 (hF.ev rfl)) ?_; clear hF a; intro a hF
    refine wl_take hF rfl rfl rfl rfl ?_
    refine wl hF rfl rfl rfl (r_load1 sc3 (hF.ev rfl) (hS.box (i := 0) rfl rfl)) ?_; clear hF a; intro a hF
    refine wl_take hF rfl rfl rfl rfl ?_
    refine wl hF rfl rfl rfl (r_field fo41_4 (hF.ev rfl)) ?_; clear hF a; intro a hF
    refine wl_take hF rfl rfl rfl rfl ?_
    refine wl hF rfl rfl rfl (r_load1 sc3 (hF.ev rfl) (hS.box (i := 1) rfl rfl)) ?_; clear hF a; intro a hF
    refine wl_take hF rfl rfl rfl rfl ?_
    refine wl_call hF rfl rfl rfl (r_call3 en28 (hF.ev rfl) (hF.ev rfl) (hF.ev rfl)) (l1In_c _ _ _) ?_; clear hF a; rintro v w9 a ⟨rfl, hB_⟩ hF; replace hS := hS.ext hB_; clear hB_
    refine wl hF rfl rfl rfl (r_pick_f (hF.ev rfl) (hF.ev rfl)) ?_; clear hF a; intro a hF
    exact wl_nil ⟨rfl, (Fr.pre (A := [_, _, _, _, _, _, _, _]) hF rfl).keep hF (t := 44) rfl, hS⟩
  ·
    intro hg36 a hF; try simp only [zb1, zb2, zb3, zb4, zb5, zb6, zb7, zb8] at hg36
    refine wl_mvs (A := [_, _, _, _, _, _, _]) hF rfl ?_; clear hF a; intro a hF
    refine wl hF rfl rfl rfl (r_pick_t (hF.ev rfl) ec) ?_; clear hF a; intro a hF
    exact wl_nil ⟨rfl, (Fr.pre (A := [_, _, _, _, _, _, _, _]) hF rfl).keep hF (t := 44) rfl, hS⟩
  clear hF a hS; intro a w10 hF hS
  refine wl_mvs (A := [_]) hF rfl ?_; clear hF a; intro a hF
  refine wl_nil (hK6 _ _ ?_)
  refine wp_ret ?_
  try simp only [Exit.then, Exit.inBlock, ↓reduceIte]
  refine ret1 rfl hF rfl ⟨congrArg Value.bool (Eq.symm ?_), hS.old⟩
  unfold eventOk
  first
    | (rcases c32 with (c | c) | c
       · rw [decide_eq_false c]; rfl
       · rw [decide_eq_false c]; simp
       · rw [decide_eq_false c]; simp)
    | rw [decide_eq_true c32.1.1, decide_eq_true c32.1.2, decide_eq_true c32.2]; rfl

set_option maxHeartbeats 4000000 in
set_option maxRecDepth 20000 in
theorem isMachine1_c {W : World} {m : Sl.Machine} {cs : List Value} (hm : machineEK.K W m cs) {g : Nat} {x : Sl.Event} (hc : ∀ j u, cs[j]? = some u → W.cell? ⟨g, 0 + j, none⟩ = some u) : Calls Tryz.prog 39 #[.agg x.enc.toArray, .pointer (some ⟨g, 0, none⟩)] W (Ret fun v w' => v = .bool (!eventOk m.programs.length m.time x) ∧ Below W.heap.size W w') := by
  refine calls_fr Tryz.func39 rfl Tryz.ntmps39 rfl ?_
  intro a hF
  have hS := Sep.refl W
  obtain ⟨v0, v1, v2, v3, v4, v5, rfl, r0, r1, r2, r3, r4, r5⟩ := hm
  have hm : machineEK.K W m (m.encv v0 v1 v2 v3 v4 v5) := ⟨_, _, _, _, _, _, rfl, r0, r1, r2, r3, r4, r5⟩
  obtain ⟨A_a, q_a, rfl, hq_a, hn_a⟩ := r0.sl; unfold maxLen at hn_a
  obtain ⟨A_b, q_b, rfl, hq_b, hn_b⟩ := r1.sl; unfold maxLen at hn_b
  obtain ⟨A_c, q_c, rfl, hq_c, hn_c⟩ := r2.sl; unfold maxLen at hn_c
  obtain ⟨A_d, q_d, rfl, hq_d, hn_d⟩ := r3.sl; unfold maxLen at hn_d
  obtain ⟨A_e, q_e, rfl, hq_e, hn_e⟩ := r4.sl; unfold maxLen at hn_e
  obtain ⟨A_f, q_f, rfl, hq_f, hn_f⟩ := r5.sl; unfold maxLen at hn_f
  have hwl : IntKind.i64.wrap ((m.programs.length : Int) - 1) = m.programs.length - 1 := w64_id (by omega) (by omega)
  refine ws fun K1 hK1 => ?_
  refine wl_box (cs := [_, _, _, _, _, _, _, _]) hF hS rfl (hF.ev rfl) rfl ?_; clear hF a; intro g1 w1 a hS_ hB_ hF; replace hS := hS_; clear hS_ hB_
  refine wl_mvs (A := [_]) hF rfl ?_; clear hF a; intro a hF
  refine wl_nil (hK1 _ _ ?_)
  refine ws fun K2 hK2 => ?_
  refine wl hF rfl rfl rfl (r_field fo76_0 (hF.ev rfl)) ?_; clear hF a; intro a hF
  refine wl hF rfl rfl rfl (r_load1 sc3 (hF.ev rfl) (hS.box (i := 0) rfl rfl)) ?_; clear hF a; intro a hF
  refine wl hF rfl rfl rfl (r_field fo41_1 (hF.ev rfl)) ?_; clear hF a; intro a hF
  refine wl hF rfl rfl rfl (r_load1 sc38 (hF.ev rfl) (cellB hS.old (hc 13 _ rfl))) ?_; clear hF a; intro a hF
  refine wl hF rfl rfl rfl (r_len ul38 (hF.ev rfl)) ?_; clear hF a; intro a hF
  refine wl hF rfl rfl rfl (r_sub (hF.ev rfl) ec) ?_; clear hF a; intro a hF
  refine wl_call hF rfl rfl rfl (r_call3 en37 (hF.ev rfl) ec (hF.ev rfl)) (in_c _ _ _) ?_; clear hF a; rintro v w2 a ⟨rfl, hB_⟩ hF; replace hS := hS.ext hB_; clear hB_
  refine wl hF rfl rfl rfl (r_not (hF.ev rfl)) ?_; clear hF a; intro a hF
  refine wl_mvs (A := [_]) hF rfl ?_; clear hF a; intro a hF
  apply wl_or (A := [_, _, _, _, _]) (pk := 17) hF hS (tc := 12) rfl
  ·
    intro hg12 a hF; try simp only [zb1, zb2, zb3, zb4, zb5, zb6, zb7, zb8] at hg12
    refine wl_take hF rfl rfl rfl rfl ?_
    refine wl hF rfl rfl rfl (r_field fo76_1 (hF.ev rfl)) ?_; clear hF a; intro a hF
    refine wl_take hF rfl rfl rfl rfl ?_
    refine wl hF rfl rfl rfl (r_loadn ag66 (hF.ev rfl) (hS.boxn (vs := [_, _, _]) (i := 0) (m := 3) rfl rfl) sz66) ?_; clear hF a; intro a hF
    refine wl_take hF rfl rfl rfl rfl ?_
    refine wl_call hF rfl rfl rfl (r_call1 en40 (hF.ev rfl)) (implIsOp_c _) ?_; clear hF a; rintro v w3 a ⟨rfl, hB_⟩ hF; replace hS := hS.ext hB_; clear hB_
    refine wl_take hF rfl rfl rfl rfl ?_
    refine wl hF rfl rfl rfl (r_not (hF.ev rfl)) ?_; clear hF a; intro a hF
    refine wl hF rfl rfl rfl (r_pick_f (hF.ev rfl) (hF.ev rfl)) ?_; clear hF a; intro a hF
    exact wl_nil ⟨rfl, (Fr.pre (A := [_, _, _, _, _]) hF rfl).keep hF (t := 17) rfl, hS⟩
  ·
    intro hg12 a hF; try simp only [zb1, zb2, zb3, zb4, zb5, zb6, zb7, zb8] at hg12
    refine wl_mvs (A := [_, _, _, _]) hF rfl ?_; clear hF a; intro a hF
    refine wl hF rfl rfl rfl (r_pick_t (hF.ev rfl) ec) ?_; clear hF a; intro a hF
    exact wl_nil ⟨rfl, (Fr.pre (A := [_, _, _, _, _]) hF rfl).keep hF (t := 17) rfl, hS⟩
  clear hF a hS; intro a w4 hF hS
  refine wl_mvs (A := [_]) hF rfl ?_; clear hF a; intro a hF
  apply wl_or (A := [_, _, _, _, _, _, _]) (pk := 25) hF hS (tc := 18) rfl
  ·
    intro hg18 a hF; try simp only [zb1, zb2, zb3, zb4, zb5, zb6, zb7, zb8] at hg18
    refine wl_take hF rfl rfl rfl rfl ?_
    refine wl hF rfl rfl rfl (r_field fo76_3 (hF.ev rfl)) ?_; clear hF a; intro a hF
    refine wl_take hF rfl rfl rfl rfl ?_
    refine wl hF rfl rfl rfl (r_load1 sc3 (hF.ev rfl) (hS.box (i := 0) rfl rfl)) ?_; clear hF a; intro a hF
    refine wl_take hF rfl rfl rfl rfl ?_
    refine wl hF rfl rfl rfl (r_field fo41_4 (hF.ev rfl)) ?_; clear hF a; intro a hF
    refine wl_take hF rfl rfl rfl rfl ?_
    refine wl hF rfl rfl rfl (r_load1 sc3 (hF.ev rfl) (cellB hS.old (hc 16 _ rfl))) ?_; clear hF a; intro a hF
    refine wl_take hF rfl rfl rfl rfl ?_
    refine wl_call hF rfl rfl rfl (r_call3 en37 (hF.ev rfl) ec (hF.ev rfl)) (in_c _ _ _) ?_; clear hF a; rintro v w5 a ⟨rfl, hB_⟩ hF; replace hS := hS.ext hB_; clear hB_
    refine wl_take hF rfl rfl rfl rfl ?_
    refine wl hF rfl rfl rfl (r_not (hF.ev rfl)) ?_; clear hF a; intro a hF
    refine wl hF rfl rfl rfl (r_pick_f (hF.ev rfl) (hF.ev rfl)) ?_; clear hF a; intro a hF
    exact wl_nil ⟨rfl, (Fr.pre (A := [_, _, _, _, _, _, _]) hF rfl).keep hF (t := 25) rfl, hS⟩
  ·
    intro hg18 a hF; try simp only [zb1, zb2, zb3, zb4, zb5, zb6, zb7, zb8] at hg18
    refine wl_mvs (A := [_, _, _, _, _, _]) hF rfl ?_; clear hF a; intro a hF
    refine wl hF rfl rfl rfl (r_pick_t (hF.ev rfl) ec) ?_; clear hF a; intro a hF
    exact wl_nil ⟨rfl, (Fr.pre (A := [_, _, _, _, _, _, _]) hF rfl).keep hF (t := 25) rfl, hS⟩
  clear hF a hS; intro a w6 hF hS
  refine wl_mvs (A := [_]) hF rfl ?_; clear hF a; intro a hF
  apply wl_or (A := [_, _, _, _, _, _, _, _, _, _, _, _, _, _]) (pk := 40) hF hS (tc := 26) rfl
  ·
    intro hg26 a hF; try simp only [zb1, zb2, zb3, zb4, zb5, zb6, zb7, zb8] at hg26
    refine wl_take hF rfl rfl rfl rfl ?_
    refine wl hF rfl rfl rfl (r_field fo76_4 (hF.ev rfl)) ?_; clear hF a; intro a hF
    refine wl_take hF rfl rfl rfl rfl ?_
    refine wl hF rfl rfl rfl (r_load1 sc3 (hF.ev rfl) (hS.box (i := 0) rfl rfl)) ?_; clear hF a; intro a hF
    refine wl_take hF rfl rfl rfl rfl ?_
    refine wl hF rfl rfl rfl (r_neq (hF.ev rfl) ec) ?_; clear hF a; intro a hF
    refine wl_mvs (A := [_]) hF rfl ?_; clear hF a; intro a hF
    apply wl_and (A := [_, _, _, _, _, _, _, _, _]) (pk := 39) hF hS (tc := 30) rfl
    ·
      intro hg30 a hF; try simp only [zb1, zb2, zb3, zb4, zb5, zb6, zb7, zb8] at hg30
      refine wl_take hF rfl rfl rfl rfl ?_
      refine wl hF rfl rfl rfl (r_field fo76_4 (hF.ev rfl)) ?_; clear hF a; intro a hF
      refine wl_take hF rfl rfl rfl rfl ?_
      refine wl hF rfl rfl rfl (r_load1 sc3 (hF.ev rfl) (hS.box (i := 0) rfl rfl)) ?_; clear hF a; intro a hF
      refine wl_take hF rfl rfl rfl rfl ?_
      refine wl hF rfl rfl rfl (r_field fo76_3 (hF.ev rfl)) ?_; clear hF a; intro a hF
      refine wl_take hF rfl rfl rfl rfl ?_
      refine wl hF rfl rfl rfl (r_load1 sc3 (hF.ev rfl) (hS.box (i := 0) rfl rfl)) ?_; clear hF a; intro a hF
      refine wl_take hF rfl rfl rfl rfl ?_
      refine wl hF rfl rfl rfl (r_field fo41_4 (hF.ev rfl)) ?_; clear hF a; intro a hF
      refine wl_take hF rfl rfl rfl rfl ?_
      refine wl hF rfl rfl rfl (r_load1 sc3 (hF.ev rfl) (cellB hS.old (hc 16 _ rfl))) ?_; clear hF a; intro a hF
      refine wl_take hF rfl rfl rfl rfl ?_
      refine wl_call hF rfl rfl rfl (r_call3 en37 (hF.ev rfl) (hF.ev rfl) (hF.ev rfl)) (in_c _ _ _) ?_; clear hF a; rintro v w7 a ⟨rfl, hB_⟩ hF; replace hS := hS.ext hB_; clear hB_
      refine wl_take hF rfl rfl rfl rfl ?_
      refine wl hF rfl rfl rfl (r_not (hF.ev rfl)) ?_; clear hF a; intro a hF
      refine wl_take hF rfl rfl rfl rfl ?_
      refine wl hF rfl rfl rfl (r_pick_t (hF.ev rfl) (hF.ev rfl)) ?_; clear hF a; intro a hF
      exact wl_nil ⟨rfl, (Fr.pre (A := [_, _, _, _, _, _, _, _, _]) hF rfl).keep hF (t := 39) rfl, hS⟩
    ·
      intro hg30 a hF; try simp only [zb1, zb2, zb3, zb4, zb5, zb6, zb7, zb8] at hg30
      refine wl_mvs (A := [_, _, _, _, _, _, _, _]) hF rfl ?_; clear hF a; intro a hF
      refine wl_take hF rfl rfl rfl rfl ?_
      refine wl hF rfl rfl rfl (r_pick_f (hF.ev rfl) ec) ?_; clear hF a; intro a hF
      exact wl_nil ⟨rfl, (Fr.pre (A := [_, _, _, _, _, _, _, _, _]) hF rfl).keep hF (t := 39) rfl, hS⟩
    intro a w8 hF hS
    refine wl hF rfl rfl rfl (r_pick_f (hF.ev rfl) (hF.ev rfl)) ?_; clear hF a; intro a hF
    exact wl_nil ⟨rfl, (Fr.pre (A := [_, _, _, _, _, _]) hF rfl).keep hF (t := 40) rfl, hS⟩
  ·
    intro hg26 a hF; try simp only [zb1, zb2, zb3, zb4, zb5, zb6, zb7, zb8] at hg26
    refine wl_mvs (A := [_, _, _, _, _, _, _, _, _, _, _, _, _]) hF rfl ?_; clear hF a; intro a hF
    refine wl hF rfl rfl rfl (r_pick_t (hF.ev rfl) ec) ?_; clear hF a; intro a hF
    exact wl_nil ⟨rfl, (Fr.pre (A := [_, _, _, _, _, _, _, _, _, _, _, _, _, _]) hF rfl).keep hF (t := 40) rfl, hS⟩
  clear hF a hS; intro a w9 hF hS
  refine wl_mvs (A := [_]) hF rfl ?_; clear hF a; intro a hF
  refine wl_nil (hK2 _ _ ?_)
  refine wp_ret ?_
  try simp only [Exit.then, Exit.inBlock, ↓reduceIte]
  refine ret1 rfl hF rfl ⟨congrArg Value.bool ?_, hS.old⟩
  unfold eventOk
  rw [hwl]
  simp only [Bool.not_and, Bool.not_or]

set_option maxHeartbeats 4000000 in
set_option maxRecDepth 20000 in
theorem specIsMachine_c {W : World} {m : Sl.Machine} {cs : List Value} (hm : machineEK.K W m cs) (hw : m.wf) (hz : (m.size : Int) ≤ 1048576) : Calls Tryz.prog 13 #[.agg cs.toArray] W (Ret fun v w' => v = .bool (machineOk m) ∧ Below W.heap.size W w') := by
  refine calls_fr Tryz.func13 rfl Tryz.ntmps13 rfl ?_
  intro a hF
  have hS := Sep.refl W
  obtain ⟨v0, v1, v2, v3, v4, v5, rfl, r0, r1, r2, r3, r4, r5⟩ := hm
  have hm : machineEK.K W m (m.encv v0 v1 v2 v3 v4 v5) := ⟨_, _, _, _, _, _, rfl, r0, r1, r2, r3, r4, r5⟩
  have hms : stateEK.K W m.state (m.state.encv v0 v1 v2) := ⟨_, _, _, rfl, r0, r1, r2⟩
  obtain ⟨A_a, q_a, rfl, hq_a, hn_a⟩ := r0.sl; unfold maxLen at hn_a
  obtain ⟨A_b, q_b, rfl, hq_b, hn_b⟩ := r1.sl; unfold maxLen at hn_b
  obtain ⟨A_c, q_c, rfl, hq_c, hn_c⟩ := r2.sl; unfold maxLen at hn_c
  obtain ⟨A_d, q_d, rfl, hq_d, hn_d⟩ := r3.sl; unfold maxLen at hn_d
  obtain ⟨A_e, q_e, rfl, hq_e, hn_e⟩ := r4.sl; unfold maxLen at hn_e
  obtain ⟨A_f, q_f, rfl, hq_f, hn_f⟩ := r5.sl; unfold maxLen at hn_f
  obtain ⟨wst, wpr, wnx, wev, wti⟩ := hw
  have hz1 := hz; unfold Sl.Machine.size at hz1
  refine ws fun K1 hK1 => ?_
  refine wl_box (cs := [_, _, _, _, _, _, _, _, _, _, _, _, _, _, _, _, _]) hF hS rfl (hF.ev rfl) rfl ?_; clear hF a; intro g1 w1 a hS_ hB_ hF; replace hS := hS_; clear hS_ hB_
  refine wl_mvs (A := [_]) hF rfl ?_; clear hF a; intro a hF
  refine wl_nil (hK1 _ _ ?_)
  refine wp_seq_k fun K2 hK2 => ?_
  refine ws fun K3 hK3 => ?_
  refine wl hF rfl rfl rfl (r_field fo41_0 (hF.ev rfl)) ?_; clear hF a; intro a hF
  refine wl hF rfl rfl rfl (r_loadn ag37 (hF.ev rfl) (hS.boxn (vs := [_, _, _, _, _, _, _, _, _, _, _, _, _]) (i := 0) (m := 13) rfl rfl) sz37) ?_; clear hF a; intro a hF
  refine wl_call hF rfl rfl rfl (r_call1 en27 (hF.ev rfl)) (specIsState_c (hS.k hms) wst (by omega)) ?_; clear hF a; rintro v w2 a ⟨rfl, hB_⟩ hF; replace hS := hS.ext hB_; clear hB_
  refine wl hF rfl rfl rfl (r_not (hF.ev rfl)) ?_; clear hF a; intro a hF
  refine wl_mvs (A := [_]) hF rfl ?_; clear hF a; intro a hF
  apply wl_or (A := [_, _, _, _, _, _, _, _, _]) (pk := 18) hF hS (tc := 9) rfl
  ·
    intro hg9 a hF; try simp only [zb1, zb2, zb3, zb4, zb5, zb6, zb7, zb8] at hg9
    refine wl_take hF rfl rfl rfl rfl ?_
    refine wl hF rfl rfl rfl (r_field fo41_1 (hF.ev rfl)) ?_; clear hF a; intro a hF
    refine wl_take hF rfl rfl rfl rfl ?_
    refine wl hF rfl rfl rfl (r_load1 sc38 (hF.ev rfl) (hS.box (i := 0) rfl rfl)) ?_; clear hF a; intro a hF
    refine wl_take hF rfl rfl rfl rfl ?_
    refine wl hF rfl rfl rfl (r_len ul38 (hF.ev rfl)) ?_; clear hF a; intro a hF
    refine wl_take hF rfl rfl rfl rfl ?_
    refine wl hF rfl rfl rfl (r_field fo41_0 (hF.ev rfl)) ?_; clear hF a; intro a hF
    refine wl_take hF rfl rfl rfl rfl ?_
    refine wl hF rfl rfl rfl (r_field fo37_0 (hF.ev rfl)) ?_; clear hF a; intro a hF
    refine wl_take hF rfl rfl rfl rfl ?_
    refine wl hF rfl rfl rfl (r_field fo34_0 (hF.ev rfl)) ?_; clear hF a; intro a hF
    refine wl_take hF rfl rfl rfl rfl ?_
    refine wl hF rfl rfl rfl (r_load1 sc3 (hF.ev rfl) (hS.box (i := 0) rfl rfl)) ?_; clear hF a; intro a hF
    refine wl_take hF rfl rfl rfl rfl ?_
    refine wl hF rfl rfl rfl (r_neq (hF.ev rfl) (hF.ev rfl)) ?_; clear hF a; intro a hF
    refine wl hF rfl rfl rfl (r_pick_f (hF.ev rfl) (hF.ev rfl)) ?_; clear hF a; intro a hF
    exact wl_nil ⟨rfl, (Fr.pre (A := [_, _, _, _, _, _, _, _, _]) hF rfl).keep hF (t := 18) rfl, hS⟩
  ·
    intro hg9 a hF; try simp only [zb1, zb2, zb3, zb4, zb5, zb6, zb7, zb8] at hg9
    refine wl_mvs (A := [_, _, _, _, _, _, _, _]) hF rfl ?_; clear hF a; intro a hF
    refine wl hF rfl rfl rfl (r_pick_t (hF.ev rfl) ec) ?_; clear hF a; intro a hF
    exact wl_nil ⟨rfl, (Fr.pre (A := [_, _, _, _, _, _, _, _, _]) hF rfl).keep hF (t := 18) rfl, hS⟩
  clear hF a hS; intro a w3 hF hS
  refine wl_mvs (A := [_]) hF rfl ?_; clear hF a; intro a hF
  apply wl_or (A := [_, _, _, _, _, _, _, _, _]) (pk := 28) hF hS (tc := 19) rfl
  ·
    intro hg19 a hF; try simp only [zb1, zb2, zb3, zb4, zb5, zb6, zb7, zb8] at hg19
    refine wl_take hF rfl rfl rfl rfl ?_
    refine wl hF rfl rfl rfl (r_field fo41_2 (hF.ev rfl)) ?_; clear hF a; intro a hF
    refine wl_take hF rfl rfl rfl rfl ?_
    refine wl hF rfl rfl rfl (r_load1 sc24 (hF.ev rfl) (hS.box (i := 0) rfl rfl)) ?_; clear hF a; intro a hF
    refine wl_take hF rfl rfl rfl rfl ?_
    refine wl hF rfl rfl rfl (r_len ul24 (hF.ev rfl)) ?_; clear hF a; intro a hF
    refine wl_take hF rfl rfl rfl rfl ?_
    refine wl hF rfl rfl rfl (r_field fo41_0 (hF.ev rfl)) ?_; clear hF a; intro a hF
    refine wl_take hF rfl rfl rfl rfl ?_
    refine wl hF rfl rfl rfl (r_field fo37_0 (hF.ev rfl)) ?_; clear hF a; intro a hF
    refine wl_take hF rfl rfl rfl rfl ?_
    refine wl hF rfl rfl rfl (r_field fo34_0 (hF.ev rfl)) ?_; clear hF a; intro a hF
    refine wl_take hF rfl rfl rfl rfl ?_
    refine wl hF rfl rfl rfl (r_load1 sc3 (hF.ev rfl) (hS.box (i := 0) rfl rfl)) ?_; clear hF a; intro a hF
    refine wl_take hF rfl rfl rfl rfl ?_
    refine wl hF rfl rfl rfl (r_neq (hF.ev rfl) (hF.ev rfl)) ?_; clear hF a; intro a hF
    refine wl hF rfl rfl rfl (r_pick_f (hF.ev rfl) (hF.ev rfl)) ?_; clear hF a; intro a hF
    exact wl_nil ⟨rfl, (Fr.pre (A := [_, _, _, _, _, _, _, _, _]) hF rfl).keep hF (t := 28) rfl, hS⟩
  ·
    intro hg19 a hF; try simp only [zb1, zb2, zb3, zb4, zb5, zb6, zb7, zb8] at hg19
    refine wl_mvs (A := [_, _, _, _, _, _, _, _]) hF rfl ?_; clear hF a; intro a hF
    refine wl hF rfl rfl rfl (r_pick_t (hF.ev rfl) ec) ?_; clear hF a; intro a hF
    exact wl_nil ⟨rfl, (Fr.pre (A := [_, _, _, _, _, _, _, _, _]) hF rfl).keep hF (t := 28) rfl, hS⟩
  clear hF a hS; intro a w4 hF hS
  refine wl_mvs (A := [_]) hF rfl ?_; clear hF a; intro a hF
  apply wl_or (A := [_, _, _, _, _]) (pk := 34) hF hS (tc := 29) rfl
  ·
    intro hg29 a hF; try simp only [zb1, zb2, zb3, zb4, zb5, zb6, zb7, zb8] at hg29
    refine wl_take hF rfl rfl rfl rfl ?_
    refine wl hF rfl rfl rfl (r_field fo41_4 (hF.ev rfl)) ?_; clear hF a; intro a hF
    refine wl_take hF rfl rfl rfl rfl ?_
    refine wl hF rfl rfl rfl (r_load1 sc3 (hF.ev rfl) (hS.box (i := 0) rfl rfl)) ?_; clear hF a; intro a hF
    refine wl_take hF rfl rfl rfl rfl ?_
    refine wl_call hF rfl rfl rfl (r_call3 en28 (hF.ev rfl) ec ec) (l1In_c _ _ _) ?_; clear hF a; rintro v w5 a ⟨rfl, hB_⟩ hF; replace hS := hS.ext hB_; clear hB_
    refine wl_take hF rfl rfl rfl rfl ?_
    refine wl hF rfl rfl rfl (r_not (hF.ev rfl)) ?_; clear hF a; intro a hF
    refine wl hF rfl rfl rfl (r_pick_f (hF.ev rfl) (hF.ev rfl)) ?_; clear hF a; intro a hF
    exact wl_nil ⟨rfl, (Fr.pre (A := [_, _, _, _, _]) hF rfl).keep hF (t := 34) rfl, hS⟩
  ·
    intro hg29 a hF; try simp only [zb1, zb2, zb3, zb4, zb5, zb6, zb7, zb8] at hg29
    refine wl_mvs (A := [_, _, _, _]) hF rfl ?_; clear hF a; intro a hF
    refine wl hF rfl rfl rfl (r_pick_t (hF.ev rfl) ec) ?_; clear hF a; intro a hF
    exact wl_nil ⟨rfl, (Fr.pre (A := [_, _, _, _, _]) hF rfl).keep hF (t := 34) rfl, hS⟩
  clear hF a hS; intro a w6 hF hS
  refine wl_mvs (A := [_]) hF rfl ?_; clear hF a; intro a hF
  apply wl_or (A := [_, _, _, _, _]) (pk := 40) hF hS (tc := 35) rfl
  ·
    intro hg35 a hF; try simp only [zb1, zb2, zb3, zb4, zb5, zb6, zb7, zb8] at hg35
    refine wl_take hF rfl rfl rfl rfl ?_
    refine wl hF rfl rfl rfl (r_field fo41_3 (hF.ev rfl)) ?_; clear hF a; intro a hF
    refine wl_take hF rfl rfl rfl rfl ?_
    refine wl hF rfl rfl rfl (r_load1 sc39 (hF.ev rfl) (hS.box (i := 0) rfl rfl)) ?_; clear hF a; intro a hF
    refine wl_take hF rfl rfl rfl rfl ?_
    refine wl hF rfl rfl rfl (r_len ul39 (hF.ev rfl)) ?_; clear hF a; intro a hF
    refine wl_take hF rfl rfl rfl rfl ?_
    refine wl hF rfl rfl rfl (r_gtr (hF.ev rfl) ec) ?_; clear hF a; intro a hF
    refine wl hF rfl rfl rfl (r_pick_f (hF.ev rfl) (hF.ev rfl)) ?_; clear hF a; intro a hF
    exact wl_nil ⟨rfl, (Fr.pre (A := [_, _, _, _, _]) hF rfl).keep hF (t := 40) rfl, hS⟩
  ·
    intro hg35 a hF; try simp only [zb1, zb2, zb3, zb4, zb5, zb6, zb7, zb8] at hg35
    refine wl_mvs (A := [_, _, _, _]) hF rfl ?_; clear hF a; intro a hF
    refine wl hF rfl rfl rfl (r_pick_t (hF.ev rfl) ec) ?_; clear hF a; intro a hF
    exact wl_nil ⟨rfl, (Fr.pre (A := [_, _, _, _, _]) hF rfl).keep hF (t := 40) rfl, hS⟩
  clear hF a hS; intro a w7 hF hS
  refine wl_nil (hK3 _ _ ?_)
  refine wc_fx (t := 40) hF rfl ?_ ?_ <;> clear hF <;> intro c40 hF <;> try simp only [zb1, zb2, zb3, zb4, zb5, zb6, zb7, zb8] at c40
  ·
    refine ws fun K4 hK4 => ?_
    refine wl_mvs (A := [_]) hF rfl ?_; clear hF a; intro a hF
    refine wl_nil (hK4 _ _ ?_)
    refine wp_ret ?_
    try simp only [Exit.then, Exit.inBlock, ↓reduceIte]
    refine ret1 rfl hF rfl ⟨congrArg Value.bool (Eq.symm ?_), hS.old⟩
    first
      | exact ma_no1 c40
      | (rcases c69 with c | c
         · exact ma_progs (all_no hx c)
         · exact ma_next (range_no (k := k) (by omega) (decide_eq_false c)))
      | exact ma_events (all_no hx c80)
      | exact (ma_yes e1 e2 e3 (all_done hp hlp) (all_done hn (by rw [List.length_range]; omega)) e4 e5).trans (all_done he (by omega))
  simp only [and_assoc] at c40
  obtain ⟨e1, e2, e3, e4a, e4b, e5⟩ := c40
  have e4 := And.intro e4a e4b
  refine wp_skip ?_
  refine hK2 _ _ ?_
  refine wp_seq_k fun K5 hK5 => ?_
  refine ws fun K6 hK6 => ?_
  refine wl_mvs (A := [_]) hF rfl ?_; clear hF a; intro a hF
  refine wl_nil (hK6 _ _ ?_)
  refine wp_block ?_
  have hL_ := ((hF.nil.keep hF (t := 2) rfl).keep hF (t := 1) rfl)
  refine wp_loop_r (σ := Nat) (fun k L_ => (3, vi k) :: L_) (fun k => (k ≤ m.programs.length) ∧ ((m.programs.take k).all progOk = true) ∧ (((List.range m.next.length).take k).all (fun i => decide (0 ≤ at0 m.next (i : Int) ∧ at0 m.next (i : Int) ≤ ((at0 m.programs (i : Int)).length : Int))) = true)) (fun k => m.programs.length - k) 0 hS (hL_.keepE hF (t := 3) rfl rfl) ?_ ?_
  · exact ⟨Nat.zero_le _, rfl, rfl⟩
  clear hF hS hL_ a
  rintro k a w8 ⟨hk, hp, hn⟩ hS hF; try dsimp only at hF; try dsimp only at hS
  refine wp_seq_k fun K7 hK7 => ?_
  refine ws fun K8 hK8 => ?_
  refine wl_mvs (A := [_]) hF rfl ?_; clear hF a; intro a hF
  refine wl hF rfl rfl rfl (r_field fo41_1 (hF.ev rfl)) ?_; clear hF a; intro a hF
  refine wl hF rfl rfl rfl (r_load1 sc38 (hF.ev rfl) (hS.box (i := 0) rfl rfl)) ?_; clear hF a; intro a hF
  refine wl hF rfl rfl rfl (r_len ul38 (hF.ev rfl)) ?_; clear hF a; intro a hF
  refine wl hF rfl rfl rfl (r_lss (hF.ev rfl) (hF.ev rfl)) ?_; clear hF a; intro a hF
  refine wl_nil (hK8 _ _ ?_)
  refine wc_fx (t := 45) hF rfl ?_ ?_ <;> clear hF <;> intro c45 hF <;> try simp only [zb1, zb2, zb3, zb4, zb5, zb6, zb7, zb8] at c45
  ·
    have hlt : k < m.programs.length := by omega
    have hx := at0_nat hlt
    refine wp_skip ?_
    refine hK7 _ _ ?_
    refine wp_seq_k fun K9 hK9 => ?_
    refine wp_block ?_
    refine wp_seq_k fun K10 hK10 => ?_
    refine wp_region_calm (by kernel_rfl) (by kernel_rfl) ?_
    refine wq hF rfl rfl rfl (fun w_ hB_ => r_field fo41_1 (hF.ev rfl)) ?_; clear hF a; intro a hF
    refine wq hF rfl rfl rfl (fun w_ hB_ => r_load1 sc38 (hF.ev rfl) ((hS.ext hB_).box (i := 0) rfl rfl)) ?_; clear hF a; intro a hF
    refine wq_mvs (A := [_]) hF rfl ?_; clear hF a; intro a hF
    obtain ⟨g51, o51, m51, q51, cs51, hv51, hm51, hl51, hk51, hz51, hc51⟩ := Rd.at (r3) (a := a) (X := .tmp 50) (hF.ev rfl) (by omega) (by omega)
    obtain ⟨v51, rfl, hr51⟩ := hk51; obtain ⟨Ae51, qe51, rfl, _, hme51⟩ := hr51.sl; unfold maxLen at hme51
    refine wq hF rfl rfl rfl (fun w_ hB_ => r_index sl38 ((hF.ev rfl).trans hv51) (hF.ev rfl) (by omega) (by first | omega | (simp at hm51; omega))) ?_; clear hF a; intro a hF
    refine wq hF rfl rfl rfl (fun w_ hB_ => r_load1 sc49 (hF.ev rfl) (cellB (hS.ext hB_).old (hc51 0 _ rfl))) ?_; clear hF a; intro a hF
    refine wq_call hF rfl rfl rfl (fun w_ hB_ => r_call1 en29 (hF.ev rfl)) (fun w_ hB_ => specProgram_c ((hS.ext hB_).rd hr51)) ?_; clear hF a; intro a hF
    refine wq hF rfl rfl rfl (fun w_ hB_ => r_not (hF.ev rfl)) ?_; clear hF a; intro a hF
    refine wq_mvs (A := [_]) hF rfl ?_; clear hF a; intro a hF
    apply wq_or (A := [_, _, _, _, _, _, _, _, _, _, _, _, _, _]) (pk := 69) hF (tc := 55) rfl
    ·
      intro hg55 a hF; try simp only [zb1, zb2, zb3, zb4, zb5, zb6, zb7, zb8] at hg55
      refine wq_take hF rfl rfl rfl rfl ?_
      refine wq hF rfl rfl rfl (fun w_ hB_ => r_field fo41_2 (hF.ev rfl)) ?_; clear hF a; intro a hF
      refine wq_take hF rfl rfl rfl rfl ?_
      refine wq hF rfl rfl rfl (fun w_ hB_ => r_load1 sc24 (hF.ev rfl) ((hS.ext hB_).box (i := 0) rfl rfl)) ?_; clear hF a; intro a hF
      refine wq_mvs (A := [_]) hF rfl ?_; clear hF a; intro a hF
      refine wq_take hF rfl rfl rfl rfl ?_
      obtain ⟨g59, o59, m59, q59, hv59, hm59, hl59, hc59⟩ := Rd.atF (r4) (a := a) (X := .tmp 58) (hF.ev rfl) (by omega) (by omega)
      refine wq hF rfl rfl rfl (fun w_ hB_ => r_index sl24 ((hF.ev rfl).trans hv59) (hF.ev rfl) (by omega) (by first | omega | (simp at hm59; omega))) ?_; clear hF a; intro a hF
      refine wq_take hF rfl rfl rfl rfl ?_
      refine wq hF rfl rfl rfl (fun w_ hB_ => r_load1 sc3 (hF.ev rfl) (cellB (hS.ext hB_).old (hc59 0 _ rfl))) ?_; clear hF a; intro a hF
      refine wq_take hF rfl rfl rfl rfl ?_
      refine wq hF rfl rfl rfl (fun w_ hB_ => r_field fo41_1 (hF.ev rfl)) ?_; clear hF a; intro a hF
      refine wq_take hF rfl rfl rfl rfl ?_
      refine wq hF rfl rfl rfl (fun w_ hB_ => r_load1 sc38 (hF.ev rfl) ((hS.ext hB_).box (i := 0) rfl rfl)) ?_; clear hF a; intro a hF
      refine wq_mvs (A := [_]) hF rfl ?_; clear hF a; intro a hF
      refine wq_take hF rfl rfl rfl rfl ?_
      obtain ⟨g64, o64, m64, q64, cs64, hv64, hm64, hl64, hk64, hz64, hc64⟩ := Rd.at (r3) (a := a) (X := .tmp 63) (hF.ev rfl) (by omega) (by omega)
      obtain ⟨v64, rfl, hr64⟩ := hk64; obtain ⟨Ae64, qe64, rfl, _, hme64⟩ := hr64.sl; unfold maxLen at hme64
      refine wq hF rfl rfl rfl (fun w_ hB_ => r_index sl38 ((hF.ev rfl).trans hv64) (hF.ev rfl) (by omega) (by first | omega | (simp at hm64; omega))) ?_; clear hF a; intro a hF
      refine wq_take hF rfl rfl rfl rfl ?_
      refine wq hF rfl rfl rfl (fun w_ hB_ => r_load1 sc49 (hF.ev rfl) (cellB (hS.ext hB_).old (hc64 0 _ rfl))) ?_; clear hF a; intro a hF
      refine wq_take hF rfl rfl rfl rfl ?_
      refine wq hF rfl rfl rfl (fun w_ hB_ => r_len ul49 (hF.ev rfl)) ?_; clear hF a; intro a hF
      refine wq_take hF rfl rfl rfl rfl ?_
      refine wq_call hF rfl rfl rfl (fun w_ hB_ => r_call3 en28 (hF.ev rfl) ec (hF.ev rfl)) (fun w_ hB_ => l1In_c _ _ _) ?_; clear hF a; intro a hF
      refine wq_take hF rfl rfl rfl rfl ?_
      refine wq hF rfl rfl rfl (fun w_ hB_ => r_not (hF.ev rfl)) ?_; clear hF a; intro a hF
      refine wq hF rfl rfl rfl (fun w_ hB_ => r_pick_f (hF.ev rfl) (hF.ev rfl)) ?_; clear hF a; intro a hF
      exact wpQuiet_nil ((Fr.pre (A := [_, _, _, _, _, _, _, _, _, _, _, _, _, _]) hF rfl).keep hF (t := 69) rfl)
    ·
      intro hg55 a hF; try simp only [zb1, zb2, zb3, zb4, zb5, zb6, zb7, zb8] at hg55
      refine wq_mvs (A := [_, _, _, _, _, _, _, _, _, _, _, _, _]) hF rfl ?_; clear hF a; intro a hF
      refine wq hF rfl rfl rfl (fun w_ hB_ => r_pick_t (hF.ev rfl) ec) ?_; clear hF a; intro a hF
      exact wpQuiet_nil ((Fr.pre (A := [_, _, _, _, _, _, _, _, _, _, _, _, _, _]) hF rfl).keep hF (t := 69) rfl)
    clear hF a; intro a hF
    refine wpQuiet_nil ?_; intro w10 hB_; replace hS := hS.ext hB_; clear hB_
    refine hK10 _ _ ?_
    refine wc_fx (t := 69) hF rfl ?_ ?_ <;> clear hF <;> intro c69 hF <;> try simp only [zb1, zb2, zb3, zb4, zb5, zb6, zb7, zb8] at c69
    ·
      refine ws fun K11 hK11 => ?_
      refine wl_mvs (A := [_]) hF rfl ?_; clear hF a; intro a hF
      refine wl_nil (hK11 _ _ ?_)
      refine wp_ret ?_
      try simp only [Exit.then, Exit.inBlock, ↓reduceIte]
      refine ret1 rfl hF rfl ⟨congrArg Value.bool (Eq.symm ?_), hS.old⟩
      first
        | exact ma_no1 c40
        | (rcases c69 with c | c
           · exact ma_progs (all_no hx c)
           · exact ma_next (range_no (k := k) (by omega) (decide_eq_false c)))
        | exact ma_events (all_no hx c80)
        | exact (ma_yes e1 e2 e3 (all_done hp hlp) (all_done hn (by rw [List.length_range]; omega)) e4 e5).trans (all_done he (by omega))
    refine wp_skip ?_
    simp only [Exit.then, Exit.inBlock, ↓reduceIte]
    refine hK9 _ _ ?_
    refine wp_region_lit ?_
    refine wl_mvs (A := [_]) hF rfl ?_; clear hF a; intro a hF
    refine wl hF rfl rfl rfl (r_add (hF.ev rfl) ec) ?_; clear hF a; intro a hF
    refine wl_mvs (A := [_]) hF rfl ?_; clear hF a; intro a hF
    refine wl_nil ?_
    try simp only [Exit.then, Exit.inBlock, ↓reduceIte]
    refine ⟨k + 1, ⟨by omega, all_nxt hp hx c69.1, all_nxt hn (range_at (by omega)) (decide_eq_true c69.2)⟩, hS, (((hF.nil.keep hF (t := 2) rfl).keep hF (t := 1) rfl).keepE hF (t := 3) rfl (wk (by omega))), by omega⟩
  have hlp : m.programs.length ≤ k := by omega
  have hn : ((List.range m.next.length).take k).all (fun i => decide (0 ≤ at0 m.next (i : Int) ∧ at0 m.next (i : Int) ≤ ((at0 m.programs (i : Int)).length : Int))) = true := hn
  clear c45
  refine wp_exit ?_
  simp only [Exit.then, Exit.inBlock, ↓reduceIte]
  refine hK5 _ _ ?_
  refine wp_seq_k fun K12 hK12 => ?_
  refine ws fun K13 hK13 => ?_
  refine wl_mvs (A := [_]) hF rfl ?_; clear hF a; intro a hF
  refine wl_nil (hK13 _ _ ?_)
  refine wp_block ?_
  have hL_ := ((hF.nil.keep hF (t := 2) rfl).keep hF (t := 1) rfl)
  refine wp_loop_r (σ := Nat) (fun k2 L_ => (4, vi k2) :: L_) (fun k2 => (k2 ≤ m.events.length) ∧ ((m.events.take k2).all (eventOk m.next.length m.time) = true)) (fun k2 => m.events.length - k2) 0 hS (hL_.keepE hF (t := 4) rfl rfl) ?_ ?_
  · exact ⟨Nat.zero_le _, rfl⟩
  clear hF hS hL_ a
  rintro k2 a w11 ⟨hk2, he⟩ hS hF; try dsimp only at hF; try dsimp only at hS; try dsimp only at hk2; try dsimp only at he
  refine wp_seq_k fun K14 hK14 => ?_
  refine ws fun K15 hK15 => ?_
  refine wl_mvs (A := [_]) hF rfl ?_; clear hF a; intro a hF
  refine wl hF rfl rfl rfl (r_field fo41_3 (hF.ev rfl)) ?_; clear hF a; intro a hF
  refine wl hF rfl rfl rfl (r_load1 sc39 (hF.ev rfl) (hS.box (i := 0) rfl rfl)) ?_; clear hF a; intro a hF
  refine wl hF rfl rfl rfl (r_len ul39 (hF.ev rfl)) ?_; clear hF a; intro a hF
  refine wl hF rfl rfl rfl (r_lss (hF.ev rfl) (hF.ev rfl)) ?_; clear hF a; intro a hF
  refine wl_nil (hK15 _ _ ?_)
  refine wc_fx (t := 74) hF rfl ?_ ?_ <;> clear hF <;> intro c74 hF <;> try simp only [zb1, zb2, zb3, zb4, zb5, zb6, zb7, zb8] at c74
  ·
    have hlt : k2 < m.events.length := by omega
    have hx := at0_nat hlt
    refine wp_skip ?_
    refine hK14 _ _ ?_
    refine wp_seq_k fun K16 hK16 => ?_
    refine wp_block ?_
    refine ws fun K17 hK17 => ?_
    refine wl hF rfl rfl rfl (r_loadn ag41 (hF.ev rfl) (hS.box_rd (i := 0) rfl) sz41) ?_; clear hF a; intro a hF
    refine wl_mvs (A := [_]) hF rfl ?_; clear hF a; intro a hF
    refine wl_call hF rfl rfl rfl (r_call2 en30 (hF.ev rfl) (hF.ev rfl)) (l18Event_c (hS.k hm) (by omega) (by omega)) ?_; clear hF a; rintro v w12 a ⟨rfl, hB_⟩ hF; replace hS := hS.ext hB_; clear hB_
    refine wl hF rfl rfl rfl (r_not (hF.ev rfl)) ?_; clear hF a; intro a hF
    refine wl_nil (hK17 _ _ ?_)
    refine wc_fx (t := 80) hF rfl ?_ ?_ <;> clear hF <;> intro c80 hF <;> try simp only [zb1, zb2, zb3, zb4, zb5, zb6, zb7, zb8] at c80
    ·
      refine ws fun K18 hK18 => ?_
      refine wl_mvs (A := [_]) hF rfl ?_; clear hF a; intro a hF
      refine wl_nil (hK18 _ _ ?_)
      refine wp_ret ?_
      try simp only [Exit.then, Exit.inBlock, ↓reduceIte]
      refine ret1 rfl hF rfl ⟨congrArg Value.bool (Eq.symm ?_), hS.old⟩
      first
        | exact ma_no1 c40
        | (rcases c69 with c | c
           · exact ma_progs (all_no hx c)
           · exact ma_next (range_no (k := k) (by omega) (decide_eq_false c)))
        | exact ma_events (all_no hx c80)
        | exact (ma_yes e1 e2 e3 (all_done hp hlp) (all_done hn (by rw [List.length_range]; omega)) e4 e5).trans (all_done he (by omega))
    refine wp_skip ?_
    simp only [Exit.then, Exit.inBlock, ↓reduceIte]
    refine hK16 _ _ ?_
    refine wp_region_lit ?_
    refine wl_mvs (A := [_]) hF rfl ?_; clear hF a; intro a hF
    refine wl hF rfl rfl rfl (r_add (hF.ev rfl) ec) ?_; clear hF a; intro a hF
    refine wl_mvs (A := [_]) hF rfl ?_; clear hF a; intro a hF
    refine wl_nil ?_
    try simp only [Exit.then, Exit.inBlock, ↓reduceIte]
    refine ⟨k2 + 1, ⟨by omega, all_nxt he hx c80⟩, hS, (((hF.nil.keep hF (t := 2) rfl).keep hF (t := 1) rfl).keepE hF (t := 4) rfl (wk (by omega))), by omega⟩
  refine wp_exit ?_
  simp only [Exit.then, Exit.inBlock, ↓reduceIte]
  refine hK12 _ _ ?_
  refine ws fun K19 hK19 => ?_
  refine wl_mvs (A := [_]) hF rfl ?_; clear hF a; intro a hF
  refine wl_nil (hK19 _ _ ?_)
  refine wp_ret ?_
  try simp only [Exit.then, Exit.inBlock, ↓reduceIte]
  refine ret1 rfl hF rfl ⟨congrArg Value.bool (Eq.symm ?_), hS.old⟩
  first
    | exact ma_no1 c40
    | (rcases c69 with c | c
       · exact ma_progs (all_no hx c)
       · exact ma_next (range_no (k := k) (by omega) (decide_eq_false c)))
    | exact ma_events (all_no hx c80)
    | exact (ma_yes e1 e2 e3 (all_done hp hlp) (all_done hn (by rw [List.length_range]; omega)) e4 e5).trans (all_done he (by omega))

set_option maxHeartbeats 4000000 in
set_option maxRecDepth 20000 in
theorem implIsMachine_c {W : World} {m : Sl.Machine} {cs : List Value} (hm : machineEK.K W m cs) (hw : m.wf) (hz : (m.size : Int) ≤ 1048576) : Calls Tryz.prog 19 #[.agg cs.toArray] W (Ret fun v w' => v = .bool (machineOk m) ∧ Below W.heap.size W w') := by
  refine calls_fr Tryz.func19 rfl Tryz.ntmps19 rfl ?_
  intro a hF
  have hS := Sep.refl W
  obtain ⟨v0, v1, v2, v3, v4, v5, rfl, r0, r1, r2, r3, r4, r5⟩ := hm
  have hm : machineEK.K W m (m.encv v0 v1 v2 v3 v4 v5) := ⟨_, _, _, _, _, _, rfl, r0, r1, r2, r3, r4, r5⟩
  have hms : stateEK.K W m.state (m.state.encv v0 v1 v2) := ⟨_, _, _, rfl, r0, r1, r2⟩
  obtain ⟨A_a, q_a, rfl, hq_a, hn_a⟩ := r0.sl; unfold maxLen at hn_a
  obtain ⟨A_b, q_b, rfl, hq_b, hn_b⟩ := r1.sl; unfold maxLen at hn_b
  obtain ⟨A_c, q_c, rfl, hq_c, hn_c⟩ := r2.sl; unfold maxLen at hn_c
  obtain ⟨A_d, q_d, rfl, hq_d, hn_d⟩ := r3.sl; unfold maxLen at hn_d
  obtain ⟨A_e, q_e, rfl, hq_e, hn_e⟩ := r4.sl; unfold maxLen at hn_e
  obtain ⟨A_f, q_f, rfl, hq_f, hn_f⟩ := r5.sl; unfold maxLen at hn_f
  obtain ⟨wst, wpr, wnx, wev, wti⟩ := hw
  have hz1 := hz; unfold Sl.Machine.size at hz1
  refine ws fun K1 hK1 => ?_
  refine wl_box (cs := [_, _, _, _, _, _, _, _, _, _, _, _, _, _, _, _, _]) hF hS rfl (hF.ev rfl) rfl ?_; clear hF a; intro g1 w1 a hS_ hB_ hF; replace hS := hS_; clear hS_ hB_
  refine wl_mvs (A := [_]) hF rfl ?_; clear hF a; intro a hF
  refine wl_nil (hK1 _ _ ?_)
  refine wp_seq_k fun K2 hK2 => ?_
  refine ws fun K3 hK3 => ?_
  refine wl hF rfl rfl rfl (r_field fo41_0 (hF.ev rfl)) ?_; clear hF a; intro a hF
  refine wl hF rfl rfl rfl (r_loadn ag37 (hF.ev rfl) (hS.boxn (vs := [_, _, _, _, _, _, _, _, _, _, _, _, _]) (i := 0) (m := 13) rfl rfl) sz37) ?_; clear hF a; intro a hF
  refine wl_call hF rfl rfl rfl (r_call1 en35 (hF.ev rfl)) (implIsState_c (hS.k hms) wst (by omega)) ?_; clear hF a; rintro v w2 a ⟨rfl, hB_⟩ hF; replace hS := hS.ext hB_; clear hB_
  refine wl hF rfl rfl rfl (r_not (hF.ev rfl)) ?_; clear hF a; intro a hF
  refine wl_mvs (A := [_]) hF rfl ?_; clear hF a; intro a hF
  apply wl_or (A := [_, _, _, _, _, _, _, _]) (pk := 17) hF hS (tc := 9) rfl
  ·
    intro hg9 a hF; try simp only [zb1, zb2, zb3, zb4, zb5, zb6, zb7, zb8] at hg9
    refine wl_take hF rfl rfl rfl rfl ?_
    refine wl hF rfl rfl rfl (r_field fo41_0 (hF.ev rfl)) ?_; clear hF a; intro a hF
    refine wl_take hF rfl rfl rfl rfl ?_
    refine wl hF rfl rfl rfl (r_field fo37_0 (hF.ev rfl)) ?_; clear hF a; intro a hF
    refine wl_take hF rfl rfl rfl rfl ?_
    refine wl hF rfl rfl rfl (r_loadn ag34 (hF.ev rfl) (hS.boxn (vs := [_, _, _, _, _, _]) (i := 0) (m := 6) rfl rfl) sz34) ?_; clear hF a; intro a hF
    refine wl_take hF rfl rfl rfl rfl ?_
    refine wl hF rfl rfl rfl (r_field fo41_1 (hF.ev rfl)) ?_; clear hF a; intro a hF
    refine wl_take hF rfl rfl rfl rfl ?_
    refine wl hF rfl rfl rfl (r_load1 sc38 (hF.ev rfl) (hS.box (i := 0) rfl rfl)) ?_; clear hF a; intro a hF
    refine wl_take hF rfl rfl rfl rfl ?_
    refine wl_call hF rfl rfl rfl (r_call2 en36 (hF.ev rfl) (hF.ev rfl)) (arePrograms_c (hS.rd r3)) ?_; clear hF a; rintro v w3 a ⟨rfl, hB_⟩ hF; replace hS := hS.ext hB_; clear hB_
    refine wl_take hF rfl rfl rfl rfl ?_
    refine wl hF rfl rfl rfl (r_not (hF.ev rfl)) ?_; clear hF a; intro a hF
    refine wl hF rfl rfl rfl (r_pick_f (hF.ev rfl) (hF.ev rfl)) ?_; clear hF a; intro a hF
    exact wl_nil ⟨rfl, (Fr.pre (A := [_, _, _, _, _, _, _, _]) hF rfl).keep hF (t := 17) rfl, hS⟩
  ·
    intro hg9 a hF; try simp only [zb1, zb2, zb3, zb4, zb5, zb6, zb7, zb8] at hg9
    refine wl_mvs (A := [_, _, _, _, _, _, _]) hF rfl ?_; clear hF a; intro a hF
    refine wl hF rfl rfl rfl (r_pick_t (hF.ev rfl) ec) ?_; clear hF a; intro a hF
    exact wl_nil ⟨rfl, (Fr.pre (A := [_, _, _, _, _, _, _, _]) hF rfl).keep hF (t := 17) rfl, hS⟩
  clear hF a hS; intro a w4 hF hS
  refine wl_mvs (A := [_]) hF rfl ?_; clear hF a; intro a hF
  apply wl_or (A := [_, _, _, _, _, _, _, _]) (pk := 26) hF hS (tc := 18) rfl
  ·
    intro hg18 a hF; try simp only [zb1, zb2, zb3, zb4, zb5, zb6, zb7, zb8] at hg18
    refine wl_take hF rfl rfl rfl rfl ?_
    refine wl hF rfl rfl rfl (r_field fo41_2 (hF.ev rfl)) ?_; clear hF a; intro a hF
    refine wl_take hF rfl rfl rfl rfl ?_
    refine wl hF rfl rfl rfl (r_load1 sc24 (hF.ev rfl) (hS.box (i := 0) rfl rfl)) ?_; clear hF a; intro a hF
    refine wl_take hF rfl rfl rfl rfl ?_
    refine wl hF rfl rfl rfl (r_len ul24 (hF.ev rfl)) ?_; clear hF a; intro a hF
    refine wl_take hF rfl rfl rfl rfl ?_
    refine wl hF rfl rfl rfl (r_field fo41_1 (hF.ev rfl)) ?_; clear hF a; intro a hF
    refine wl_take hF rfl rfl rfl rfl ?_
    refine wl hF rfl rfl rfl (r_load1 sc38 (hF.ev rfl) (hS.box (i := 0) rfl rfl)) ?_; clear hF a; intro a hF
    refine wl_take hF rfl rfl rfl rfl ?_
    refine wl hF rfl rfl rfl (r_len ul38 (hF.ev rfl)) ?_; clear hF a; intro a hF
    refine wl_take hF rfl rfl rfl rfl ?_
    refine wl hF rfl rfl rfl (r_neq (hF.ev rfl) (hF.ev rfl)) ?_; clear hF a; intro a hF
    refine wl hF rfl rfl rfl (r_pick_f (hF.ev rfl) (hF.ev rfl)) ?_; clear hF a; intro a hF
    exact wl_nil ⟨rfl, (Fr.pre (A := [_, _, _, _, _, _, _, _]) hF rfl).keep hF (t := 26) rfl, hS⟩
  ·
    intro hg18 a hF; try simp only [zb1, zb2, zb3, zb4, zb5, zb6, zb7, zb8] at hg18
    refine wl_mvs (A := [_, _, _, _, _, _, _]) hF rfl ?_; clear hF a; intro a hF
    refine wl hF rfl rfl rfl (r_pick_t (hF.ev rfl) ec) ?_; clear hF a; intro a hF
    exact wl_nil ⟨rfl, (Fr.pre (A := [_, _, _, _, _, _, _, _]) hF rfl).keep hF (t := 26) rfl, hS⟩
  clear hF a hS; intro a w5 hF hS
  refine wl_mvs (A := [_]) hF rfl ?_; clear hF a; intro a hF
  apply wl_or (A := [_, _, _, _, _]) (pk := 32) hF hS (tc := 27) rfl
  ·
    intro hg27 a hF; try simp only [zb1, zb2, zb3, zb4, zb5, zb6, zb7, zb8] at hg27
    refine wl_take hF rfl rfl rfl rfl ?_
    refine wl hF rfl rfl rfl (r_field fo41_4 (hF.ev rfl)) ?_; clear hF a; intro a hF
    refine wl_take hF rfl rfl rfl rfl ?_
    refine wl hF rfl rfl rfl (r_load1 sc3 (hF.ev rfl) (hS.box (i := 0) rfl rfl)) ?_; clear hF a; intro a hF
    refine wl_take hF rfl rfl rfl rfl ?_
    refine wl_call hF rfl rfl rfl (r_call3 en37 (hF.ev rfl) ec ec) (in_c _ _ _) ?_; clear hF a; rintro v w6 a ⟨rfl, hB_⟩ hF; replace hS := hS.ext hB_; clear hB_
    refine wl_take hF rfl rfl rfl rfl ?_
    refine wl hF rfl rfl rfl (r_not (hF.ev rfl)) ?_; clear hF a; intro a hF
    refine wl hF rfl rfl rfl (r_pick_f (hF.ev rfl) (hF.ev rfl)) ?_; clear hF a; intro a hF
    exact wl_nil ⟨rfl, (Fr.pre (A := [_, _, _, _, _]) hF rfl).keep hF (t := 32) rfl, hS⟩
  ·
    intro hg27 a hF; try simp only [zb1, zb2, zb3, zb4, zb5, zb6, zb7, zb8] at hg27
    refine wl_mvs (A := [_, _, _, _]) hF rfl ?_; clear hF a; intro a hF
    refine wl hF rfl rfl rfl (r_pick_t (hF.ev rfl) ec) ?_; clear hF a; intro a hF
    exact wl_nil ⟨rfl, (Fr.pre (A := [_, _, _, _, _]) hF rfl).keep hF (t := 32) rfl, hS⟩
  clear hF a hS; intro a w7 hF hS
  refine wl_mvs (A := [_]) hF rfl ?_; clear hF a; intro a hF
  apply wl_or (A := [_, _, _, _, _]) (pk := 38) hF hS (tc := 33) rfl
  ·
    intro hg33 a hF; try simp only [zb1, zb2, zb3, zb4, zb5, zb6, zb7, zb8] at hg33
    refine wl_take hF rfl rfl rfl rfl ?_
    refine wl hF rfl rfl rfl (r_field fo41_3 (hF.ev rfl)) ?_; clear hF a; intro a hF
    refine wl_take hF rfl rfl rfl rfl ?_
    refine wl hF rfl rfl rfl (r_load1 sc39 (hF.ev rfl) (hS.box (i := 0) rfl rfl)) ?_; clear hF a; intro a hF
    refine wl_take hF rfl rfl rfl rfl ?_
    refine wl hF rfl rfl rfl (r_len ul39 (hF.ev rfl)) ?_; clear hF a; intro a hF
    refine wl_take hF rfl rfl rfl rfl ?_
    refine wl hF rfl rfl rfl (r_gtr (hF.ev rfl) ec) ?_; clear hF a; intro a hF
    refine wl hF rfl rfl rfl (r_pick_f (hF.ev rfl) (hF.ev rfl)) ?_; clear hF a; intro a hF
    exact wl_nil ⟨rfl, (Fr.pre (A := [_, _, _, _, _]) hF rfl).keep hF (t := 38) rfl, hS⟩
  ·
    intro hg33 a hF; try simp only [zb1, zb2, zb3, zb4, zb5, zb6, zb7, zb8] at hg33
    refine wl_mvs (A := [_, _, _, _]) hF rfl ?_; clear hF a; intro a hF
    refine wl hF rfl rfl rfl (r_pick_t (hF.ev rfl) ec) ?_; clear hF a; intro a hF
    exact wl_nil ⟨rfl, (Fr.pre (A := [_, _, _, _, _]) hF rfl).keep hF (t := 38) rfl, hS⟩
  clear hF a hS; intro a w8 hF hS
  refine wl_nil (hK3 _ _ ?_)
  refine wc_fx (t := 38) hF rfl ?_ ?_ <;> clear hF <;> intro c38 hF <;> try simp only [zb1, zb2, zb3, zb4, zb5, zb6, zb7, zb8] at c38
  ·
    refine ws fun K4 hK4 => ?_
    refine wl_mvs (A := [_]) hF rfl ?_; clear hF a; intro a hF
    refine wl_nil (hK4 _ _ ?_)
    refine wp_ret ?_
    try simp only [Exit.then, Exit.inBlock, ↓reduceIte]
    refine ret1 rfl hF rfl ⟨congrArg Value.bool (Eq.symm ?_), hS.old⟩
    first
      | (rcases c38 with (((c | c) | c) | c) | c
         · exact ma_no1 (.inl (.inl (.inl (.inl c))))
         · unfold progsOk at c
           simp only [zb6, zb8] at c
           rcases c with (c | c) | c
           · by_cases hs : stateOk m.state = true
             · exact absurd (stateOk_shape hs).1 c
             · exact ma_no1 (.inl (.inl (.inl (.inl (by simpa using hs)))))
           · exact ma_no1 (.inl (.inl (.inl (.inr c))))
           · exact ma_progs c
         · by_cases hp : (m.programs.length : Int) = m.state.config.threads
           · exact ma_no1 (.inl (.inl (.inr (by omega))))
           · exact ma_no1 (.inl (.inl (.inl (.inr hp))))
         · exact ma_no1 (.inl (.inr c))
         · exact ma_no1 (.inr c))
      | exact ma_next (range_no (k := k) (by omega) (decide_eq_false c55))
      | (rw [ma_yes e1 e2.1.2 (by omega) e2.2 (all_done hn (by rw [List.length_range]; omega)) e4 e5, any_not, Bool.not_not, show (m.next.length : Int) = m.programs.length by omega])
  simp only [and_assoc] at c38
  obtain ⟨e1, e2, e3, e4a, e4b, e5⟩ := c38
  have e4 := And.intro e4a e4b
  unfold progsOk at e2; simp only [zb4, zb7] at e2
  refine wp_skip ?_
  refine hK2 _ _ ?_
  refine wp_seq_k fun K5 hK5 => ?_
  refine ws fun K6 hK6 => ?_
  refine wl hF rfl rfl rfl (r_field fo41_2 (hF.ev rfl)) ?_; clear hF a; intro a hF
  refine wl hF rfl rfl rfl (r_load1 sc24 (hF.ev rfl) (hS.box (i := 0) rfl rfl)) ?_; clear hF a; intro a hF
  refine wl hF rfl rfl rfl (r_len ul24 (hF.ev rfl)) ?_; clear hF a; intro a hF
  refine wl_mvs (A := [_]) hF rfl ?_; clear hF a; intro a hF
  refine wl_nil (hK6 _ _ ?_)
  refine wp_block ?_
  have hL_ := ((((hF.nil.keep hF (t := 41) rfl).keep hF (t := 40) rfl).keep hF (t := 2) rfl).keep hF (t := 1) rfl)
  refine wp_loop_r (σ := Nat) (fun k L_ => (42, vi k) :: L_) (fun k => (k ≤ m.next.length) ∧ (((List.range m.next.length).take k).all (fun i => decide (0 ≤ at0 m.next (i : Int) ∧ at0 m.next (i : Int) ≤ ((at0 m.programs (i : Int)).length : Int))) = true)) (fun k => m.next.length - k) 0 hS (hL_.keepE hF (t := 42) rfl rfl) ?_ ?_
  · exact ⟨Nat.zero_le _, rfl⟩
  clear hF hS hL_ a
  rintro k a w9 ⟨hk, hn⟩ hS hF; try dsimp only at hF; try dsimp only at hS
  refine ws fun K7 hK7 => ?_
  refine wl hF rfl rfl rfl (r_lss (hF.ev rfl) (hF.ev rfl)) ?_; clear hF a; intro a hF
  refine wl_nil (hK7 _ _ ?_)
  refine wp_seq_k fun K8 hK8 => ?_
  refine wc_fx (t := 43) hF rfl ?_ ?_ <;> clear hF <;> intro c43 hF <;> try simp only [zb1, zb2, zb3, zb4, zb5, zb6, zb7, zb8] at c43
  ·
    have hlt : k < m.next.length := by omega
    refine wp_skip ?_
    refine hK8 _ _ ?_
    refine wp_seq_k fun K9 hK9 => ?_
    refine wp_block ?_
    refine ws fun K10 hK10 => ?_
    refine wl_mvs (A := [_]) hF rfl ?_; clear hF a; intro a hF
    obtain ⟨g45, o45, m45, q45, hv45, hm45, hl45, hc45⟩ := Rd.atF (r4) (a := a) (X := .tmp 42) (hF.ev rfl) (by omega) (by omega)
    refine wl hF rfl rfl rfl (r_index sl24 ((hF.ev rfl).trans hv45) (hF.ev rfl) (by omega) (by first | omega | (simp at hm45; omega))) ?_; clear hF a; intro a hF
    refine wl hF rfl rfl rfl (r_load1 sc3 (hF.ev rfl) (cellB hS.old (hc45 0 _ rfl))) ?_; clear hF a; intro a hF
    refine wl_mvs (A := [_, _]) hF rfl ?_; clear hF a; intro a hF
    refine wl_nil (hK10 _ _ ?_)
    refine ws fun K11 hK11 => ?_
    refine wl_mvs (A := [_]) hF rfl ?_; clear hF a; intro a hF
    refine wl hF rfl rfl rfl (r_field fo41_1 (hF.ev rfl)) ?_; clear hF a; intro a hF
    refine wl hF rfl rfl rfl (r_load1 sc38 (hF.ev rfl) (hS.box (i := 0) rfl rfl)) ?_; clear hF a; intro a hF
    refine wl_mvs (A := [_]) hF rfl ?_; clear hF a; intro a hF
    obtain ⟨g51, o51, m51, q51, cs51, hv51, hm51, hl51, hk51, hz51, hc51⟩ := Rd.at (r3) (a := a) (X := .tmp 50) (hF.ev rfl) (by omega) (by omega)
    obtain ⟨v51, rfl, hr51⟩ := hk51; obtain ⟨Ae51, qe51, rfl, _, hme51⟩ := hr51.sl; unfold maxLen at hme51
    refine wl hF rfl rfl rfl (r_index sl38 ((hF.ev rfl).trans hv51) (hF.ev rfl) (by omega) (by first | omega | (simp at hm51; omega))) ?_; clear hF a; intro a hF
    refine wl hF rfl rfl rfl (r_load1 sc49 (hF.ev rfl) (cellB hS.old (hc51 0 _ rfl))) ?_; clear hF a; intro a hF
    refine wl hF rfl rfl rfl (r_len ul49 (hF.ev rfl)) ?_; clear hF a; intro a hF
    refine wl_call hF rfl rfl rfl (r_call3 en37 (hF.ev rfl) ec (hF.ev rfl)) (in_c _ _ _) ?_; clear hF a; rintro v w10 a ⟨rfl, hB_⟩ hF; replace hS := hS.ext hB_; clear hB_
    refine wl hF rfl rfl rfl (r_not (hF.ev rfl)) ?_; clear hF a; intro a hF
    refine wl_nil (hK11 _ _ ?_)
    refine wc_fx (t := 55) hF rfl ?_ ?_ <;> clear hF <;> intro c55 hF <;> try simp only [zb1, zb2, zb3, zb4, zb5, zb6, zb7, zb8] at c55
    ·
      refine ws fun K12 hK12 => ?_
      refine wl_mvs (A := [_]) hF rfl ?_; clear hF a; intro a hF
      refine wl_nil (hK12 _ _ ?_)
      refine wp_ret ?_
      try simp only [Exit.then, Exit.inBlock, ↓reduceIte]
      refine ret1 rfl hF rfl ⟨congrArg Value.bool (Eq.symm ?_), hS.old⟩
      first
        | (rcases c38 with (((c | c) | c) | c) | c
           · exact ma_no1 (.inl (.inl (.inl (.inl c))))
           · unfold progsOk at c
             simp only [zb6, zb8] at c
             rcases c with (c | c) | c
             · by_cases hs : stateOk m.state = true
               · exact absurd (stateOk_shape hs).1 c
               · exact ma_no1 (.inl (.inl (.inl (.inl (by simpa using hs)))))
             · exact ma_no1 (.inl (.inl (.inl (.inr c))))
             · exact ma_progs c
           · by_cases hp : (m.programs.length : Int) = m.state.config.threads
             · exact ma_no1 (.inl (.inl (.inr (by omega))))
             · exact ma_no1 (.inl (.inl (.inl (.inr hp))))
           · exact ma_no1 (.inl (.inr c))
           · exact ma_no1 (.inr c))
        | exact ma_next (range_no (k := k) (by omega) (decide_eq_false c55))
        | (rw [ma_yes e1 e2.1.2 (by omega) e2.2 (all_done hn (by rw [List.length_range]; omega)) e4 e5, any_not, Bool.not_not, show (m.next.length : Int) = m.programs.length by omega])
    refine wp_skip ?_
    simp only [Exit.then, Exit.inBlock, ↓reduceIte]
    refine hK9 _ _ ?_
    refine wp_region_lit ?_
    refine wl hF rfl rfl rfl (r_add (hF.ev rfl) ec) ?_; clear hF a; intro a hF
    refine wl_mvs (A := [_]) hF rfl ?_; clear hF a; intro a hF
    refine wl_nil ?_
    try simp only [Exit.then, Exit.inBlock, ↓reduceIte]
    refine ⟨k + 1, ⟨by omega, all_nxt hn (range_at (by omega)) (decide_eq_true c55)⟩, hS, (((((hF.nil.keep hF (t := 41) rfl).keep hF (t := 40) rfl).keep hF (t := 2) rfl).keep hF (t := 1) rfl).keepE hF (t := 42) rfl (wk (by omega))), by omega⟩
  refine wp_exit ?_
  simp only [Exit.then, Exit.inBlock, ↓reduceIte]
  refine hK5 _ _ ?_
  refine ws fun K13 hK13 => ?_
  refine wl hF rfl rfl rfl (r_field fo41_3 (hF.ev rfl)) ?_; clear hF a; intro a hF
  refine wl hF rfl rfl rfl (r_load1 sc39 (hF.ev rfl) (hS.box (i := 0) rfl rfl)) ?_; clear hF a; intro a hF
  refine wl hF rfl rfl rfl (r_makeFunc (by simp only [List.map_toArray, List.map_cons, List.map_nil]; rw [hF.ev rfl])) ?_; clear hF a; intro a hF
  refine wl_call hF rfl rfl rfl (r_call2 en38 (hF.ev rfl) (hF.ev rfl)) (containsFuncV_c (p := fun e => !eventOk m.programs.length m.time e) (cap := #[.pointer (some ⟨g1, 0, none⟩)]) (hS.rd r5) (by kernel_rfl) (fun w_ x hx hB => by rw [app_1]; exact isMachine1_c (machineEK.ext hB (hS.k hm)) (fun j u hu => cellB hB (hS.box_rd (i := 0) rfl j u hu)))) ?_; clear hF a; rintro v w11 a ⟨rfl, hB_⟩ hF; replace hS := hS.ext hB_; clear hB_
  refine wl hF rfl rfl rfl (r_not (hF.ev rfl)) ?_; clear hF a; intro a hF
  refine wl_mvs (A := [_]) hF rfl ?_; clear hF a; intro a hF
  refine wl_nil (hK13 _ _ ?_)
  refine wp_ret ?_
  try simp only [Exit.then, Exit.inBlock, ↓reduceIte]
  refine ret1 rfl hF rfl ⟨congrArg Value.bool (Eq.symm ?_), hS.old⟩
  first
    | (rcases c38 with (((c | c) | c) | c) | c
       · exact ma_no1 (.inl (.inl (.inl (.inl c))))
       · unfold progsOk at c
         simp only [zb6, zb8] at c
         rcases c with (c | c) | c
         · by_cases hs : stateOk m.state = true
           · exact absurd (stateOk_shape hs).1 c
           · exact ma_no1 (.inl (.inl (.inl (.inl (by simpa using hs)))))
         · exact ma_no1 (.inl (.inl (.inl (.inr c))))
         · exact ma_progs c
       · by_cases hp : (m.programs.length : Int) = m.state.config.threads
         · exact ma_no1 (.inl (.inl (.inr (by omega))))
         · exact ma_no1 (.inl (.inl (.inl (.inr hp))))
       · exact ma_no1 (.inl (.inr c))
       · exact ma_no1 (.inr c))
    | exact ma_next (range_no (k := k) (by omega) (decide_eq_false c55))
    | (rw [ma_yes e1 e2.1.2 (by omega) e2.2 (all_done hn (by rw [List.length_range]; omega)) e4 e5, any_not, Bool.not_not, show (m.next.length : Int) = m.programs.length by omega])

end Go.Proofs.YtjloiphocdaahaaGreat.Wk
