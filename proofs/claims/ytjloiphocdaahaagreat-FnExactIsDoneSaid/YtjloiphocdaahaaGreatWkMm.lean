/- Walks: machines: size, copy, comparison, marks. -/
import Derived.Test.YtjloiphocdaahaaGreatChecked
import Derived.Test.YtjloiphocdaahaaGreatWkMo
import Derived.Test.YtjloiphocdaahaaGreatWkMs
import Derived.Test.YtjloiphocdaahaaGreatFactsB
namespace Go.Proofs.YtjloiphocdaahaaGreat.Wk
open Go Go.RowKit Sl
set_option linter.unusedVariables false
set_option linter.unusedSimpArgs false
set_option maxRecDepth 20000

def _root_.Go.Proofs.YtjloiphocdaahaaGreat.Sl.Machine.size (m : Sl.Machine) : Nat := m.state.size + (m.programs.length + crow List.length m.programs) + m.next.length + m.events.length
def _root_.Go.Proofs.YtjloiphocdaahaaGreat.Sl.Machine.cnt (m : Sl.Machine) : Nat := m.state.cnt + crow (crow Sl.Op.cnt) m.programs + m.next.length + crow Sl.Event.cnt m.events
def _root_.Go.Proofs.YtjloiphocdaahaaGreat.Sl.Machine.mark (k : Int) (m : Sl.Machine) : Sl.Machine := ⟨m.state.mark k, mrow (fun k x => mrow Sl.Op.mark Sl.Op.cnt k x) (crow Sl.Op.cnt) (k + m.state.cnt) m.programs, marks (k + m.state.cnt + (crow (crow Sl.Op.cnt) m.programs : Nat)) m.next.length, mrow Sl.Event.mark Sl.Event.cnt (k + m.state.cnt + (crow (crow Sl.Op.cnt) m.programs : Nat) + m.next.length) m.events, m.time⟩
theorem crow_op (xs : List Sl.Op) : crow Sl.Op.cnt xs = 3 * xs.length := by
  induction xs with
  | nil => rfl
  | cons x xs ih => simp only [crow, ih, List.length_cons, Sl.Op.cnt]; omega
theorem crow_ops (xs : List (List Sl.Op)) : crow (crow Sl.Op.cnt) xs = 3 * crow List.length xs := by
  induction xs with
  | nil => rfl
  | cons x xs ih => simp only [crow, ih, crow_op]; omega
theorem crow_event (xs : List Sl.Event) : crow Sl.Event.cnt xs = 8 * xs.length := by
  induction xs with
  | nil => rfl
  | cons x xs ih => simp only [crow, ih, List.length_cons, Sl.Event.cnt]; omega
theorem machine_cnt (m : Sl.Machine) : m.cnt ≤ 14 * m.size := by
  have := state_cnt m.state
  unfold Sl.Machine.cnt Sl.Machine.size
  rw [crow_ops, crow_event]; omega

set_option maxHeartbeats 4000000 in
set_option maxRecDepth 20000 in
theorem szMachine_c {W : World} {m : Sl.Machine} {cs : List Value} {left : Int} (hm : machineEK.K W m cs) (h0 : 0 ≤ left) (h1 : left ≤ 1048576) : Calls Tryz.prog 4 #[.agg cs.toArray, vi left] W (Ret fun v w' => (∃ r : Int, v = vi r ∧ -1 ≤ r ∧ r ≤ left ∧ (0 ≤ r → (m.size : Int) ≤ left - r)) ∧ Below W.heap.size W w') := by
  refine calls_fr Tryz.func4 rfl Tryz.ntmps4 rfl ?_
  intro a hF
  obtain ⟨v0, v1, v2, v3, v4, v5, rfl, r0, r1, r2, r3, r4, r5⟩ := hm
  have hms : stateEK.K W m.state (m.state.encv v0 v1 v2) := ⟨_, _, _, rfl, r0, r1, r2⟩
  have hS := Sep.refl W
  refine ws fun K1 hK1 => ?_
  refine wl_box (cs := [_, _, _, _, _, _, _, _, _, _, _, _, _, _, _, _, _]) hF hS rfl (hF.ev rfl) rfl ?_; clear hF a; intro g1 w1 a hS_ hB_ hF; replace hS := hS_; clear hS_ hB_
  refine wl_mvs (A := [_]) hF rfl ?_; clear hF a; intro a hF
  refine wl_nil (hK1 _ _ ?_)
  refine ws fun K2 hK2 => ?_
  refine wl hF rfl rfl rfl (r_field fo31_0 (hF.ev rfl)) ?_; clear hF a; intro a hF
  refine wl hF rfl rfl rfl (r_loadn ag27 (hF.ev rfl) (hS.boxn (vs := [_, _, _, _, _, _, _, _, _, _, _, _, _]) (i := 0) (m := 13) rfl rfl) sz27) ?_; clear hF a; intro a hF
  refine wl_mvs (A := [_]) hF rfl ?_; clear hF a; intro a hF
  refine wl_call hF rfl rfl rfl (r_call2 en9 (hF.ev rfl) (hF.ev rfl)) (szState_c (hS.k hms) (by omega) (by omega)) ?_; clear hF a; rintro v w2 a ⟨⟨r8, rfl, e1_8, e2_8, e3_8⟩, hB_⟩ hF; replace hS := hS.ext hB_; clear hB_
  refine wl_mvs (A := [_]) hF rfl ?_; clear hF a; intro a hF
  refine wl_nil (hK2 _ _ ?_)
  refine wp_seq_k fun K3 hK3 => ?_
  refine ws fun K4 hK4 => ?_
  refine wl_mvs (A := [_]) hF rfl ?_; clear hF a; intro a hF
  refine wl hF rfl rfl rfl (r_lss (hF.ev rfl) ec) ?_; clear hF a; intro a hF
  refine wl_nil (hK4 _ _ ?_)
  first | refine wc_dec (hF.ev rfl) (fun c10 => ?_) (fun c10 => ?_) | refine wc_ndec (hF.ev rfl) (fun c10 => ?_) (fun c10 => ?_) | refine wc_b (hF.ev rfl) (fun c10 => ?_) (fun c10 => ?_)
  ·
    refine ws fun K5 hK5 => ?_
    refine wl_mvs (A := [_]) hF rfl ?_; clear hF a; intro a hF
    refine wl_nil (hK5 _ _ ?_)
    refine wp_ret ?_
    try simp only [Exit.then, Exit.inBlock, ↓reduceIte]
    first | exact ret1 rfl hF rfl ⟨⟨-1, rfl, by omega, by omega, by omega⟩, hS.old⟩ | exact ret1 rfl hF rfl ⟨⟨_, rfl, by omega, by omega, fun h => by unfold Sl.Machine.size; omega⟩, hS.old⟩
  refine wp_skip ?_
  refine hK3 _ _ ?_
  refine ws fun K6 hK6 => ?_
  refine wl hF rfl rfl rfl (r_field fo31_1 (hF.ev rfl)) ?_; clear hF a; intro a hF
  refine wl hF rfl rfl rfl (r_load1 sc28 (hF.ev rfl) (hS.box (i := 0) rfl rfl)) ?_; clear hF a; intro a hF
  refine wl_mvs (A := [_]) hF rfl ?_; clear hF a; intro a hF
  refine wl_call hF rfl rfl rfl (r_call2 en10 (hF.ev rfl) (hF.ev rfl)) (szOpSS_c (hS.rd r3) (by omega) (by omega)) ?_; clear hF a; rintro v w3 a ⟨⟨r14, rfl, e1_14, e2_14, e3_14⟩, hB_⟩ hF; replace hS := hS.ext hB_; clear hB_
  refine wl_mvs (A := [_]) hF rfl ?_; clear hF a; intro a hF
  refine wl_nil (hK6 _ _ ?_)
  refine wp_seq_k fun K7 hK7 => ?_
  refine ws fun K8 hK8 => ?_
  refine wl_mvs (A := [_]) hF rfl ?_; clear hF a; intro a hF
  refine wl hF rfl rfl rfl (r_lss (hF.ev rfl) ec) ?_; clear hF a; intro a hF
  refine wl_nil (hK8 _ _ ?_)
  first | refine wc_dec (hF.ev rfl) (fun c16 => ?_) (fun c16 => ?_) | refine wc_ndec (hF.ev rfl) (fun c16 => ?_) (fun c16 => ?_) | refine wc_b (hF.ev rfl) (fun c16 => ?_) (fun c16 => ?_)
  ·
    refine ws fun K9 hK9 => ?_
    refine wl_mvs (A := [_]) hF rfl ?_; clear hF a; intro a hF
    refine wl_nil (hK9 _ _ ?_)
    refine wp_ret ?_
    try simp only [Exit.then, Exit.inBlock, ↓reduceIte]
    first | exact ret1 rfl hF rfl ⟨⟨-1, rfl, by omega, by omega, by omega⟩, hS.old⟩ | exact ret1 rfl hF rfl ⟨⟨_, rfl, by omega, by omega, fun h => by unfold Sl.Machine.size; omega⟩, hS.old⟩
  refine wp_skip ?_
  refine hK7 _ _ ?_
  refine ws fun K10 hK10 => ?_
  refine wl hF rfl rfl rfl (r_field fo31_2 (hF.ev rfl)) ?_; clear hF a; intro a hF
  refine wl hF rfl rfl rfl (r_load1 sc24 (hF.ev rfl) (hS.box (i := 0) rfl rfl)) ?_; clear hF a; intro a hF
  refine wl_mvs (A := [_]) hF rfl ?_; clear hF a; intro a hF
  refine wl_call hF rfl rfl rfl (r_call2 en11 (hF.ev rfl) (hF.ev rfl)) (szIntS_c (hS.rd r4) (by omega) (by omega)) ?_; clear hF a; rintro v w4 a ⟨⟨r20, rfl, e1_20, e2_20, e3_20⟩, hB_⟩ hF; replace hS := hS.ext hB_; clear hB_
  refine wl_mvs (A := [_]) hF rfl ?_; clear hF a; intro a hF
  refine wl_nil (hK10 _ _ ?_)
  refine wp_seq_k fun K11 hK11 => ?_
  refine ws fun K12 hK12 => ?_
  refine wl_mvs (A := [_]) hF rfl ?_; clear hF a; intro a hF
  refine wl hF rfl rfl rfl (r_lss (hF.ev rfl) ec) ?_; clear hF a; intro a hF
  refine wl_nil (hK12 _ _ ?_)
  first | refine wc_dec (hF.ev rfl) (fun c22 => ?_) (fun c22 => ?_) | refine wc_ndec (hF.ev rfl) (fun c22 => ?_) (fun c22 => ?_) | refine wc_b (hF.ev rfl) (fun c22 => ?_) (fun c22 => ?_)
  ·
    refine ws fun K13 hK13 => ?_
    refine wl_mvs (A := [_]) hF rfl ?_; clear hF a; intro a hF
    refine wl_nil (hK13 _ _ ?_)
    refine wp_ret ?_
    try simp only [Exit.then, Exit.inBlock, ↓reduceIte]
    first | exact ret1 rfl hF rfl ⟨⟨-1, rfl, by omega, by omega, by omega⟩, hS.old⟩ | exact ret1 rfl hF rfl ⟨⟨_, rfl, by omega, by omega, fun h => by unfold Sl.Machine.size; omega⟩, hS.old⟩
  refine wp_skip ?_
  refine hK11 _ _ ?_
  refine ws fun K14 hK14 => ?_
  refine wl hF rfl rfl rfl (r_field fo31_3 (hF.ev rfl)) ?_; clear hF a; intro a hF
  refine wl hF rfl rfl rfl (r_load1 sc29 (hF.ev rfl) (hS.box (i := 0) rfl rfl)) ?_; clear hF a; intro a hF
  refine wl_mvs (A := [_]) hF rfl ?_; clear hF a; intro a hF
  refine wl_call hF rfl rfl rfl (r_call2 en12 (hF.ev rfl) (hF.ev rfl)) (szEventS_c (hS.rd r5) (by omega) (by omega)) ?_; clear hF a; rintro v w5 a ⟨⟨r26, rfl, e1_26, e2_26, e3_26⟩, hB_⟩ hF; replace hS := hS.ext hB_; clear hB_
  refine wl_mvs (A := [_]) hF rfl ?_; clear hF a; intro a hF
  refine wl_nil (hK14 _ _ ?_)
  refine wp_seq_k fun K15 hK15 => ?_
  refine ws fun K16 hK16 => ?_
  refine wl_mvs (A := [_]) hF rfl ?_; clear hF a; intro a hF
  refine wl hF rfl rfl rfl (r_lss (hF.ev rfl) ec) ?_; clear hF a; intro a hF
  refine wl_nil (hK16 _ _ ?_)
  first | refine wc_dec (hF.ev rfl) (fun c28 => ?_) (fun c28 => ?_) | refine wc_ndec (hF.ev rfl) (fun c28 => ?_) (fun c28 => ?_) | refine wc_b (hF.ev rfl) (fun c28 => ?_) (fun c28 => ?_)
  ·
    refine ws fun K17 hK17 => ?_
    refine wl_mvs (A := [_]) hF rfl ?_; clear hF a; intro a hF
    refine wl_nil (hK17 _ _ ?_)
    refine wp_ret ?_
    try simp only [Exit.then, Exit.inBlock, ↓reduceIte]
    first | exact ret1 rfl hF rfl ⟨⟨-1, rfl, by omega, by omega, by omega⟩, hS.old⟩ | exact ret1 rfl hF rfl ⟨⟨_, rfl, by omega, by omega, fun h => by unfold Sl.Machine.size; omega⟩, hS.old⟩
  refine wp_skip ?_
  refine hK15 _ _ ?_
  refine ws fun K18 hK18 => ?_
  refine wl_mvs (A := [_, _]) hF rfl ?_; clear hF a; intro a hF
  refine wl_nil (hK18 _ _ ?_)
  refine wp_ret ?_
  try simp only [Exit.then, Exit.inBlock, ↓reduceIte]
  first | exact ret1 rfl hF rfl ⟨⟨-1, rfl, by omega, by omega, by omega⟩, hS.old⟩ | exact ret1 rfl hF rfl ⟨⟨_, rfl, by omega, by omega, fun h => by unfold Sl.Machine.size; omega⟩, hS.old⟩

set_option maxHeartbeats 4000000 in
set_option maxRecDepth 20000 in
theorem toMachine_c {W : World} {m : Sl.Machine} {cs : List Value} (hm : machineEK.K W m cs) (hz : m.size ≤ 1048576) : Calls Tryz.prog 6 #[.agg cs.toArray] W (Ret (Mk W (fun vs => .agg (machineEK.cells m vs).toArray) (fun vs => [Part machineEK m vs]))) := by
  refine calls_fr Tryz.func6 rfl Tryz.ntmps6 rfl ?_
  intro a hF
  obtain ⟨v0, v1, v2, v3, v4, v5, rfl, r0, r1, r2, r3, r4, r5⟩ := hm
  have hms : stateEK.K W m.state (m.state.encv v0 v1 v2) := ⟨_, _, _, rfl, r0, r1, r2⟩
  unfold Sl.Machine.size at hz
  have hS := Sep.refl W
  refine ws fun K1 hK1 => ?_
  refine wl_box (cs := [_, _, _, _, _, _, _, _, _, _, _, _, _, _, _, _, _]) hF hS rfl (hF.ev rfl) rfl ?_; clear hF a; intro g1 w1 a hS_ hB_ hF; replace hS := hS_; clear hS_ hB_
  refine wl_alloc hF hS rfl zr41 ?_; clear hF a; intro g2 w2 a hS_ hB_ hF; replace hS := hS_; clear hS_ hB_
  refine wl_nil (hK1 _ _ ?_)
  refine ws fun K2 hK2 => ?_
  refine wl_alloc hF hS rfl zr41 ?_; clear hF a; intro g3 w3 a hS_ hB_ hF; replace hS := hS_; clear hS_ hB_
  refine wl_nil (hK2 _ _ ?_)
  refine ws fun K3 hK3 => ?_
  refine wl hF rfl rfl rfl (r_field fo31_0 (hF.ev rfl)) ?_; clear hF a; intro a hF
  refine wl hF rfl rfl rfl (r_loadn ag27 (hF.ev rfl) (hS.boxn (vs := [_, _, _, _, _, _, _, _, _, _, _, _, _]) (i := 2) (m := 13) rfl rfl) sz27) ?_; clear hF a; intro a hF
  refine wl_mk hF hS rfl rfl rfl (r_call1 en15 (hF.ev rfl)) (toState_c (hS.k hms) (by omega)) ?_; clear hF a; rintro vs6 w4 a hS_ hF; replace hS := hS_; clear hS_; dsimp only [List.cons_append, List.nil_append] at hS
  refine wl hF rfl rfl rfl (r_field fo41_0 (hF.ev rfl)) ?_; clear hF a; intro a hF
  refine wl_storen (cs' := [_, _, _, _, _, _, _, _, _, _, _, _, _, _, _, _, _]) hF hS (i := 1) rfl (hF.ev rfl) (hF.ev rfl) sz37 ⟨rfl, rfl⟩ rfl rfl ?_; intro w5 hS_; replace hS := hS_; clear hS_; dsimp only [List.set] at hS
  refine wl_nil (hK3 _ _ ?_)
  refine ws fun K4 hK4 => ?_
  refine wl hF rfl rfl rfl (r_field fo31_1 (hF.ev rfl)) ?_; clear hF a; intro a hF
  refine wl hF rfl rfl rfl (r_load1 sc28 (hF.ev rfl) (hS.box (i := 3) rfl rfl)) ?_; clear hF a; intro a hF
  refine wl_mk hF hS rfl rfl rfl (r_call1 en16 (hF.ev rfl)) (toOpSS_c (hS.rd r3) (by omega) (rows_le (by omega))) ?_; clear hF a; rintro s10 w6 a hS_ hF; replace hS := hS_; clear hS_; dsimp only [List.cons_append, List.nil_append] at hS
  have hln10 := hS.own_len (q := 0) rfl
  refine wl hF rfl rfl rfl (r_field fo41_1 (hF.ev rfl)) ?_; clear hF a; intro a hF
  refine wl_store hF hS (i := 2) rfl sz38 (hF.ev rfl) (hF.ev rfl) rfl rfl ?_; intro w7 hS_; replace hS := hS_; clear hS_; dsimp only [List.set, Nat.reduceAdd] at hS
  refine wl_nil (hK4 _ _ ?_)
  refine ws fun K5 hK5 => ?_
  refine wl hF rfl rfl rfl (r_field fo31_2 (hF.ev rfl)) ?_; clear hF a; intro a hF
  refine wl hF rfl rfl rfl (r_load1 sc24 (hF.ev rfl) (hS.box (i := 4) rfl rfl)) ?_; clear hF a; intro a hF
  refine wl_mk hF hS rfl rfl rfl (r_call1 en17 (hF.ev rfl)) (toIntS_c (hS.rd r4) (by omega)) ?_; clear hF a; rintro s14 w8 a hS_ hF; replace hS := hS_; clear hS_; dsimp only [List.cons_append, List.nil_append] at hS
  have hln14 := hS.own_len (q := 0) rfl
  refine wl hF rfl rfl rfl (r_field fo41_2 (hF.ev rfl)) ?_; clear hF a; intro a hF
  refine wl_store hF hS (i := 3) rfl sz24 (hF.ev rfl) (hF.ev rfl) rfl rfl ?_; intro w9 hS_; replace hS := hS_; clear hS_; dsimp only [List.set, Nat.reduceAdd] at hS
  refine wl_nil (hK5 _ _ ?_)
  refine ws fun K6 hK6 => ?_
  refine wl hF rfl rfl rfl (r_field fo31_3 (hF.ev rfl)) ?_; clear hF a; intro a hF
  refine wl hF rfl rfl rfl (r_load1 sc29 (hF.ev rfl) (hS.box (i := 5) rfl rfl)) ?_; clear hF a; intro a hF
  refine wl_mk hF hS rfl rfl rfl (r_call1 en18 (hF.ev rfl)) (toEventS_c (hS.rd r5) (by omega)) ?_; clear hF a; rintro s18 w10 a hS_ hF; replace hS := hS_; clear hS_; dsimp only [List.cons_append, List.nil_append] at hS
  have hln18 := hS.own_len (q := 0) rfl
  refine wl hF rfl rfl rfl (r_field fo41_3 (hF.ev rfl)) ?_; clear hF a; intro a hF
  refine wl_store hF hS (i := 4) rfl sz39 (hF.ev rfl) (hF.ev rfl) rfl rfl ?_; intro w11 hS_; replace hS := hS_; clear hS_; dsimp only [List.set, Nat.reduceAdd] at hS
  refine wl_nil (hK6 _ _ ?_)
  refine ws fun K7 hK7 => ?_
  refine wl hF rfl rfl rfl (r_field fo31_4 (hF.ev rfl)) ?_; clear hF a; intro a hF
  refine wl hF rfl rfl rfl (r_load1 sc3 (hF.ev rfl) (hS.box (i := 6) rfl rfl)) ?_; clear hF a; intro a hF
  refine wl hF rfl rfl rfl (r_field fo41_4 (hF.ev rfl)) ?_; clear hF a; intro a hF
  refine wl_store hF hS (i := 4) rfl sz3 (hF.ev rfl) (hF.ev rfl) rfl rfl ?_; intro w12 hS_; replace hS := hS_; clear hS_; dsimp only [List.set, Nat.reduceAdd] at hS
  refine wl_nil (hK7 _ _ ?_)
  refine ws fun K8 hK8 => ?_
  refine wl hF rfl rfl rfl (r_loadn ag41 (hF.ev rfl) (hS.box_rd (i := 4) rfl) sz41) ?_; clear hF a; intro a hF
  refine wl_storew hF hS (i := 5) rfl (hF.ev rfl) (hF.ev rfl) sz41 rfl rfl ?_; intro w13 hS_; replace hS := hS_; clear hS_; dsimp only [List.set, Nat.reduceAdd] at hS
  refine wl_nil (hK8 _ _ ?_)
  refine wp_ret ?_
  try simp only [Exit.then, Exit.inBlock, ↓reduceIte]
  replace hS := hS.pull (p := 3) rfl; dsimp only [List.eraseIdx] at hS
  replace hS : Sep W (Own intEK (sv (vs6.getD 0 (none, 0, 0))) m.state.cells :: Own intEK (sv (vs6.getD 1 (none, 0, 0))) m.state.generations :: Own threadEK (sv (vs6.getD 2 (none, 0, 0))) m.state.threads :: _) _ := hS.part_open
  refine ret1c rfl ag41 hF hS (i := 7) rfl sz41 rfl ⟨[vs6.getD 0 (none, 0, 0), vs6.getD 1 (none, 0, 0), vs6.getD 2 (none, 0, 0), s10, s14, s18], rfl, hS.part_of [0, 1, 2, 5, 4, 3] (by decide) rfl⟩

set_option maxHeartbeats 4000000 in
set_option maxRecDepth 20000 in
theorem eqMachine_c {W : World} {x y : Sl.Machine} {cs ds : List Value} (hx : machineEK.K W x cs) (hy : machineEK.K W y ds) : Calls Tryz.prog 8 #[.agg cs.toArray, .agg ds.toArray] W (Ret fun v w' => v = .bool (decide (x = y)) ∧ Below W.heap.size W w') := by
  refine calls_fr Tryz.func8 rfl Tryz.ntmps8 rfl ?_
  intro a hF
  obtain ⟨v0, v1, v2, v3, v4, v5, rfl, r0, r1, r2, r3, r4, r5⟩ := hx
  obtain ⟨u0, u1, u2, u3, u4, u5, rfl, q0, q1, q2, q3, q4, q5⟩ := hy
  have hms : stateEK.K W x.state (x.state.encv v0 v1 v2) := ⟨_, _, _, rfl, r0, r1, r2⟩
  have hmt : stateEK.K W y.state (y.state.encv u0 u1 u2) := ⟨_, _, _, rfl, q0, q1, q2⟩
  have hS := Sep.refl W
  refine ws fun K1 hK1 => ?_
  refine wl_box (cs := [_, _, _, _, _, _, _, _, _, _, _, _, _, _, _, _, _]) hF hS rfl (hF.ev rfl) rfl ?_; clear hF a; intro g1 w1 a hS_ hB_ hF; replace hS := hS_; clear hS_ hB_
  refine wl_box (cs := [_, _, _, _, _, _, _, _, _, _, _, _, _, _, _, _, _]) hF hS rfl (hF.ev rfl) rfl ?_; clear hF a; intro g2 w2 a hS_ hB_ hF; replace hS := hS_; clear hS_ hB_
  refine wl_mvs (A := [_]) hF rfl ?_; clear hF a; intro a hF
  refine wl_nil (hK1 _ _ ?_)
  refine wp_seq_k fun K2 hK2 => ?_
  refine ws fun K3 hK3 => ?_
  refine wl hF rfl rfl rfl (r_field fo41_0 (hF.ev rfl)) ?_; clear hF a; intro a hF
  refine wl hF rfl rfl rfl (r_loadn ag37 (hF.ev rfl) (hS.boxn (vs := [_, _, _, _, _, _, _, _, _, _, _, _, _]) (i := 1) (m := 13) rfl rfl) sz37) ?_; clear hF a; intro a hF
  refine wl hF rfl rfl rfl (r_field fo41_0 (hF.ev rfl)) ?_; clear hF a; intro a hF
  refine wl hF rfl rfl rfl (r_loadn ag37 (hF.ev rfl) (hS.boxn (vs := [_, _, _, _, _, _, _, _, _, _, _, _, _]) (i := 0) (m := 13) rfl rfl) sz37) ?_; clear hF a; intro a hF
  refine wl_call hF rfl rfl rfl (r_call2 en21 (hF.ev rfl) (hF.ev rfl)) (eqState_c (hS.k hms) (hS.k hmt)) ?_; clear hF a; rintro v w3 a ⟨rfl, hB_⟩ hF; replace hS := hS.ext hB_; clear hB_
  refine wl hF rfl rfl rfl (r_not (hF.ev rfl)) ?_; clear hF a; intro a hF
  refine wl_nil (hK3 _ _ ?_)
  first | refine wc_dec (hF.ev rfl) (fun c10 => ?_) (fun c10 => ?_) | refine wc_ndec (hF.ev rfl) (fun c10 => ?_) (fun c10 => ?_) | refine wc_b (hF.ev rfl) (fun c10 => ?_) (fun c10 => ?_)
  ·
    refine ws fun K4 hK4 => ?_
    refine wl_mvs (A := [_]) hF rfl ?_; clear hF a; intro a hF
    refine wl_nil (hK4 _ _ ?_)
    refine wp_ret ?_
    try simp only [Exit.then, Exit.inBlock, ↓reduceIte]
    refine ret1 rfl hF rfl ⟨congrArg Value.bool (Eq.symm ?_), hS.old⟩
    first | exact decide_eq_false (fun e => by subst e; first | exact c10 rfl | exact c16 rfl | exact c22 rfl | exact c28 rfl | exact c33 rfl) | exact decide_eq_true (by cases x; cases y; simp only [Sl.Machine.mk.injEq]; exact ⟨c10, c16, c22, c28, c33⟩)
  refine wp_skip ?_
  refine hK2 _ _ ?_
  refine wp_seq_k fun K5 hK5 => ?_
  refine ws fun K6 hK6 => ?_
  refine wl hF rfl rfl rfl (r_field fo41_1 (hF.ev rfl)) ?_; clear hF a; intro a hF
  refine wl hF rfl rfl rfl (r_load1 sc38 (hF.ev rfl) (hS.box (i := 1) rfl rfl)) ?_; clear hF a; intro a hF
  refine wl hF rfl rfl rfl (r_field fo41_1 (hF.ev rfl)) ?_; clear hF a; intro a hF
  refine wl hF rfl rfl rfl (r_load1 sc38 (hF.ev rfl) (hS.box (i := 0) rfl rfl)) ?_; clear hF a; intro a hF
  refine wl_call hF rfl rfl rfl (r_call2 en22 (hF.ev rfl) (hF.ev rfl)) (eqOpSS_c (hS.rd r3) (hS.rd q3)) ?_; clear hF a; rintro v w4 a ⟨rfl, hB_⟩ hF; replace hS := hS.ext hB_; clear hB_
  refine wl hF rfl rfl rfl (r_not (hF.ev rfl)) ?_; clear hF a; intro a hF
  refine wl_nil (hK6 _ _ ?_)
  first | refine wc_dec (hF.ev rfl) (fun c16 => ?_) (fun c16 => ?_) | refine wc_ndec (hF.ev rfl) (fun c16 => ?_) (fun c16 => ?_) | refine wc_b (hF.ev rfl) (fun c16 => ?_) (fun c16 => ?_)
  ·
    refine ws fun K7 hK7 => ?_
    refine wl_mvs (A := [_]) hF rfl ?_; clear hF a; intro a hF
    refine wl_nil (hK7 _ _ ?_)
    refine wp_ret ?_
    try simp only [Exit.then, Exit.inBlock, ↓reduceIte]
    refine ret1 rfl hF rfl ⟨congrArg Value.bool (Eq.symm ?_), hS.old⟩
    first | exact decide_eq_false (fun e => by subst e; first | exact c10 rfl | exact c16 rfl | exact c22 rfl | exact c28 rfl | exact c33 rfl) | exact decide_eq_true (by cases x; cases y; simp only [Sl.Machine.mk.injEq]; exact ⟨c10, c16, c22, c28, c33⟩)
  refine wp_skip ?_
  refine hK5 _ _ ?_
  refine wp_seq_k fun K8 hK8 => ?_
  refine ws fun K9 hK9 => ?_
  refine wl hF rfl rfl rfl (r_field fo41_2 (hF.ev rfl)) ?_; clear hF a; intro a hF
  refine wl hF rfl rfl rfl (r_load1 sc24 (hF.ev rfl) (hS.box (i := 1) rfl rfl)) ?_; clear hF a; intro a hF
  refine wl hF rfl rfl rfl (r_field fo41_2 (hF.ev rfl)) ?_; clear hF a; intro a hF
  refine wl hF rfl rfl rfl (r_load1 sc24 (hF.ev rfl) (hS.box (i := 0) rfl rfl)) ?_; clear hF a; intro a hF
  refine wl_call hF rfl rfl rfl (r_call2 en23 (hF.ev rfl) (hF.ev rfl)) (eqIntS_c (hS.rd r4) (hS.rd q4)) ?_; clear hF a; rintro v w5 a ⟨rfl, hB_⟩ hF; replace hS := hS.ext hB_; clear hB_
  refine wl hF rfl rfl rfl (r_not (hF.ev rfl)) ?_; clear hF a; intro a hF
  refine wl_nil (hK9 _ _ ?_)
  first | refine wc_dec (hF.ev rfl) (fun c22 => ?_) (fun c22 => ?_) | refine wc_ndec (hF.ev rfl) (fun c22 => ?_) (fun c22 => ?_) | refine wc_b (hF.ev rfl) (fun c22 => ?_) (fun c22 => ?_)
  ·
    refine ws fun K10 hK10 => ?_
    refine wl_mvs (A := [_]) hF rfl ?_; clear hF a; intro a hF
    refine wl_nil (hK10 _ _ ?_)
    refine wp_ret ?_
    try simp only [Exit.then, Exit.inBlock, ↓reduceIte]
    refine ret1 rfl hF rfl ⟨congrArg Value.bool (Eq.symm ?_), hS.old⟩
    first | exact decide_eq_false (fun e => by subst e; first | exact c10 rfl | exact c16 rfl | exact c22 rfl | exact c28 rfl | exact c33 rfl) | exact decide_eq_true (by cases x; cases y; simp only [Sl.Machine.mk.injEq]; exact ⟨c10, c16, c22, c28, c33⟩)
  refine wp_skip ?_
  refine hK8 _ _ ?_
  refine wp_seq_k fun K11 hK11 => ?_
  refine ws fun K12 hK12 => ?_
  refine wl hF rfl rfl rfl (r_field fo41_3 (hF.ev rfl)) ?_; clear hF a; intro a hF
  refine wl hF rfl rfl rfl (r_load1 sc39 (hF.ev rfl) (hS.box (i := 1) rfl rfl)) ?_; clear hF a; intro a hF
  refine wl hF rfl rfl rfl (r_field fo41_3 (hF.ev rfl)) ?_; clear hF a; intro a hF
  refine wl hF rfl rfl rfl (r_load1 sc39 (hF.ev rfl) (hS.box (i := 0) rfl rfl)) ?_; clear hF a; intro a hF
  refine wl_call hF rfl rfl rfl (r_call2 en24 (hF.ev rfl) (hF.ev rfl)) (eqEventS_c (hS.rd r5) (hS.rd q5)) ?_; clear hF a; rintro v w6 a ⟨rfl, hB_⟩ hF; replace hS := hS.ext hB_; clear hB_
  refine wl hF rfl rfl rfl (r_not (hF.ev rfl)) ?_; clear hF a; intro a hF
  refine wl_nil (hK12 _ _ ?_)
  first | refine wc_dec (hF.ev rfl) (fun c28 => ?_) (fun c28 => ?_) | refine wc_ndec (hF.ev rfl) (fun c28 => ?_) (fun c28 => ?_) | refine wc_b (hF.ev rfl) (fun c28 => ?_) (fun c28 => ?_)
  ·
    refine ws fun K13 hK13 => ?_
    refine wl_mvs (A := [_]) hF rfl ?_; clear hF a; intro a hF
    refine wl_nil (hK13 _ _ ?_)
    refine wp_ret ?_
    try simp only [Exit.then, Exit.inBlock, ↓reduceIte]
    refine ret1 rfl hF rfl ⟨congrArg Value.bool (Eq.symm ?_), hS.old⟩
    first | exact decide_eq_false (fun e => by subst e; first | exact c10 rfl | exact c16 rfl | exact c22 rfl | exact c28 rfl | exact c33 rfl) | exact decide_eq_true (by cases x; cases y; simp only [Sl.Machine.mk.injEq]; exact ⟨c10, c16, c22, c28, c33⟩)
  refine wp_skip ?_
  refine hK11 _ _ ?_
  refine wp_seq_k fun K14 hK14 => ?_
  refine ws fun K15 hK15 => ?_
  refine wl hF rfl rfl rfl (r_field fo41_4 (hF.ev rfl)) ?_; clear hF a; intro a hF
  refine wl hF rfl rfl rfl (r_load1 sc3 (hF.ev rfl) (hS.box (i := 1) rfl rfl)) ?_; clear hF a; intro a hF
  refine wl hF rfl rfl rfl (r_field fo41_4 (hF.ev rfl)) ?_; clear hF a; intro a hF
  refine wl hF rfl rfl rfl (r_load1 sc3 (hF.ev rfl) (hS.box (i := 0) rfl rfl)) ?_; clear hF a; intro a hF
  refine wl hF rfl rfl rfl (r_neq (hF.ev rfl) (hF.ev rfl)) ?_; clear hF a; intro a hF
  refine wl_nil (hK15 _ _ ?_)
  first | refine wc_dec (hF.ev rfl) (fun c33 => ?_) (fun c33 => ?_) | refine wc_ndec (hF.ev rfl) (fun c33 => ?_) (fun c33 => ?_) | refine wc_b (hF.ev rfl) (fun c33 => ?_) (fun c33 => ?_)
  ·
    refine ws fun K16 hK16 => ?_
    refine wl_mvs (A := [_]) hF rfl ?_; clear hF a; intro a hF
    refine wl_nil (hK16 _ _ ?_)
    refine wp_ret ?_
    try simp only [Exit.then, Exit.inBlock, ↓reduceIte]
    refine ret1 rfl hF rfl ⟨congrArg Value.bool (Eq.symm ?_), hS.old⟩
    first | exact decide_eq_false (fun e => by subst e; first | exact c10 rfl | exact c16 rfl | exact c22 rfl | exact c28 rfl | exact c33 rfl) | exact decide_eq_true (by cases x; cases y; simp only [Sl.Machine.mk.injEq]; exact ⟨c10, c16, c22, c28, c33⟩)
  refine wp_skip ?_
  refine hK14 _ _ ?_
  refine ws fun K17 hK17 => ?_
  refine wl_mvs (A := [_]) hF rfl ?_; clear hF a; intro a hF
  refine wl_nil (hK17 _ _ ?_)
  refine wp_ret ?_
  try simp only [Exit.then, Exit.inBlock, ↓reduceIte]
  refine ret1 rfl hF rfl ⟨congrArg Value.bool (Eq.symm ?_), hS.old⟩
  first | exact decide_eq_false (fun e => by subst e; first | exact c10 rfl | exact c16 rfl | exact c22 rfl | exact c28 rfl | exact c33 rfl) | exact decide_eq_true (by cases x; cases y; simp only [Sl.Machine.mk.injEq]; exact ⟨c10, c16, c22, c28, c33⟩)

theorem eqMachine_same {W : World} {x : Sl.Machine} {cs ds : List Value} (hx : machineEK.K W x cs) (hy : machineEK.K W x ds) : Calls Tryz.prog 8 #[.agg cs.toArray, .agg ds.toArray] W (Ret fun v w' => v = .bool true ∧ Below W.heap.size W w') := by
  refine (eqMachine_c hx hy).mono ?_
  rintro e w' ⟨v, rfl, rfl, hb⟩
  exact ⟨_, rfl, by simp, hb⟩

end Go.Proofs.YtjloiphocdaahaaGreat.Wk
