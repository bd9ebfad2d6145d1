/- Walks: marks of states. -/
import Derived.Test.YtifhfodphoeeoaaGreatChecked
import Derived.Test.YtifhfodphoeeoaaGreatWkMk
import Derived.Test.YtifhfodphoeeoaaGreatFactsB
namespace Go.Proofs.YtifhfodphoeeoaaGreat.Wk
open Go Go.RowKit Sl
set_option linter.unusedVariables false
set_option linter.unusedSimpArgs false
set_option maxRecDepth 20000

def _root_.Go.Proofs.YtifhfodphoeeoaaGreat.Sl.State.cnt (s : Sl.State) : Nat := s.cells.length + s.generations.length + crow Sl.Thread.cnt s.threads
def _root_.Go.Proofs.YtifhfodphoeeoaaGreat.Sl.State.mark (k : Int) (s : Sl.State) : Sl.State := { s with cells := marks k s.cells.length, generations := marks (k + s.cells.length) s.generations.length, threads := mrow Sl.Thread.mark Sl.Thread.cnt (k + s.cells.length + s.generations.length) s.threads }
theorem crow_four (xs : List Entry) : crow Sl.Entry.cnt xs = 4 * xs.length := by
  induction xs with
  | nil => rfl
  | cons x xs ih => simp only [crow, ih, List.length_cons, Sl.Entry.cnt]; omega
theorem thread_cnt (t : Sl.Thread) : t.cnt ≤ 14 + 4 * t.size := by
  unfold Sl.Thread.cnt Sl.Thread.size
  rw [crow_four, crow_four]; omega
theorem threads_cnt (xs : List Sl.Thread) : crow Sl.Thread.cnt xs ≤ 14 * xs.length + 4 * crow Sl.Thread.size xs := by
  induction xs with
  | nil => simp [crow]
  | cons x xs ih =>
    have := thread_cnt x
    simp only [crow, List.length_cons]; omega
theorem state_cnt (s : Sl.State) : s.cnt ≤ 14 * s.size := by
  have := threads_cnt s.threads
  unfold Sl.State.cnt Sl.State.size; omega

set_option maxHeartbeats 4000000 in
set_option maxRecDepth 20000 in
theorem markState_c {W w : World} {l : List Res} {s : Sl.State} {vs : List Slv} {k0 : Int} (hS : Sep W (Part stateEK s vs :: l) w) (h0 : 0 ≤ k0) (h1 : k0 + s.cnt < 9223372036854775807) : Calls Tryz.prog 14 #[.agg (stateEK.cells s vs).toArray, vi k0] w (Ret fun v w' => v = vi (k0 + s.cnt) ∧ Sep W (Part stateEK (s.mark k0) vs :: l) w') := by
  refine calls_fr Tryz.func14 rfl Tryz.ntmps14 rfl ?_
  intro a hF
  unfold Sl.State.cnt at *
  replace hS : Sep W (Own intEK (sv (vs.getD 0 (none, 0, 0))) s.cells :: Own intEK (sv (vs.getD 1 (none, 0, 0))) s.generations :: Own threadEK (sv (vs.getD 2 (none, 0, 0))) s.threads :: l) w := hS.part_open
  refine ws fun K1 hK1 => ?_
  refine wl_box (cs := [_, _, _, _, _, _, _, _, _, _, _, _, _]) hF hS rfl (hF.ev rfl) rfl ?_; clear hF a; intro g1 w1 a hS_ hB_ hF; replace hS := hS_; clear hS_ hB_
  refine wl_mvs (A := [_]) hF rfl ?_; clear hF a; intro a hF
  refine wl_nil (hK1 _ _ ?_)
  refine ws fun K2 hK2 => ?_
  refine wl hF rfl rfl rfl (r_field fo32_1 (hF.ev rfl)) ?_; clear hF a; intro a hF
  refine wl hF rfl rfl rfl (r_load1 sc24 (hF.ev rfl) (hS.box (i := 0) rfl rfl)) ?_; clear hF a; intro a hF
  refine wl_mvs (A := [_]) hF rfl ?_; clear hF a; intro a hF
  refine wl_call hF rfl rfl rfl (r_call2 en27 (hF.ev rfl) (hF.ev rfl)) (markIntS_c hS (q := 1) rfl (by omega) (by first | omega | (simp only [marks_length]; omega))) ?_; clear hF a; rintro v w2 a ⟨rfl, hS_⟩ hF; replace hS := hS_; clear hS_; dsimp only [List.set] at hS
  refine wl_mvs (A := [_]) hF rfl ?_; clear hF a; intro a hF
  refine wl_nil (hK2 _ _ ?_)
  refine ws fun K3 hK3 => ?_
  refine wl hF rfl rfl rfl (r_field fo32_2 (hF.ev rfl)) ?_; clear hF a; intro a hF
  refine wl hF rfl rfl rfl (r_load1 sc24 (hF.ev rfl) (hS.box (i := 0) rfl rfl)) ?_; clear hF a; intro a hF
  refine wl_mvs (A := [_]) hF rfl ?_; clear hF a; intro a hF
  refine wl_call hF rfl rfl rfl (r_call2 en27 (hF.ev rfl) (hF.ev rfl)) (markIntS_c hS (q := 2) rfl (by omega) (by first | omega | (simp only [marks_length]; omega))) ?_; clear hF a; rintro v w3 a ⟨rfl, hS_⟩ hF; replace hS := hS_; clear hS_; dsimp only [List.set] at hS
  refine wl_mvs (A := [_]) hF rfl ?_; clear hF a; intro a hF
  refine wl_nil (hK3 _ _ ?_)
  refine ws fun K4 hK4 => ?_
  refine wl hF rfl rfl rfl (r_field fo32_3 (hF.ev rfl)) ?_; clear hF a; intro a hF
  refine wl hF rfl rfl rfl (r_load1 sc30 (hF.ev rfl) (hS.box (i := 0) rfl rfl)) ?_; clear hF a; intro a hF
  refine wl_mvs (A := [_]) hF rfl ?_; clear hF a; intro a hF
  replace hS := hS.pull (p := 3) rfl; dsimp only [List.eraseIdx] at hS
  refine wl_call hF rfl rfl rfl (r_call2 en43 (hF.ev rfl) (hF.ev rfl)) (markThreadS_c hS (by omega) (by omega)) ?_; clear hF a; rintro v w4 a ⟨rfl, hS_⟩ hF; replace hS := hS_; clear hS_
  refine wl_mvs (A := [_]) hF rfl ?_; clear hF a; intro a hF
  refine wl_nil (hK4 _ _ ?_)
  refine ws fun K5 hK5 => ?_
  refine wl_mvs (A := [_, _]) hF rfl ?_; clear hF a; intro a hF
  refine wl_nil (hK5 _ _ ?_)
  refine wp_ret ?_
  try simp only [Exit.then, Exit.inBlock, ↓reduceIte]
  refine ret1 rfl hF rfl ⟨by congr 1; omega, ?_⟩
  exact (Sep.headp (A := [_, _, _, _]) (B := [_, _, _]) hS [2, 3, 0] (by decide) rfl rfl).part_mk (ek := stateEK) (x := s.mark k0) (vs := vs) rfl

set_option maxHeartbeats 4000000 in
set_option maxRecDepth 20000 in
theorem heldState_c {W : World} {s : Sl.State} {cs : List Value} {k0 : Int} (hm : stateEK.K W (s.mark k0) cs) (h0 : 0 ≤ k0) (h1 : k0 + s.cnt < 9223372036854775807) : Calls Tryz.prog 15 #[.agg cs.toArray, vi k0] W (Ret fun v w' => v = vi (k0 + s.cnt) ∧ Below W.heap.size W w') := by
  refine calls_fr Tryz.func15 rfl Tryz.ntmps15 rfl ?_
  intro a hF
  obtain ⟨v0, v1, v2, rfl, r0, r1, r2⟩ := hm
  unfold Sl.State.cnt at *
  have hS := Sep.refl W
  refine ws fun K1 hK1 => ?_
  refine wl_box (cs := [_, _, _, _, _, _, _, _, _, _, _, _, _]) hF hS rfl (hF.ev rfl) rfl ?_; clear hF a; intro g1 w1 a hS_ hB_ hF; replace hS := hS_; clear hS_ hB_
  refine wl_mvs (A := [_]) hF rfl ?_; clear hF a; intro a hF
  refine wl_nil (hK1 _ _ ?_)
  refine ws fun K2 hK2 => ?_
  refine wl hF rfl rfl rfl (r_field fo32_1 (hF.ev rfl)) ?_; clear hF a; intro a hF
  refine wl hF rfl rfl rfl (r_load1 sc24 (hF.ev rfl) (hS.box (i := 0) rfl rfl)) ?_; clear hF a; intro a hF
  refine wl_mvs (A := [_]) hF rfl ?_; clear hF a; intro a hF
  refine wl_call hF rfl rfl rfl (r_call2 en28 (hF.ev rfl) (hF.ev rfl)) (heldIntS_c (hS.rd r0) (by omega) (by omega)) ?_; clear hF a; rintro v w2 a ⟨rfl, hB_⟩ hF; replace hS := hS.ext hB_; clear hB_
  refine wl_mvs (A := [_]) hF rfl ?_; clear hF a; intro a hF
  refine wl_nil (hK2 _ _ ?_)
  refine wp_seq_k fun K3 hK3 => ?_
  refine ws fun K4 hK4 => ?_
  refine wl_mvs (A := [_]) hF rfl ?_; clear hF a; intro a hF
  refine wl hF rfl rfl rfl (r_lss (hF.ev rfl) ec) ?_; clear hF a; intro a hF
  refine wl_nil (hK4 _ _ ?_)
  refine wc_fx (t := 10) hF rfl ?_ ?_ <;> clear hF <;> intro c10 hF <;> try simp only [zb1, zb2, zb3, zb4, zb5, zb6, zb7, zb8] at c10
  ·
    exfalso; first | omega | exact (c10 rfl).elim | (simp_all; done)
  refine wp_skip ?_
  refine hK3 _ _ ?_
  refine ws fun K5 hK5 => ?_
  refine wl hF rfl rfl rfl (r_field fo32_2 (hF.ev rfl)) ?_; clear hF a; intro a hF
  refine wl hF rfl rfl rfl (r_load1 sc24 (hF.ev rfl) (hS.box (i := 0) rfl rfl)) ?_; clear hF a; intro a hF
  refine wl_mvs (A := [_]) hF rfl ?_; clear hF a; intro a hF
  refine wl_call hF rfl rfl rfl (r_call2 en28 (hF.ev rfl) (hF.ev rfl)) (heldIntS_c (hS.rd r1) (by omega) (by omega)) ?_; clear hF a; rintro v w3 a ⟨rfl, hB_⟩ hF; replace hS := hS.ext hB_; clear hB_
  refine wl_mvs (A := [_]) hF rfl ?_; clear hF a; intro a hF
  refine wl_nil (hK5 _ _ ?_)
  refine wp_seq_k fun K6 hK6 => ?_
  refine ws fun K7 hK7 => ?_
  refine wl_mvs (A := [_]) hF rfl ?_; clear hF a; intro a hF
  refine wl hF rfl rfl rfl (r_lss (hF.ev rfl) ec) ?_; clear hF a; intro a hF
  refine wl_nil (hK7 _ _ ?_)
  refine wc_fx (t := 16) hF rfl ?_ ?_ <;> clear hF <;> intro c16 hF <;> try simp only [zb1, zb2, zb3, zb4, zb5, zb6, zb7, zb8] at c16
  ·
    exfalso; first | omega | exact (c16 rfl).elim | (simp_all; done)
  refine wp_skip ?_
  refine hK6 _ _ ?_
  refine ws fun K8 hK8 => ?_
  refine wl hF rfl rfl rfl (r_field fo32_3 (hF.ev rfl)) ?_; clear hF a; intro a hF
  refine wl hF rfl rfl rfl (r_load1 sc30 (hF.ev rfl) (hS.box (i := 0) rfl rfl)) ?_; clear hF a; intro a hF
  refine wl_mvs (A := [_]) hF rfl ?_; clear hF a; intro a hF
  refine wl_call hF rfl rfl rfl (r_call2 en44 (hF.ev rfl) (hF.ev rfl)) (heldThreadS_c (xs := s.threads) (hS.rd r2) (by omega) (by omega)) ?_; clear hF a; rintro v w4 a ⟨rfl, hB_⟩ hF; replace hS := hS.ext hB_; clear hB_
  refine wl_mvs (A := [_]) hF rfl ?_; clear hF a; intro a hF
  refine wl_nil (hK8 _ _ ?_)
  refine wp_seq_k fun K9 hK9 => ?_
  refine ws fun K10 hK10 => ?_
  refine wl_mvs (A := [_]) hF rfl ?_; clear hF a; intro a hF
  refine wl hF rfl rfl rfl (r_lss (hF.ev rfl) ec) ?_; clear hF a; intro a hF
  refine wl_nil (hK10 _ _ ?_)
  refine wc_fx (t := 22) hF rfl ?_ ?_ <;> clear hF <;> intro c22 hF <;> try simp only [zb1, zb2, zb3, zb4, zb5, zb6, zb7, zb8] at c22
  ·
    exfalso; first | omega | exact (c22 rfl).elim | (simp_all; done)
  refine wp_skip ?_
  refine hK9 _ _ ?_
  refine ws fun K11 hK11 => ?_
  refine wl_mvs (A := [_, _]) hF rfl ?_; clear hF a; intro a hF
  refine wl_nil (hK11 _ _ ?_)
  refine wp_ret ?_
  try simp only [Exit.then, Exit.inBlock, ↓reduceIte]
  exact ret1 rfl hF rfl ⟨by congr 1; omega, hS.old⟩

end Go.Proofs.YtifhfodphoeeoaaGreat.Wk
