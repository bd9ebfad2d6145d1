/- FnExactStepWalk, for all arguments: the program's StepWalk returns what the reference's returns, and the arguments stay as they were. Condition: the law's own guard on size. -/
import Derived.Test.YtifhfodphoeeoaaGreatCwE
import Derived.Test.YtifhfodphoeeoaaGreatRows
namespace Go.Proofs.YtifhfodphoeeoaaGreat.Wk
open Go Go.RowKit Sl
set_option linter.unusedVariables false
set_option linter.unusedSimpArgs false
set_option maxRecDepth 20000
def _root_.Go.Proofs.YtifhfodphoeeoaaGreat.Sl.Entry.cnt (x : Sl.Entry) : Nat := 4
def _root_.Go.Proofs.YtifhfodphoeeoaaGreat.Sl.Entry.mark (k : Int) (x : Sl.Entry) : Sl.Entry := ⟨k, k + 1, k + 1 + 1, k + 1 + 1 + 1⟩
def _root_.Go.Proofs.YtifhfodphoeeoaaGreat.Sl.Thread.cnt (x : Sl.Thread) : Nat := 14 + x.found.length + x.free.length + (crow Sl.Entry.cnt x.buffer) + (crow Sl.Entry.cnt x.work) + x.limbo.length
def _root_.Go.Proofs.YtifhfodphoeeoaaGreat.Sl.Thread.mark (k : Int) (x : Sl.Thread) : Sl.Thread := ⟨k, ⟨k + 1, k + 1 + 1, k + 1 + 1 + 1⟩, ⟨k + 1 + 1 + 1 + 1, k + 1 + 1 + 1 + 1 + 1⟩, k + 1 + 1 + 1 + 1 + 1 + 1, k + 1 + 1 + 1 + 1 + 1 + 1 + 1, k + 1 + 1 + 1 + 1 + 1 + 1 + 1 + 1, k + 1 + 1 + 1 + 1 + 1 + 1 + 1 + 1 + 1, k + 1 + 1 + 1 + 1 + 1 + 1 + 1 + 1 + 1 + 1, k + 1 + 1 + 1 + 1 + 1 + 1 + 1 + 1 + 1 + 1 + 1, k + 1 + 1 + 1 + 1 + 1 + 1 + 1 + 1 + 1 + 1 + 1 + 1, k + 1 + 1 + 1 + 1 + 1 + 1 + 1 + 1 + 1 + 1 + 1 + 1 + 1, marks (k + 1 + 1 + 1 + 1 + 1 + 1 + 1 + 1 + 1 + 1 + 1 + 1 + 1 + 1) x.found.length, marks (k + 1 + 1 + 1 + 1 + 1 + 1 + 1 + 1 + 1 + 1 + 1 + 1 + 1 + 1 + (x.found.length : Nat)) x.free.length, mrow Sl.Entry.mark Sl.Entry.cnt (k + 1 + 1 + 1 + 1 + 1 + 1 + 1 + 1 + 1 + 1 + 1 + 1 + 1 + 1 + (x.found.length : Nat) + (x.free.length : Nat)) x.buffer, mrow Sl.Entry.mark Sl.Entry.cnt (k + 1 + 1 + 1 + 1 + 1 + 1 + 1 + 1 + 1 + 1 + 1 + 1 + 1 + 1 + (x.found.length : Nat) + (x.free.length : Nat) + ((crow Sl.Entry.cnt x.buffer) : Nat)) x.work, marks (k + 1 + 1 + 1 + 1 + 1 + 1 + 1 + 1 + 1 + 1 + 1 + 1 + 1 + 1 + (x.found.length : Nat) + (x.free.length : Nat) + ((crow Sl.Entry.cnt x.buffer) : Nat) + ((crow Sl.Entry.cnt x.work) : Nat)) x.limbo.length⟩
set_option maxHeartbeats 4000000 in
set_option maxRecDepth 20000 in
theorem markEntryS_c {W w : World} {l : List Res} {va : Value} {xs : List Sl.Entry} {k0 : Int} (hS : Sep W (Own entryEK va xs :: l) w) (h0 : 0 ≤ k0) (h1 : k0 + crow Sl.Entry.cnt xs < 9223372036854775807) : Calls Tryz.prog 85 #[va, vi k0] w (Ret fun v w' => v = vi (k0 + crow Sl.Entry.cnt xs) ∧ Sep W (Own entryEK va (mrow Sl.Entry.mark Sl.Entry.cnt k0 xs) :: l) w') := by
  refine calls_fr Tryz.func85 rfl Tryz.ntmps85 rfl ?_
  intro a hF
  obtain ⟨A_a, q_a, rfl, hq_a, hn_a⟩ := (hS.own_rd (i := 0) rfl).sl; unfold maxLen at hn_a
  refine ws fun K1 hK1 => ?_
  refine wl_mvs (A := [_]) hF rfl ?_; clear hF a; intro a hF
  refine wl_nil (hK1 _ _ ?_)
  refine wp_seq_k fun K2 hK2 => ?_
  refine ws fun K3 hK3 => ?_
  refine wl_mvs (A := [_]) hF rfl ?_; clear hF a; intro a hF
  refine wl_nil (hK3 _ _ ?_)
  refine wp_block ?_
  replace hS := hS.pull (p := 0) rfl; dsimp only [List.eraseIdx] at hS
  have hL_ := ((hF.nil.keep hF (t := 4) rfl).keep hF (t := 0) rfl)
  refine wp_loop_m (σ := Nat) (fun k L_ => (5, vi k) :: (1, vi (k0 + (crow Sl.Entry.cnt (List.take k xs) : Int))) :: L_) (fun k l_ => (Own entryEK (.slice A_a xs.length q_a) (mrow Sl.Entry.mark Sl.Entry.cnt k0 (xs.take k) ++ xs.drop k)) :: l_) (fun k => (k ≤ xs.length)) (fun k => xs.length - k) 0 ((by rw [show mrow Sl.Entry.mark Sl.Entry.cnt k0 (xs.take 0) ++ xs.drop 0 = xs from by simp [mrow]]; exact hS)) ((hL_.keepE hF (t := 1) rfl (by simp [crow])).keepE hF (t := 5) rfl rfl) ?_ ?_
  · exact Nat.zero_le _
  clear hF hS hL_ a
  rintro k a w1 hk hS hF; try dsimp only at hF; try dsimp only at hS
  refine wp_seq_k fun K4 hK4 => ?_
  refine ws fun K5 hK5 => ?_
  refine wl_mvs (A := [_, _]) hF rfl ?_; clear hF a; intro a hF
  refine wl hF rfl rfl rfl (r_len ul51 (hF.ev rfl)) ?_; clear hF a; intro a hF
  refine wl hF rfl rfl rfl (r_lss (hF.ev rfl) (hF.ev rfl)) ?_; clear hF a; intro a hF
  refine wl_nil (hK5 _ _ ?_)
  refine wc_fx (t := 9) hF rfl ?_ ?_ <;> clear hF <;> intro c9 hF <;> try simp only [zb1, zb2, zb3, zb4, zb5, zb6, zb7, zb8] at c9
  ·
    have hlt : k < xs.length := by omega
    have hx := at0_nat hlt
    have hc1 := crow_le1 (c := Sl.Entry.cnt) hx
    have hc2 := crow_next (c := Sl.Entry.cnt) hx
    simp only [Sl.Entry.cnt] at hc1 hc2
    obtain ⟨vs, hS_⟩ := hS.borrow (q := 0) rfl (mix_at k0 hx); replace hS := hS_.part_open; clear hS_; dsimp only [List.set] at hS
    obtain ⟨gb, ob, qb, hvb, hlb⟩ := hS.but_sl (q := 0) rfl
    simp only [Value.slice.injEq] at hvb; obtain ⟨rfl, hlen_, rfl⟩ := hvb
    replace hS : Sep W (OwnBut entryEK _ _ k (entryEK.cells _ vs) :: _) _ := hS
    generalize hK : (k0 + (crow Sl.Entry.cnt (List.take k xs) : Int)) = K at hF
    refine wp_skip ?_
    refine hK4 _ _ ?_
    refine wp_seq_k fun K6 hK6 => ?_
    refine wp_block ?_
    refine ws fun K7 hK7 => ?_
    refine wl_mvs (A := [_, _, _]) hF rfl ?_; clear hF a; intro a hF
    refine wl hF rfl rfl rfl (r_index sl51 (hF.ev rfl) (hF.ev rfl) (by omega) (by omega)) ?_; clear hF a; intro a hF
    refine wl hF rfl rfl rfl (r_field fo100_0 (hF.ev rfl)) ?_; clear hF a; intro a hF
    refine wl_bstore (q := 0) (j := 0) hF hS rfl sz3 (hF.ev rfl) rfl (hF.ev rfl) rfl rfl ?_; intro w2 hS_; replace hS := hS_; clear hS_; dsimp only [List.set] at hS
    refine wl_nil (hK7 _ _ ?_)
    refine ws fun K8 hK8 => ?_
    refine wl_mvs (A := [_]) hF rfl ?_; clear hF a; intro a hF
    refine wl hF rfl rfl rfl (r_add (hF.ev rfl) ec) ?_; clear hF a; intro a hF
    rw [w64_id (q := K + 1) (by omega) (by omega)] at hF
    refine wl_mvs (A := [_]) hF rfl ?_; clear hF a; intro a hF
    refine wl_nil (hK8 _ _ ?_)
    refine ws fun K9 hK9 => ?_
    refine wl_mvs (A := [_, _, _]) hF rfl ?_; clear hF a; intro a hF
    refine wl hF rfl rfl rfl (r_index sl51 (hF.ev rfl) (hF.ev rfl) (by omega) (by omega)) ?_; clear hF a; intro a hF
    refine wl hF rfl rfl rfl (r_field fo100_1 (hF.ev rfl)) ?_; clear hF a; intro a hF
    refine wl_bstore (q := 0) (j := 1) hF hS rfl sz3 (hF.ev rfl) rfl (hF.ev rfl) rfl rfl ?_; intro w3 hS_; replace hS := hS_; clear hS_; dsimp only [List.set] at hS
    refine wl_nil (hK9 _ _ ?_)
    refine ws fun K10 hK10 => ?_
    refine wl_mvs (A := [_]) hF rfl ?_; clear hF a; intro a hF
    refine wl hF rfl rfl rfl (r_add (hF.ev rfl) ec) ?_; clear hF a; intro a hF
    rw [w64_id (q := K + 1 + 1) (by omega) (by omega)] at hF
    refine wl_mvs (A := [_]) hF rfl ?_; clear hF a; intro a hF
    refine wl_nil (hK10 _ _ ?_)
    refine ws fun K11 hK11 => ?_
    refine wl_mvs (A := [_, _, _]) hF rfl ?_; clear hF a; intro a hF
    refine wl hF rfl rfl rfl (r_index sl51 (hF.ev rfl) (hF.ev rfl) (by omega) (by omega)) ?_; clear hF a; intro a hF
    refine wl hF rfl rfl rfl (r_field fo100_2 (hF.ev rfl)) ?_; clear hF a; intro a hF
    refine wl_bstore (q := 0) (j := 2) hF hS rfl sz3 (hF.ev rfl) rfl (hF.ev rfl) rfl rfl ?_; intro w4 hS_; replace hS := hS_; clear hS_; dsimp only [List.set] at hS
    refine wl_nil (hK11 _ _ ?_)
    refine ws fun K12 hK12 => ?_
    refine wl_mvs (A := [_]) hF rfl ?_; clear hF a; intro a hF
    refine wl hF rfl rfl rfl (r_add (hF.ev rfl) ec) ?_; clear hF a; intro a hF
    rw [w64_id (q := K + 1 + 1 + 1) (by omega) (by omega)] at hF
    refine wl_mvs (A := [_]) hF rfl ?_; clear hF a; intro a hF
    refine wl_nil (hK12 _ _ ?_)
    refine ws fun K13 hK13 => ?_
    refine wl_mvs (A := [_, _, _]) hF rfl ?_; clear hF a; intro a hF
    refine wl hF rfl rfl rfl (r_index sl51 (hF.ev rfl) (hF.ev rfl) (by omega) (by omega)) ?_; clear hF a; intro a hF
    refine wl hF rfl rfl rfl (r_field fo100_3 (hF.ev rfl)) ?_; clear hF a; intro a hF
    refine wl_bstore (q := 0) (j := 3) hF hS rfl sz3 (hF.ev rfl) rfl (hF.ev rfl) rfl rfl ?_; intro w5 hS_; replace hS := hS_; clear hS_; dsimp only [List.set] at hS
    refine wl_nil (hK13 _ _ ?_)
    refine wp_region_lit ?_
    refine wl_mvs (A := [_]) hF rfl ?_; clear hF a; intro a hF
    refine wl hF rfl rfl rfl (r_add (hF.ev rfl) ec) ?_; clear hF a; intro a hF
    rw [w64_id (q := K + 1 + 1 + 1 + 1) (by omega) (by omega)] at hF
    refine wl_mvs (A := [_]) hF rfl ?_; clear hF a; intro a hF
    refine wl_nil ?_
    simp only [Exit.then, Exit.inBlock, ↓reduceIte]
    refine hK6 _ _ ?_
    refine wp_region_lit ?_
    refine wl_mvs (A := [_]) hF rfl ?_; clear hF a; intro a hF
    refine wl hF rfl rfl rfl (r_add (hF.ev rfl) ec) ?_; clear hF a; intro a hF
    refine wl_mvs (A := [_]) hF rfl ?_; clear hF a; intro a hF
    refine wl_nil ?_
    try simp only [Exit.then, Exit.inBlock, ↓reduceIte]
    subst hK
    replace hS := (hS.part_mk (ek := entryEK) (x := Sl.Entry.mark (k0 + (crow Sl.Entry.cnt (List.take k xs) : Int)) (at0 xs (k : Int))) (vs := vs) (l := OwnBut entryEK _ _ k _ :: l) rfl).giveback (q := 0) rfl rfl
    dsimp only [List.set] at hS; rw [mix_set k0 hx] at hS
    refine ⟨k + 1, (by omega), hS, ((((hF.nil.keep hF (t := 4) rfl).keep hF (t := 0) rfl).keepE hF (t := 1) rfl (by rw [hc2]; congr 1; omega)).keepE hF (t := 5) rfl (wk (by omega))), by omega⟩
  refine wp_exit ?_
  simp only [Exit.then, Exit.inBlock, ↓reduceIte]
  refine hK2 _ _ ?_
  refine ws fun K14 hK14 => ?_
  refine wl_mvs (A := [_, _]) hF rfl ?_; clear hF a; intro a hF
  refine wl_nil (hK14 _ _ ?_)
  refine wp_ret ?_
  try simp only [Exit.then, Exit.inBlock, ↓reduceIte]
  obtain rfl : k = xs.length := by omega
  rw [List.take_length] at hF hS
  refine ret1 rfl hF rfl ⟨rfl, ?_⟩
  rw [List.drop_length, List.append_nil] at hS; exact hS
set_option maxHeartbeats 4000000 in
set_option maxRecDepth 20000 in
theorem heldEntryS_c {W : World} {va : Value} {xs : List Sl.Entry} {k0 : Int} (ha : entryEK.Rd W va (mrow Sl.Entry.mark Sl.Entry.cnt k0 xs)) (h0 : 0 ≤ k0) (h1 : k0 + crow Sl.Entry.cnt xs < 9223372036854775807) : Calls Tryz.prog 86 #[va, vi k0] W (Ret fun v w' => v = vi (k0 + crow Sl.Entry.cnt xs) ∧ Below W.heap.size W w') := by
  refine calls_fr Tryz.func86 rfl Tryz.ntmps86 rfl ?_
  intro a hF
  obtain ⟨A_a, q_a, rfl, hq_a, hn_a⟩ := ha.sl; unfold maxLen at hn_a
  rw [mrow_length] at hq_a hn_a
  have hS := Sep.refl W
  refine ws fun K1 hK1 => ?_
  refine wl_mvs (A := [_]) hF rfl ?_; clear hF a; intro a hF
  refine wl_nil (hK1 _ _ ?_)
  refine wp_seq_k fun K2 hK2 => ?_
  refine ws fun K3 hK3 => ?_
  refine wl_mvs (A := [_]) hF rfl ?_; clear hF a; intro a hF
  refine wl_nil (hK3 _ _ ?_)
  refine wp_block ?_
  have hL_ := ((hF.nil.keep hF (t := 4) rfl).keep hF (t := 0) rfl)
  refine wp_loop_r (σ := Nat) (fun k L_ => (5, vi k) :: (1, vi (k0 + (crow Sl.Entry.cnt (List.take k xs) : Int))) :: L_) (fun k => (k ≤ xs.length)) (fun k => xs.length - k) 0 hS ((hL_.keepE hF (t := 1) rfl (by simp [crow])).keepE hF (t := 5) rfl rfl) ?_ ?_
  · exact Nat.zero_le _
  clear hF hS hL_ a
  rintro k a w1 hk hS hF; try dsimp only at hF; try dsimp only at hS
  refine wp_seq_k fun K4 hK4 => ?_
  refine ws fun K5 hK5 => ?_
  refine wl_mvs (A := [_, _]) hF rfl ?_; clear hF a; intro a hF
  refine wl hF rfl rfl rfl (r_len ul51 (hF.ev rfl)) ?_; clear hF a; intro a hF
  refine wl hF rfl rfl rfl (r_lss (hF.ev rfl) (hF.ev rfl)) ?_; clear hF a; intro a hF
  refine wl_nil (hK5 _ _ ?_)
  refine wc_fx (t := 9) hF rfl ?_ ?_ <;> clear hF <;> intro c9 hF <;> try simp only [zb1, zb2, zb3, zb4, zb5, zb6, zb7, zb8] at c9
  ·
    rw [mrow_length] at c9
    have hlt : k < xs.length := by omega
    have hx := at0_nat hlt
    have hc1 := crow_le1 (c := Sl.Entry.cnt) hx
    have hc2 := crow_next (c := Sl.Entry.cnt) hx
    simp only [Sl.Entry.cnt] at hc1 hc2
    have hmx := mrow_at (f := Sl.Entry.mark) (c := Sl.Entry.cnt) k0 hx
    generalize hK : (k0 + (crow Sl.Entry.cnt (List.take k xs) : Int)) = K at hF hmx
    have hlm : k < (mrow Sl.Entry.mark Sl.Entry.cnt k0 xs).length := by rw [mrow_length]; omega
    refine wp_skip ?_
    refine hK4 _ _ ?_
    refine wp_seq_k fun K6 hK6 => ?_
    refine wp_block ?_
    refine wp_seq_k fun K7 hK7 => ?_
    refine ws fun K8 hK8 => ?_
    refine wl_mvs (A := [_, _]) hF rfl ?_; clear hF a; intro a hF
    obtain ⟨g14, o14, m14, q14, hv14, hm14, hl14, hc14⟩ := Rd.idxF (hS.rd ha) hmx
    refine wl hF rfl rfl rfl (r_index sl51 ((hF.ev rfl).trans hv14) (hF.ev rfl) (by omega) (by omega)) ?_; clear hF a; intro a hF
    refine wl hF rfl rfl rfl (r_field fo100_0 (hF.ev rfl)) ?_; clear hF a; intro a hF
    refine wl hF rfl rfl rfl (r_load1 sc3 (hF.ev rfl) (hc14 0 _ rfl)) ?_; clear hF a; intro a hF
    refine wl_mvs (A := [_]) hF rfl ?_; clear hF a; intro a hF
    refine wl hF rfl rfl rfl (r_neq (hF.ev rfl) (hF.ev rfl)) ?_; clear hF a; intro a hF
    refine wl_nil (hK8 _ _ ?_)
    refine wc_fx (t := 18) hF rfl ?_ ?_ <;> clear hF <;> intro c18 hF <;> try simp only [zb1, zb2, zb3, zb4, zb5, zb6, zb7, zb8] at c18
    ·
      exfalso; first | exact (c18 rfl).elim | omega
    clear c18 hv14 hm14 hl14 hc14
    refine wp_skip ?_
    refine hK7 _ _ ?_
    refine ws fun K9 hK9 => ?_
    refine wl_mvs (A := [_]) hF rfl ?_; clear hF a; intro a hF
    refine wl hF rfl rfl rfl (r_add (hF.ev rfl) ec) ?_; clear hF a; intro a hF
    rw [w64_id (q := K + 1) (by omega) (by omega)] at hF
    refine wl_mvs (A := [_]) hF rfl ?_; clear hF a; intro a hF
    refine wl_nil (hK9 _ _ ?_)
    refine wp_seq_k fun K10 hK10 => ?_
    refine ws fun K11 hK11 => ?_
    refine wl_mvs (A := [_, _]) hF rfl ?_; clear hF a; intro a hF
    obtain ⟨g23, o23, m23, q23, hv23, hm23, hl23, hc23⟩ := Rd.idxF (hS.rd ha) hmx
    refine wl hF rfl rfl rfl (r_index sl51 ((hF.ev rfl).trans hv23) (hF.ev rfl) (by omega) (by omega)) ?_; clear hF a; intro a hF
    refine wl hF rfl rfl rfl (r_field fo100_1 (hF.ev rfl)) ?_; clear hF a; intro a hF
    refine wl hF rfl rfl rfl (r_load1 sc3 (hF.ev rfl) (hc23 1 _ rfl)) ?_; clear hF a; intro a hF
    refine wl_mvs (A := [_]) hF rfl ?_; clear hF a; intro a hF
    refine wl hF rfl rfl rfl (r_neq (hF.ev rfl) (hF.ev rfl)) ?_; clear hF a; intro a hF
    refine wl_nil (hK11 _ _ ?_)
    refine wc_fx (t := 27) hF rfl ?_ ?_ <;> clear hF <;> intro c27 hF <;> try simp only [zb1, zb2, zb3, zb4, zb5, zb6, zb7, zb8] at c27
    ·
      exfalso; first | exact (c27 rfl).elim | omega
    clear c27 hv23 hm23 hl23 hc23
    refine wp_skip ?_
    refine hK10 _ _ ?_
    refine ws fun K12 hK12 => ?_
    refine wl_mvs (A := [_]) hF rfl ?_; clear hF a; intro a hF
    refine wl hF rfl rfl rfl (r_add (hF.ev rfl) ec) ?_; clear hF a; intro a hF
    rw [w64_id (q := K + 1 + 1) (by omega) (by omega)] at hF
    refine wl_mvs (A := [_]) hF rfl ?_; clear hF a; intro a hF
    refine wl_nil (hK12 _ _ ?_)
    refine wp_seq_k fun K13 hK13 => ?_
    refine ws fun K14 hK14 => ?_
    refine wl_mvs (A := [_, _]) hF rfl ?_; clear hF a; intro a hF
    obtain ⟨g32, o32, m32, q32, hv32, hm32, hl32, hc32⟩ := Rd.idxF (hS.rd ha) hmx
    refine wl hF rfl rfl rfl (r_index sl51 ((hF.ev rfl).trans hv32) (hF.ev rfl) (by omega) (by omega)) ?_; clear hF a; intro a hF
    refine wl hF rfl rfl rfl (r_field fo100_2 (hF.ev rfl)) ?_; clear hF a; intro a hF
    refine wl hF rfl rfl rfl (r_load1 sc3 (hF.ev rfl) (hc32 2 _ rfl)) ?_; clear hF a; intro a hF
    refine wl_mvs (A := [_]) hF rfl ?_; clear hF a; intro a hF
    refine wl hF rfl rfl rfl (r_neq (hF.ev rfl) (hF.ev rfl)) ?_; clear hF a; intro a hF
    refine wl_nil (hK14 _ _ ?_)
    refine wc_fx (t := 36) hF rfl ?_ ?_ <;> clear hF <;> intro c36 hF <;> try simp only [zb1, zb2, zb3, zb4, zb5, zb6, zb7, zb8] at c36
    ·
      exfalso; first | exact (c36 rfl).elim | omega
    clear c36 hv32 hm32 hl32 hc32
    refine wp_skip ?_
    refine hK13 _ _ ?_
    refine ws fun K15 hK15 => ?_
    refine wl_mvs (A := [_]) hF rfl ?_; clear hF a; intro a hF
    refine wl hF rfl rfl rfl (r_add (hF.ev rfl) ec) ?_; clear hF a; intro a hF
    rw [w64_id (q := K + 1 + 1 + 1) (by omega) (by omega)] at hF
    refine wl_mvs (A := [_]) hF rfl ?_; clear hF a; intro a hF
    refine wl_nil (hK15 _ _ ?_)
    refine wp_seq_k fun K16 hK16 => ?_
    refine ws fun K17 hK17 => ?_
    refine wl_mvs (A := [_, _]) hF rfl ?_; clear hF a; intro a hF
    obtain ⟨g41, o41, m41, q41, hv41, hm41, hl41, hc41⟩ := Rd.idxF (hS.rd ha) hmx
    refine wl hF rfl rfl rfl (r_index sl51 ((hF.ev rfl).trans hv41) (hF.ev rfl) (by omega) (by omega)) ?_; clear hF a; intro a hF
    refine wl hF rfl rfl rfl (r_field fo100_3 (hF.ev rfl)) ?_; clear hF a; intro a hF
    refine wl hF rfl rfl rfl (r_load1 sc3 (hF.ev rfl) (hc41 3 _ rfl)) ?_; clear hF a; intro a hF
    refine wl_mvs (A := [_]) hF rfl ?_; clear hF a; intro a hF
    refine wl hF rfl rfl rfl (r_neq (hF.ev rfl) (hF.ev rfl)) ?_; clear hF a; intro a hF
    refine wl_nil (hK17 _ _ ?_)
    refine wc_fx (t := 45) hF rfl ?_ ?_ <;> clear hF <;> intro c45 hF <;> try simp only [zb1, zb2, zb3, zb4, zb5, zb6, zb7, zb8] at c45
    ·
      exfalso; first | exact (c45 rfl).elim | omega
    clear c45 hv41 hm41 hl41 hc41
    refine wp_skip ?_
    refine hK16 _ _ ?_
    refine wp_region_lit ?_
    refine wl_mvs (A := [_]) hF rfl ?_; clear hF a; intro a hF
    refine wl hF rfl rfl rfl (r_add (hF.ev rfl) ec) ?_; clear hF a; intro a hF
    rw [w64_id (q := K + 1 + 1 + 1 + 1) (by omega) (by omega)] at hF
    refine wl_mvs (A := [_]) hF rfl ?_; clear hF a; intro a hF
    refine wl_nil ?_
    simp only [Exit.then, Exit.inBlock, ↓reduceIte]
    refine hK6 _ _ ?_
    refine wp_region_lit ?_
    refine wl_mvs (A := [_]) hF rfl ?_; clear hF a; intro a hF
    refine wl hF rfl rfl rfl (r_add (hF.ev rfl) ec) ?_; clear hF a; intro a hF
    refine wl_mvs (A := [_]) hF rfl ?_; clear hF a; intro a hF
    refine wl_nil ?_
    try simp only [Exit.then, Exit.inBlock, ↓reduceIte]
    refine ⟨k + 1, (by omega), hS, ((((hF.nil.keep hF (t := 4) rfl).keep hF (t := 0) rfl).keepE hF (t := 1) rfl (by rw [hc2]; congr 1; omega)).keepE hF (t := 5) rfl (wk (by omega))), by omega⟩
  rw [mrow_length] at c9
  refine wp_exit ?_
  simp only [Exit.then, Exit.inBlock, ↓reduceIte]
  refine hK2 _ _ ?_
  refine ws fun K18 hK18 => ?_
  refine wl_mvs (A := [_, _]) hF rfl ?_; clear hF a; intro a hF
  refine wl_nil (hK18 _ _ ?_)
  refine wp_ret ?_
  try simp only [Exit.then, Exit.inBlock, ↓reduceIte]
  obtain rfl : k = xs.length := by omega
  rw [List.take_length] at hF
  exact ret1 rfl hF rfl ⟨rfl, hS.old⟩
set_option maxHeartbeats 4000000 in
set_option maxRecDepth 20000 in
theorem markThreadS_c {W w : World} {l : List Res} {va : Value} {xs : List Sl.Thread} {k0 : Int} (hS : Sep W (Own threadEK va xs :: l) w) (h0 : 0 ≤ k0) (h1 : k0 + crow Sl.Thread.cnt xs < 9223372036854775807) : Calls Tryz.prog 43 #[va, vi k0] w (Ret fun v w' => v = vi (k0 + crow Sl.Thread.cnt xs) ∧ Sep W (Own threadEK va (mrow Sl.Thread.mark Sl.Thread.cnt k0 xs) :: l) w') := by
  refine calls_fr Tryz.func43 rfl Tryz.ntmps43 rfl ?_
  intro a hF
  obtain ⟨A_a, q_a, rfl, hq_a, hn_a⟩ := (hS.own_rd (i := 0) rfl).sl; unfold maxLen at hn_a
  refine ws fun K1 hK1 => ?_
  refine wl_mvs (A := [_]) hF rfl ?_; clear hF a; intro a hF
  refine wl_nil (hK1 _ _ ?_)
  refine wp_seq_k fun K2 hK2 => ?_
  refine ws fun K3 hK3 => ?_
  refine wl_mvs (A := [_]) hF rfl ?_; clear hF a; intro a hF
  refine wl_nil (hK3 _ _ ?_)
  refine wp_block ?_
  replace hS := hS.pull (p := 0) rfl; dsimp only [List.eraseIdx] at hS
  have hL_ := ((hF.nil.keep hF (t := 4) rfl).keep hF (t := 0) rfl)
  refine wp_loop_m (σ := Nat) (fun k L_ => (5, vi k) :: (1, vi (k0 + (crow Sl.Thread.cnt (List.take k xs) : Int))) :: L_) (fun k l_ => (Own threadEK (.slice A_a xs.length q_a) (mrow Sl.Thread.mark Sl.Thread.cnt k0 (xs.take k) ++ xs.drop k)) :: l_) (fun k => (k ≤ xs.length)) (fun k => xs.length - k) 0 ((by rw [show mrow Sl.Thread.mark Sl.Thread.cnt k0 (xs.take 0) ++ xs.drop 0 = xs from by simp [mrow]]; exact hS)) ((hL_.keepE hF (t := 1) rfl (by simp [crow])).keepE hF (t := 5) rfl rfl) ?_ ?_
  · exact Nat.zero_le _
  clear hF hS hL_ a
  rintro k a w1 hk hS hF; try dsimp only at hF; try dsimp only at hS
  refine wp_seq_k fun K4 hK4 => ?_
  refine ws fun K5 hK5 => ?_
  refine wl_mvs (A := [_, _]) hF rfl ?_; clear hF a; intro a hF
  refine wl hF rfl rfl rfl (r_len ul30 (hF.ev rfl)) ?_; clear hF a; intro a hF
  refine wl hF rfl rfl rfl (r_lss (hF.ev rfl) (hF.ev rfl)) ?_; clear hF a; intro a hF
  refine wl_nil (hK5 _ _ ?_)
  refine wc_fx (t := 9) hF rfl ?_ ?_ <;> clear hF <;> intro c9 hF <;> try simp only [zb1, zb2, zb3, zb4, zb5, zb6, zb7, zb8] at c9
  ·
    have hlt : k < xs.length := by omega
    have hx := at0_nat hlt
    have hc1 := crow_le1 (c := Sl.Thread.cnt) hx
    have hc2 := crow_next (c := Sl.Thread.cnt) hx
    simp only [Sl.Thread.cnt] at hc1 hc2
    obtain ⟨vs, hS_⟩ := hS.borrow (q := 0) rfl (mix_at k0 hx); replace hS := hS_.part_open; clear hS_; dsimp only [List.set] at hS
    obtain ⟨gb, ob, qb, hvb, hlb⟩ := hS.but_sl (q := 5) rfl
    simp only [Value.slice.injEq] at hvb; obtain ⟨rfl, hlen_, rfl⟩ := hvb
    replace hS : Sep W (Own intEK (sv (vs.getD 0 (none, 0, 0))) _ :: Own intEK (sv (vs.getD 1 (none, 0, 0))) _ :: Own entryEK (sv (vs.getD 2 (none, 0, 0))) _ :: Own entryEK (sv (vs.getD 3 (none, 0, 0))) _ :: Own intEK (sv (vs.getD 4 (none, 0, 0))) _ :: OwnBut threadEK _ _ k (threadEK.cells _ vs) :: _) _ := hS
    generalize hK : (k0 + (crow Sl.Thread.cnt (List.take k xs) : Int)) = K at hF
    refine wp_skip ?_
    refine hK4 _ _ ?_
    refine wp_seq_k fun K6 hK6 => ?_
    refine wp_block ?_
    refine ws fun K7 hK7 => ?_
    refine wl_mvs (A := [_, _, _]) hF rfl ?_; clear hF a; intro a hF
    refine wl hF rfl rfl rfl (r_index sl30 (hF.ev rfl) (hF.ev rfl) (by omega) (by omega)) ?_; clear hF a; intro a hF
    refine wl hF rfl rfl rfl (r_field fo53_0 (hF.ev rfl)) ?_; clear hF a; intro a hF
    refine wl_bstore (q := 5) (j := 0) hF hS rfl sz3 (hF.ev rfl) rfl (hF.ev rfl) rfl rfl ?_; intro w2 hS_; replace hS := hS_; clear hS_; dsimp only [List.set] at hS
    refine wl_nil (hK7 _ _ ?_)
    refine ws fun K8 hK8 => ?_
    refine wl_mvs (A := [_]) hF rfl ?_; clear hF a; intro a hF
    refine wl hF rfl rfl rfl (r_add (hF.ev rfl) ec) ?_; clear hF a; intro a hF
    rw [w64_id (q := K + 1) (by omega) (by omega)] at hF
    refine wl_mvs (A := [_]) hF rfl ?_; clear hF a; intro a hF
    refine wl_nil (hK8 _ _ ?_)
    refine ws fun K9 hK9 => ?_
    refine wl_mvs (A := [_, _, _]) hF rfl ?_; clear hF a; intro a hF
    refine wl hF rfl rfl rfl (r_index sl30 (hF.ev rfl) (hF.ev rfl) (by omega) (by omega)) ?_; clear hF a; intro a hF
    refine wl hF rfl rfl rfl (r_field fo53_1 (hF.ev rfl)) ?_; clear hF a; intro a hF
    refine wl hF rfl rfl rfl (r_field fo48_0 (hF.ev rfl)) ?_; clear hF a; intro a hF
    refine wl_bstore (q := 5) (j := 1) hF hS rfl sz3 (hF.ev rfl) rfl (hF.ev rfl) rfl rfl ?_; intro w3 hS_; replace hS := hS_; clear hS_; dsimp only [List.set] at hS
    refine wl_nil (hK9 _ _ ?_)
    refine ws fun K10 hK10 => ?_
    refine wl_mvs (A := [_]) hF rfl ?_; clear hF a; intro a hF
    refine wl hF rfl rfl rfl (r_add (hF.ev rfl) ec) ?_; clear hF a; intro a hF
    rw [w64_id (q := K + 1 + 1) (by omega) (by omega)] at hF
    refine wl_mvs (A := [_]) hF rfl ?_; clear hF a; intro a hF
    refine wl_nil (hK10 _ _ ?_)
    refine ws fun K11 hK11 => ?_
    refine wl_mvs (A := [_, _, _]) hF rfl ?_; clear hF a; intro a hF
    refine wl hF rfl rfl rfl (r_index sl30 (hF.ev rfl) (hF.ev rfl) (by omega) (by omega)) ?_; clear hF a; intro a hF
    refine wl hF rfl rfl rfl (r_field fo53_1 (hF.ev rfl)) ?_; clear hF a; intro a hF
    refine wl hF rfl rfl rfl (r_field fo48_1 (hF.ev rfl)) ?_; clear hF a; intro a hF
    refine wl_bstore (q := 5) (j := 2) hF hS rfl sz3 (hF.ev rfl) rfl (hF.ev rfl) rfl rfl ?_; intro w4 hS_; replace hS := hS_; clear hS_; dsimp only [List.set] at hS
    refine wl_nil (hK11 _ _ ?_)
    refine ws fun K12 hK12 => ?_
    refine wl_mvs (A := [_]) hF rfl ?_; clear hF a; intro a hF
    refine wl hF rfl rfl rfl (r_add (hF.ev rfl) ec) ?_; clear hF a; intro a hF
    rw [w64_id (q := K + 1 + 1 + 1) (by omega) (by omega)] at hF
    refine wl_mvs (A := [_]) hF rfl ?_; clear hF a; intro a hF
    refine wl_nil (hK12 _ _ ?_)
    refine ws fun K13 hK13 => ?_
    refine wl_mvs (A := [_, _, _]) hF rfl ?_; clear hF a; intro a hF
    refine wl hF rfl rfl rfl (r_index sl30 (hF.ev rfl) (hF.ev rfl) (by omega) (by omega)) ?_; clear hF a; intro a hF
    refine wl hF rfl rfl rfl (r_field fo53_1 (hF.ev rfl)) ?_; clear hF a; intro a hF
    refine wl hF rfl rfl rfl (r_field fo48_2 (hF.ev rfl)) ?_; clear hF a; intro a hF
    refine wl_bstore (q := 5) (j := 3) hF hS rfl sz3 (hF.ev rfl) rfl (hF.ev rfl) rfl rfl ?_; intro w5 hS_; replace hS := hS_; clear hS_; dsimp only [List.set] at hS
    refine wl_nil (hK13 _ _ ?_)
    refine ws fun K14 hK14 => ?_
    refine wl_mvs (A := [_]) hF rfl ?_; clear hF a; intro a hF
    refine wl hF rfl rfl rfl (r_add (hF.ev rfl) ec) ?_; clear hF a; intro a hF
    rw [w64_id (q := K + 1 + 1 + 1 + 1) (by omega) (by omega)] at hF
    refine wl_mvs (A := [_]) hF rfl ?_; clear hF a; intro a hF
    refine wl_nil (hK14 _ _ ?_)
    refine ws fun K15 hK15 => ?_
    refine wl_mvs (A := [_, _, _]) hF rfl ?_; clear hF a; intro a hF
    refine wl hF rfl rfl rfl (r_index sl30 (hF.ev rfl) (hF.ev rfl) (by omega) (by omega)) ?_; clear hF a; intro a hF
    refine wl hF rfl rfl rfl (r_field fo53_2 (hF.ev rfl)) ?_; clear hF a; intro a hF
    refine wl hF rfl rfl rfl (r_field fo50_0 (hF.ev rfl)) ?_; clear hF a; intro a hF
    refine wl_bstore (q := 5) (j := 4) hF hS rfl sz3 (hF.ev rfl) rfl (hF.ev rfl) rfl rfl ?_; intro w6 hS_; replace hS := hS_; clear hS_; dsimp only [List.set] at hS
    refine wl_nil (hK15 _ _ ?_)
    refine ws fun K16 hK16 => ?_
    refine wl_mvs (A := [_]) hF rfl ?_; clear hF a; intro a hF
    refine wl hF rfl rfl rfl (r_add (hF.ev rfl) ec) ?_; clear hF a; intro a hF
    rw [w64_id (q := K + 1 + 1 + 1 + 1 + 1) (by omega) (by omega)] at hF
    refine wl_mvs (A := [_]) hF rfl ?_; clear hF a; intro a hF
    refine wl_nil (hK16 _ _ ?_)
    refine ws fun K17 hK17 => ?_
    refine wl_mvs (A := [_, _, _]) hF rfl ?_; clear hF a; intro a hF
    refine wl hF rfl rfl rfl (r_index sl30 (hF.ev rfl) (hF.ev rfl) (by omega) (by omega)) ?_; clear hF a; intro a hF
    refine wl hF rfl rfl rfl (r_field fo53_2 (hF.ev rfl)) ?_; clear hF a; intro a hF
    refine wl hF rfl rfl rfl (r_field fo50_1 (hF.ev rfl)) ?_; clear hF a; intro a hF
    refine wl_bstore (q := 5) (j := 5) hF hS rfl sz3 (hF.ev rfl) rfl (hF.ev rfl) rfl rfl ?_; intro w7 hS_; replace hS := hS_; clear hS_; dsimp only [List.set] at hS
    refine wl_nil (hK17 _ _ ?_)
    refine ws fun K18 hK18 => ?_
    refine wl_mvs (A := [_]) hF rfl ?_; clear hF a; intro a hF
    refine wl hF rfl rfl rfl (r_add (hF.ev rfl) ec) ?_; clear hF a; intro a hF
    rw [w64_id (q := K + 1 + 1 + 1 + 1 + 1 + 1) (by omega) (by omega)] at hF
    refine wl_mvs (A := [_]) hF rfl ?_; clear hF a; intro a hF
    refine wl_nil (hK18 _ _ ?_)
    refine ws fun K19 hK19 => ?_
    refine wl_mvs (A := [_, _, _]) hF rfl ?_; clear hF a; intro a hF
    refine wl hF rfl rfl rfl (r_index sl30 (hF.ev rfl) (hF.ev rfl) (by omega) (by omega)) ?_; clear hF a; intro a hF
    refine wl hF rfl rfl rfl (r_field fo53_3 (hF.ev rfl)) ?_; clear hF a; intro a hF
    refine wl_bstore (q := 5) (j := 6) hF hS rfl sz3 (hF.ev rfl) rfl (hF.ev rfl) rfl rfl ?_; intro w8 hS_; replace hS := hS_; clear hS_; dsimp only [List.set] at hS
    refine wl_nil (hK19 _ _ ?_)
    refine ws fun K20 hK20 => ?_
    refine wl_mvs (A := [_]) hF rfl ?_; clear hF a; intro a hF
    refine wl hF rfl rfl rfl (r_add (hF.ev rfl) ec) ?_; clear hF a; intro a hF
    rw [w64_id (q := K + 1 + 1 + 1 + 1 + 1 + 1 + 1) (by omega) (by omega)] at hF
    refine wl_mvs (A := [_]) hF rfl ?_; clear hF a; intro a hF
    refine wl_nil (hK20 _ _ ?_)
    refine ws fun K21 hK21 => ?_
    refine wl_mvs (A := [_, _, _]) hF rfl ?_; clear hF a; intro a hF
    refine wl hF rfl rfl rfl (r_index sl30 (hF.ev rfl) (hF.ev rfl) (by omega) (by omega)) ?_; clear hF a; intro a hF
    refine wl hF rfl rfl rfl (r_field fo53_4 (hF.ev rfl)) ?_; clear hF a; intro a hF
    refine wl_bstore (q := 5) (j := 7) hF hS rfl sz3 (hF.ev rfl) rfl (hF.ev rfl) rfl rfl ?_; intro w9 hS_; replace hS := hS_; clear hS_; dsimp only [List.set] at hS
    refine wl_nil (hK21 _ _ ?_)
    refine ws fun K22 hK22 => ?_
    refine wl_mvs (A := [_]) hF rfl ?_; clear hF a; intro a hF
    refine wl hF rfl rfl rfl (r_add (hF.ev rfl) ec) ?_; clear hF a; intro a hF
    rw [w64_id (q := K + 1 + 1 + 1 + 1 + 1 + 1 + 1 + 1) (by omega) (by omega)] at hF
    refine wl_mvs (A := [_]) hF rfl ?_; clear hF a; intro a hF
    refine wl_nil (hK22 _ _ ?_)
    refine ws fun K23 hK23 => ?_
    refine wl_mvs (A := [_, _, _]) hF rfl ?_; clear hF a; intro a hF
    refine wl hF rfl rfl rfl (r_index sl30 (hF.ev rfl) (hF.ev rfl) (by omega) (by omega)) ?_; clear hF a; intro a hF
    refine wl hF rfl rfl rfl (r_field fo53_5 (hF.ev rfl)) ?_; clear hF a; intro a hF
    refine wl_bstore (q := 5) (j := 8) hF hS rfl sz3 (hF.ev rfl) rfl (hF.ev rfl) rfl rfl ?_; intro w10 hS_; replace hS := hS_; clear hS_; dsimp only [List.set] at hS
    refine wl_nil (hK23 _ _ ?_)
    refine ws fun K24 hK24 => ?_
    refine wl_mvs (A := [_]) hF rfl ?_; clear hF a; intro a hF
    refine wl hF rfl rfl rfl (r_add (hF.ev rfl) ec) ?_; clear hF a; intro a hF
    rw [w64_id (q := K + 1 + 1 + 1 + 1 + 1 + 1 + 1 + 1 + 1) (by omega) (by omega)] at hF
    refine wl_mvs (A := [_]) hF rfl ?_; clear hF a; intro a hF
    refine wl_nil (hK24 _ _ ?_)
    refine ws fun K25 hK25 => ?_
    refine wl_mvs (A := [_, _, _]) hF rfl ?_; clear hF a; intro a hF
    refine wl hF rfl rfl rfl (r_index sl30 (hF.ev rfl) (hF.ev rfl) (by omega) (by omega)) ?_; clear hF a; intro a hF
    refine wl hF rfl rfl rfl (r_field fo53_6 (hF.ev rfl)) ?_; clear hF a; intro a hF
    refine wl_bstore (q := 5) (j := 9) hF hS rfl sz3 (hF.ev rfl) rfl (hF.ev rfl) rfl rfl ?_; intro w11 hS_; replace hS := hS_; clear hS_; dsimp only [List.set] at hS
    refine wl_nil (hK25 _ _ ?_)
    refine ws fun K26 hK26 => ?_
    refine wl_mvs (A := [_]) hF rfl ?_; clear hF a; intro a hF
    refine wl hF rfl rfl rfl (r_add (hF.ev rfl) ec) ?_; clear hF a; intro a hF
    rw [w64_id (q := K + 1 + 1 + 1 + 1 + 1 + 1 + 1 + 1 + 1 + 1) (by omega) (by omega)] at hF
    refine wl_mvs (A := [_]) hF rfl ?_; clear hF a; intro a hF
    refine wl_nil (hK26 _ _ ?_)
    refine ws fun K27 hK27 => ?_
    refine wl_mvs (A := [_, _, _]) hF rfl ?_; clear hF a; intro a hF
    refine wl hF rfl rfl rfl (r_index sl30 (hF.ev rfl) (hF.ev rfl) (by omega) (by omega)) ?_; clear hF a; intro a hF
    refine wl hF rfl rfl rfl (r_field fo53_7 (hF.ev rfl)) ?_; clear hF a; intro a hF
    refine wl_bstore (q := 5) (j := 10) hF hS rfl sz3 (hF.ev rfl) rfl (hF.ev rfl) rfl rfl ?_; intro w12 hS_; replace hS := hS_; clear hS_; dsimp only [List.set] at hS
    refine wl_nil (hK27 _ _ ?_)
    refine ws fun K28 hK28 => ?_
    refine wl_mvs (A := [_]) hF rfl ?_; clear hF a; intro a hF
    refine wl hF rfl rfl rfl (r_add (hF.ev rfl) ec) ?_; clear hF a; intro a hF
    rw [w64_id (q := K + 1 + 1 + 1 + 1 + 1 + 1 + 1 + 1 + 1 + 1 + 1) (by omega) (by omega)] at hF
    refine wl_mvs (A := [_]) hF rfl ?_; clear hF a; intro a hF
    refine wl_nil (hK28 _ _ ?_)
    refine ws fun K29 hK29 => ?_
    refine wl_mvs (A := [_, _, _]) hF rfl ?_; clear hF a; intro a hF
    refine wl hF rfl rfl rfl (r_index sl30 (hF.ev rfl) (hF.ev rfl) (by omega) (by omega)) ?_; clear hF a; intro a hF
    refine wl hF rfl rfl rfl (r_field fo53_8 (hF.ev rfl)) ?_; clear hF a; intro a hF
    refine wl_bstore (q := 5) (j := 11) hF hS rfl sz3 (hF.ev rfl) rfl (hF.ev rfl) rfl rfl ?_; intro w13 hS_; replace hS := hS_; clear hS_; dsimp only [List.set] at hS
    refine wl_nil (hK29 _ _ ?_)
    refine ws fun K30 hK30 => ?_
    refine wl_mvs (A := [_]) hF rfl ?_; clear hF a; intro a hF
    refine wl hF rfl rfl rfl (r_add (hF.ev rfl) ec) ?_; clear hF a; intro a hF
    rw [w64_id (q := K + 1 + 1 + 1 + 1 + 1 + 1 + 1 + 1 + 1 + 1 + 1 + 1) (by omega) (by omega)] at hF
    refine wl_mvs (A := [_]) hF rfl ?_; clear hF a; intro a hF
    refine wl_nil (hK30 _ _ ?_)
    refine ws fun K31 hK31 => ?_
    refine wl_mvs (A := [_, _, _]) hF rfl ?_; clear hF a; intro a hF
    refine wl hF rfl rfl rfl (r_index sl30 (hF.ev rfl) (hF.ev rfl) (by omega) (by omega)) ?_; clear hF a; intro a hF
    refine wl hF rfl rfl rfl (r_field fo53_9 (hF.ev rfl)) ?_; clear hF a; intro a hF
    refine wl_bstore (q := 5) (j := 12) hF hS rfl sz3 (hF.ev rfl) rfl (hF.ev rfl) rfl rfl ?_; intro w14 hS_; replace hS := hS_; clear hS_; dsimp only [List.set] at hS
    refine wl_nil (hK31 _ _ ?_)
    refine ws fun K32 hK32 => ?_
    refine wl_mvs (A := [_]) hF rfl ?_; clear hF a; intro a hF
    refine wl hF rfl rfl rfl (r_add (hF.ev rfl) ec) ?_; clear hF a; intro a hF
    rw [w64_id (q := K + 1 + 1 + 1 + 1 + 1 + 1 + 1 + 1 + 1 + 1 + 1 + 1 + 1) (by omega) (by omega)] at hF
    refine wl_mvs (A := [_]) hF rfl ?_; clear hF a; intro a hF
    refine wl_nil (hK32 _ _ ?_)
    refine ws fun K33 hK33 => ?_
    refine wl_mvs (A := [_, _, _]) hF rfl ?_; clear hF a; intro a hF
    refine wl hF rfl rfl rfl (r_index sl30 (hF.ev rfl) (hF.ev rfl) (by omega) (by omega)) ?_; clear hF a; intro a hF
    refine wl hF rfl rfl rfl (r_field fo53_10 (hF.ev rfl)) ?_; clear hF a; intro a hF
    refine wl_bstore (q := 5) (j := 13) hF hS rfl sz3 (hF.ev rfl) rfl (hF.ev rfl) rfl rfl ?_; intro w15 hS_; replace hS := hS_; clear hS_; dsimp only [List.set] at hS
    refine wl_nil (hK33 _ _ ?_)
    refine ws fun K34 hK34 => ?_
    refine wl_mvs (A := [_]) hF rfl ?_; clear hF a; intro a hF
    refine wl hF rfl rfl rfl (r_add (hF.ev rfl) ec) ?_; clear hF a; intro a hF
    rw [w64_id (q := K + 1 + 1 + 1 + 1 + 1 + 1 + 1 + 1 + 1 + 1 + 1 + 1 + 1 + 1) (by omega) (by omega)] at hF
    refine wl_mvs (A := [_]) hF rfl ?_; clear hF a; intro a hF
    refine wl_nil (hK34 _ _ ?_)
    refine ws fun K35 hK35 => ?_
    refine wl_mvs (A := [_, _]) hF rfl ?_; clear hF a; intro a hF
    refine wl hF rfl rfl rfl (r_index sl30 (hF.ev rfl) (hF.ev rfl) (by omega) (by omega)) ?_; clear hF a; intro a hF
    refine wl hF rfl rfl rfl (r_field fo53_11 (hF.ev rfl)) ?_; clear hF a; intro a hF
    refine wl hF rfl rfl rfl (r_load1 sc24 (hF.ev rfl) (hS.but1 (q := 5) (j := 14) rfl rfl)) ?_; clear hF a; intro a hF
    refine wl_mvs (A := [_]) hF rfl ?_; clear hF a; intro a hF
    refine wl_call hF rfl rfl rfl (r_call2 en27 (hF.ev rfl) (hF.ev rfl)) (markIntS_c hS (q := 0) rfl (by omega) (by first | omega | (simp only [marks_length]; omega))) ?_; clear hF a; rintro v w16 a ⟨rfl, hS_⟩ hF; replace hS := hS_; clear hS_; dsimp only [List.set] at hS
    refine wl_mvs (A := [_]) hF rfl ?_; clear hF a; intro a hF
    refine wl_nil (hK35 _ _ ?_)
    refine ws fun K36 hK36 => ?_
    refine wl_mvs (A := [_, _]) hF rfl ?_; clear hF a; intro a hF
    refine wl hF rfl rfl rfl (r_index sl30 (hF.ev rfl) (hF.ev rfl) (by omega) (by omega)) ?_; clear hF a; intro a hF
    refine wl hF rfl rfl rfl (r_field fo53_12 (hF.ev rfl)) ?_; clear hF a; intro a hF
    refine wl hF rfl rfl rfl (r_load1 sc24 (hF.ev rfl) (hS.but1 (q := 5) (j := 15) rfl rfl)) ?_; clear hF a; intro a hF
    refine wl_mvs (A := [_]) hF rfl ?_; clear hF a; intro a hF
    refine wl_call hF rfl rfl rfl (r_call2 en27 (hF.ev rfl) (hF.ev rfl)) (markIntS_c hS (q := 1) rfl (by omega) (by first | omega | (simp only [marks_length]; omega))) ?_; clear hF a; rintro v w17 a ⟨rfl, hS_⟩ hF; replace hS := hS_; clear hS_; dsimp only [List.set] at hS
    refine wl_mvs (A := [_]) hF rfl ?_; clear hF a; intro a hF
    refine wl_nil (hK36 _ _ ?_)
    refine ws fun K37 hK37 => ?_
    refine wl_mvs (A := [_, _]) hF rfl ?_; clear hF a; intro a hF
    refine wl hF rfl rfl rfl (r_index sl30 (hF.ev rfl) (hF.ev rfl) (by omega) (by omega)) ?_; clear hF a; intro a hF
    refine wl hF rfl rfl rfl (r_field fo53_13 (hF.ev rfl)) ?_; clear hF a; intro a hF
    refine wl hF rfl rfl rfl (r_load1 sc51 (hF.ev rfl) (hS.but1 (q := 5) (j := 16) rfl rfl)) ?_; clear hF a; intro a hF
    refine wl_mvs (A := [_]) hF rfl ?_; clear hF a; intro a hF
    replace hS := hS.pull (p := 2) rfl; dsimp only [List.eraseIdx] at hS
    refine wl_call hF rfl rfl rfl (r_call2 en85 (hF.ev rfl) (hF.ev rfl)) (markEntryS_c hS (by omega) (by omega)) ?_; clear hF a; rintro v w18 a ⟨rfl, hS_⟩ hF; replace hS := hS_; clear hS_
    refine wl_mvs (A := [_]) hF rfl ?_; clear hF a; intro a hF
    refine wl_nil (hK37 _ _ ?_)
    refine ws fun K38 hK38 => ?_
    refine wl_mvs (A := [_, _]) hF rfl ?_; clear hF a; intro a hF
    refine wl hF rfl rfl rfl (r_index sl30 (hF.ev rfl) (hF.ev rfl) (by omega) (by omega)) ?_; clear hF a; intro a hF
    refine wl hF rfl rfl rfl (r_field fo53_14 (hF.ev rfl)) ?_; clear hF a; intro a hF
    refine wl hF rfl rfl rfl (r_load1 sc51 (hF.ev rfl) (hS.but1 (q := 5) (j := 17) rfl rfl)) ?_; clear hF a; intro a hF
    refine wl_mvs (A := [_]) hF rfl ?_; clear hF a; intro a hF
    replace hS := hS.pull (p := 3) rfl; dsimp only [List.eraseIdx] at hS
    refine wl_call hF rfl rfl rfl (r_call2 en85 (hF.ev rfl) (hF.ev rfl)) (markEntryS_c hS (by omega) (by omega)) ?_; clear hF a; rintro v w19 a ⟨rfl, hS_⟩ hF; replace hS := hS_; clear hS_
    refine wl_mvs (A := [_]) hF rfl ?_; clear hF a; intro a hF
    refine wl_nil (hK38 _ _ ?_)
    refine wp_region_lit ?_
    refine wl_mvs (A := [_, _]) hF rfl ?_; clear hF a; intro a hF
    refine wl hF rfl rfl rfl (r_index sl30 (hF.ev rfl) (hF.ev rfl) (by omega) (by omega)) ?_; clear hF a; intro a hF
    refine wl hF rfl rfl rfl (r_field fo53_15 (hF.ev rfl)) ?_; clear hF a; intro a hF
    refine wl hF rfl rfl rfl (r_load1 sc24 (hF.ev rfl) (hS.but1 (q := 5) (j := 18) rfl rfl)) ?_; clear hF a; intro a hF
    refine wl_mvs (A := [_]) hF rfl ?_; clear hF a; intro a hF
    refine wl_call hF rfl rfl rfl (r_call2 en27 (hF.ev rfl) (hF.ev rfl)) (markIntS_c hS (q := 4) rfl (by omega) (by first | omega | (simp only [marks_length]; omega))) ?_; clear hF a; rintro v w20 a ⟨rfl, hS_⟩ hF; replace hS := hS_; clear hS_; dsimp only [List.set] at hS
    refine wl_mvs (A := [_]) hF rfl ?_; clear hF a; intro a hF
    refine wl_nil ?_
    simp only [Exit.then, Exit.inBlock, ↓reduceIte]
    refine hK6 _ _ ?_
    refine wp_region_lit ?_
    refine wl_mvs (A := [_]) hF rfl ?_; clear hF a; intro a hF
    refine wl hF rfl rfl rfl (r_add (hF.ev rfl) ec) ?_; clear hF a; intro a hF
    refine wl_mvs (A := [_]) hF rfl ?_; clear hF a; intro a hF
    refine wl_nil ?_
    try simp only [Exit.then, Exit.inBlock, ↓reduceIte]
    replace hS := Sep.headp (A := [_, _, _, _, _, _]) (B := [_, _, _, _, _, _]) hS [2, 3, 1, 0, 4, 5] (by decide) rfl rfl
    subst hK
    replace hS := (hS.part_mk (ek := threadEK) (x := Sl.Thread.mark (k0 + (crow Sl.Thread.cnt (List.take k xs) : Int)) (at0 xs (k : Int))) (vs := vs) (l := OwnBut threadEK _ _ k _ :: l) rfl).giveback (q := 0) rfl rfl
    dsimp only [List.set] at hS; rw [mix_set k0 hx] at hS
    refine ⟨k + 1, (by omega), hS, ((((hF.nil.keep hF (t := 4) rfl).keep hF (t := 0) rfl).keepE hF (t := 1) rfl (by rw [hc2]; congr 1; omega)).keepE hF (t := 5) rfl (wk (by omega))), by omega⟩
  refine wp_exit ?_
  simp only [Exit.then, Exit.inBlock, ↓reduceIte]
  refine hK2 _ _ ?_
  refine ws fun K39 hK39 => ?_
  refine wl_mvs (A := [_, _]) hF rfl ?_; clear hF a; intro a hF
  refine wl_nil (hK39 _ _ ?_)
  refine wp_ret ?_
  try simp only [Exit.then, Exit.inBlock, ↓reduceIte]
  obtain rfl : k = xs.length := by omega
  rw [List.take_length] at hF hS
  refine ret1 rfl hF rfl ⟨rfl, ?_⟩
  rw [List.drop_length, List.append_nil] at hS; exact hS
set_option maxHeartbeats 4000000 in
set_option maxRecDepth 20000 in
theorem heldThreadS_c {W : World} {va : Value} {xs : List Sl.Thread} {k0 : Int} (ha : threadEK.Rd W va (mrow Sl.Thread.mark Sl.Thread.cnt k0 xs)) (h0 : 0 ≤ k0) (h1 : k0 + crow Sl.Thread.cnt xs < 9223372036854775807) : Calls Tryz.prog 44 #[va, vi k0] W (Ret fun v w' => v = vi (k0 + crow Sl.Thread.cnt xs) ∧ Below W.heap.size W w') := by
  refine calls_fr Tryz.func44 rfl Tryz.ntmps44 rfl ?_
  intro a hF
  obtain ⟨A_a, q_a, rfl, hq_a, hn_a⟩ := ha.sl; unfold maxLen at hn_a
  rw [mrow_length] at hq_a hn_a
  have hS := Sep.refl W
  refine ws fun K1 hK1 => ?_
  refine wl_mvs (A := [_]) hF rfl ?_; clear hF a; intro a hF
  refine wl_nil (hK1 _ _ ?_)
  refine wp_seq_k fun K2 hK2 => ?_
  refine ws fun K3 hK3 => ?_
  refine wl_mvs (A := [_]) hF rfl ?_; clear hF a; intro a hF
  refine wl_nil (hK3 _ _ ?_)
  refine wp_block ?_
  have hL_ := ((hF.nil.keep hF (t := 4) rfl).keep hF (t := 0) rfl)
  refine wp_loop_r (σ := Nat) (fun k L_ => (5, vi k) :: (1, vi (k0 + (crow Sl.Thread.cnt (List.take k xs) : Int))) :: L_) (fun k => (k ≤ xs.length)) (fun k => xs.length - k) 0 hS ((hL_.keepE hF (t := 1) rfl (by simp [crow])).keepE hF (t := 5) rfl rfl) ?_ ?_
  · exact Nat.zero_le _
  clear hF hS hL_ a
  rintro k a w1 hk hS hF; try dsimp only at hF; try dsimp only at hS
  refine wp_seq_k fun K4 hK4 => ?_
  refine ws fun K5 hK5 => ?_
  refine wl_mvs (A := [_, _]) hF rfl ?_; clear hF a; intro a hF
  refine wl hF rfl rfl rfl (r_len ul30 (hF.ev rfl)) ?_; clear hF a; intro a hF
  refine wl hF rfl rfl rfl (r_lss (hF.ev rfl) (hF.ev rfl)) ?_; clear hF a; intro a hF
  refine wl_nil (hK5 _ _ ?_)
  refine wc_fx (t := 9) hF rfl ?_ ?_ <;> clear hF <;> intro c9 hF <;> try simp only [zb1, zb2, zb3, zb4, zb5, zb6, zb7, zb8] at c9
  ·
    rw [mrow_length] at c9
    have hlt : k < xs.length := by omega
    have hx := at0_nat hlt
    have hc1 := crow_le1 (c := Sl.Thread.cnt) hx
    have hc2 := crow_next (c := Sl.Thread.cnt) hx
    simp only [Sl.Thread.cnt] at hc1 hc2
    have hmx := mrow_at (f := Sl.Thread.mark) (c := Sl.Thread.cnt) k0 hx
    generalize hK : (k0 + (crow Sl.Thread.cnt (List.take k xs) : Int)) = K at hF hmx
    have hlm : k < (mrow Sl.Thread.mark Sl.Thread.cnt k0 xs).length := by rw [mrow_length]; omega
    refine wp_skip ?_
    refine hK4 _ _ ?_
    refine wp_seq_k fun K6 hK6 => ?_
    refine wp_block ?_
    refine wp_seq_k fun K7 hK7 => ?_
    refine ws fun K8 hK8 => ?_
    refine wl_mvs (A := [_, _]) hF rfl ?_; clear hF a; intro a hF
    obtain ⟨g14, o14, m14, q14, cs14, hv14, hm14, hl14, hk14, hz14, hc14⟩ := Rd.idx (ha) hmx
    have hkk14 := hk14; obtain ⟨v14_0, v14_1, v14_2, v14_3, v14_4, rfl, r14_0, r14_1, r14_2, r14_3, r14_4⟩ := hk14
    refine wl hF rfl rfl rfl (r_index sl30 ((hF.ev rfl).trans hv14) (hF.ev rfl) (by omega) (by omega)) ?_; clear hF a; intro a hF
    refine wl hF rfl rfl rfl (r_field fo53_0 (hF.ev rfl)) ?_; clear hF a; intro a hF
    refine wl hF rfl rfl rfl (r_load1 sc3 (hF.ev rfl) (cellB hS.old (hc14 0 _ rfl))) ?_; clear hF a; intro a hF
    refine wl_mvs (A := [_]) hF rfl ?_; clear hF a; intro a hF
    refine wl hF rfl rfl rfl (r_neq (hF.ev rfl) (hF.ev rfl)) ?_; clear hF a; intro a hF
    refine wl_nil (hK8 _ _ ?_)
    refine wc_fx (t := 18) hF rfl ?_ ?_ <;> clear hF <;> intro c18 hF <;> try simp only [zb1, zb2, zb3, zb4, zb5, zb6, zb7, zb8] at c18
    ·
      exfalso; first | exact (c18 rfl).elim | omega
    clear c18 hv14 hm14 hl14 hc14 hz14 hkk14 r14_0 r14_1 r14_2 r14_3 r14_4
    refine wp_skip ?_
    refine hK7 _ _ ?_
    refine ws fun K9 hK9 => ?_
    refine wl_mvs (A := [_]) hF rfl ?_; clear hF a; intro a hF
    refine wl hF rfl rfl rfl (r_add (hF.ev rfl) ec) ?_; clear hF a; intro a hF
    rw [w64_id (q := K + 1) (by omega) (by omega)] at hF
    refine wl_mvs (A := [_]) hF rfl ?_; clear hF a; intro a hF
    refine wl_nil (hK9 _ _ ?_)
    refine wp_seq_k fun K10 hK10 => ?_
    refine ws fun K11 hK11 => ?_
    refine wl_mvs (A := [_, _]) hF rfl ?_; clear hF a; intro a hF
    obtain ⟨g23, o23, m23, q23, cs23, hv23, hm23, hl23, hk23, hz23, hc23⟩ := Rd.idx (ha) hmx
    have hkk23 := hk23; obtain ⟨v23_0, v23_1, v23_2, v23_3, v23_4, rfl, r23_0, r23_1, r23_2, r23_3, r23_4⟩ := hk23
    refine wl hF rfl rfl rfl (r_index sl30 ((hF.ev rfl).trans hv23) (hF.ev rfl) (by omega) (by omega)) ?_; clear hF a; intro a hF
    refine wl hF rfl rfl rfl (r_field fo53_1 (hF.ev rfl)) ?_; clear hF a; intro a hF
    refine wl hF rfl rfl rfl (r_field fo48_0 (hF.ev rfl)) ?_; clear hF a; intro a hF
    refine wl hF rfl rfl rfl (r_load1 sc3 (hF.ev rfl) (cellB hS.old (hc23 1 _ rfl))) ?_; clear hF a; intro a hF
    refine wl_mvs (A := [_]) hF rfl ?_; clear hF a; intro a hF
    refine wl hF rfl rfl rfl (r_neq (hF.ev rfl) (hF.ev rfl)) ?_; clear hF a; intro a hF
    refine wl_nil (hK11 _ _ ?_)
    refine wc_fx (t := 28) hF rfl ?_ ?_ <;> clear hF <;> intro c28 hF <;> try simp only [zb1, zb2, zb3, zb4, zb5, zb6, zb7, zb8] at c28
    ·
      exfalso; first | exact (c28 rfl).elim | omega
    clear c28 hv23 hm23 hl23 hc23 hz23 hkk23 r23_0 r23_1 r23_2 r23_3 r23_4
    refine wp_skip ?_
    refine hK10 _ _ ?_
    refine ws fun K12 hK12 => ?_
    refine wl_mvs (A := [_]) hF rfl ?_; clear hF a; intro a hF
    refine wl hF rfl rfl rfl (r_add (hF.ev rfl) ec) ?_; clear hF a; intro a hF
    rw [w64_id (q := K + 1 + 1) (by omega) (by omega)] at hF
    refine wl_mvs (A := [_]) hF rfl ?_; clear hF a; intro a hF
    refine wl_nil (hK12 _ _ ?_)
    refine wp_seq_k fun K13 hK13 => ?_
    refine ws fun K14 hK14 => ?_
    refine wl_mvs (A := [_, _]) hF rfl ?_; clear hF a; intro a hF
    obtain ⟨g33, o33, m33, q33, cs33, hv33, hm33, hl33, hk33, hz33, hc33⟩ := Rd.idx (ha) hmx
    have hkk33 := hk33; obtain ⟨v33_0, v33_1, v33_2, v33_3, v33_4, rfl, r33_0, r33_1, r33_2, r33_3, r33_4⟩ := hk33
    refine wl hF rfl rfl rfl (r_index sl30 ((hF.ev rfl).trans hv33) (hF.ev rfl) (by omega) (by omega)) ?_; clear hF a; intro a hF
    refine wl hF rfl rfl rfl (r_field fo53_1 (hF.ev rfl)) ?_; clear hF a; intro a hF
    refine wl hF rfl rfl rfl (r_field fo48_1 (hF.ev rfl)) ?_; clear hF a; intro a hF
    refine wl hF rfl rfl rfl (r_load1 sc3 (hF.ev rfl) (cellB hS.old (hc33 2 _ rfl))) ?_; clear hF a; intro a hF
    refine wl_mvs (A := [_]) hF rfl ?_; clear hF a; intro a hF
    refine wl hF rfl rfl rfl (r_neq (hF.ev rfl) (hF.ev rfl)) ?_; clear hF a; intro a hF
    refine wl_nil (hK14 _ _ ?_)
    refine wc_fx (t := 38) hF rfl ?_ ?_ <;> clear hF <;> intro c38 hF <;> try simp only [zb1, zb2, zb3, zb4, zb5, zb6, zb7, zb8] at c38
    ·
      exfalso; first | exact (c38 rfl).elim | omega
    clear c38 hv33 hm33 hl33 hc33 hz33 hkk33 r33_0 r33_1 r33_2 r33_3 r33_4
    refine wp_skip ?_
    refine hK13 _ _ ?_
    refine ws fun K15 hK15 => ?_
    refine wl_mvs (A := [_]) hF rfl ?_; clear hF a; intro a hF
    refine wl hF rfl rfl rfl (r_add (hF.ev rfl) ec) ?_; clear hF a; intro a hF
    rw [w64_id (q := K + 1 + 1 + 1) (by omega) (by omega)] at hF
    refine wl_mvs (A := [_]) hF rfl ?_; clear hF a; intro a hF
    refine wl_nil (hK15 _ _ ?_)
    refine wp_seq_k fun K16 hK16 => ?_
    refine ws fun K17 hK17 => ?_
    refine wl_mvs (A := [_, _]) hF rfl ?_; clear hF a; intro a hF
    obtain ⟨g43, o43, m43, q43, cs43, hv43, hm43, hl43, hk43, hz43, hc43⟩ := Rd.idx (ha) hmx
    have hkk43 := hk43; obtain ⟨v43_0, v43_1, v43_2, v43_3, v43_4, rfl, r43_0, r43_1, r43_2, r43_3, r43_4⟩ := hk43
    refine wl hF rfl rfl rfl (r_index sl30 ((hF.ev rfl).trans hv43) (hF.ev rfl) (by omega) (by omega)) ?_; clear hF a; intro a hF
    refine wl hF rfl rfl rfl (r_field fo53_1 (hF.ev rfl)) ?_; clear hF a; intro a hF
    refine wl hF rfl rfl rfl (r_field fo48_2 (hF.ev rfl)) ?_; clear hF a; intro a hF
    refine wl hF rfl rfl rfl (r_load1 sc3 (hF.ev rfl) (cellB hS.old (hc43 3 _ rfl))) ?_; clear hF a; intro a hF
    refine wl_mvs (A := [_]) hF rfl ?_; clear hF a; intro a hF
    refine wl hF rfl rfl rfl (r_neq (hF.ev rfl) (hF.ev rfl)) ?_; clear hF a; intro a hF
    refine wl_nil (hK17 _ _ ?_)
    refine wc_fx (t := 48) hF rfl ?_ ?_ <;> clear hF <;> intro c48 hF <;> try simp only [zb1, zb2, zb3, zb4, zb5, zb6, zb7, zb8] at c48
    ·
      exfalso; first | exact (c48 rfl).elim | omega
    clear c48 hv43 hm43 hl43 hc43 hz43 hkk43 r43_0 r43_1 r43_2 r43_3 r43_4
    refine wp_skip ?_
    refine hK16 _ _ ?_
    refine ws fun K18 hK18 => ?_
    refine wl_mvs (A := [_]) hF rfl ?_; clear hF a; intro a hF
    refine wl hF rfl rfl rfl (r_add (hF.ev rfl) ec) ?_; clear hF a; intro a hF
    rw [w64_id (q := K + 1 + 1 + 1 + 1) (by omega) (by omega)] at hF
    refine wl_mvs (A := [_]) hF rfl ?_; clear hF a; intro a hF
    refine wl_nil (hK18 _ _ ?_)
    refine wp_seq_k fun K19 hK19 => ?_
    refine ws fun K20 hK20 => ?_
    refine wl_mvs (A := [_, _]) hF rfl ?_; clear hF a; intro a hF
    obtain ⟨g53, o53, m53, q53, cs53, hv53, hm53, hl53, hk53, hz53, hc53⟩ := Rd.idx (ha) hmx
    have hkk53 := hk53; obtain ⟨v53_0, v53_1, v53_2, v53_3, v53_4, rfl, r53_0, r53_1, r53_2, r53_3, r53_4⟩ := hk53
    refine wl hF rfl rfl rfl (r_index sl30 ((hF.ev rfl).trans hv53) (hF.ev rfl) (by omega) (by omega)) ?_; clear hF a; intro a hF
    refine wl hF rfl rfl rfl (r_field fo53_2 (hF.ev rfl)) ?_; clear hF a; intro a hF
    refine wl hF rfl rfl rfl (r_field fo50_0 (hF.ev rfl)) ?_; clear hF a; intro a hF
    refine wl hF rfl rfl rfl (r_load1 sc3 (hF.ev rfl) (cellB hS.old (hc53 4 _ rfl))) ?_; clear hF a; intro a hF
    refine wl_mvs (A := [_]) hF rfl ?_; clear hF a; intro a hF
    refine wl hF rfl rfl rfl (r_neq (hF.ev rfl) (hF.ev rfl)) ?_; clear hF a; intro a hF
    refine wl_nil (hK20 _ _ ?_)
    refine wc_fx (t := 58) hF rfl ?_ ?_ <;> clear hF <;> intro c58 hF <;> try simp only [zb1, zb2, zb3, zb4, zb5, zb6, zb7, zb8] at c58
    ·
      exfalso; first | exact (c58 rfl).elim | omega
    clear c58 hv53 hm53 hl53 hc53 hz53 hkk53 r53_0 r53_1 r53_2 r53_3 r53_4
    refine wp_skip ?_
    refine hK19 _ _ ?_
    refine ws fun K21 hK21 => ?_
    refine wl_mvs (A := [_]) hF rfl ?_; clear hF a; intro a hF
    refine wl hF rfl rfl rfl (r_add (hF.ev rfl) ec) ?_; clear hF a; intro a hF
    rw [w64_id (q := K + 1 + 1 + 1 + 1 + 1) (by omega) (by omega)] at hF
    refine wl_mvs (A := [_]) hF rfl ?_; clear hF a; intro a hF
    refine wl_nil (hK21 _ _ ?_)
    refine wp_seq_k fun K22 hK22 => ?_
    refine ws fun K23 hK23 => ?_
    refine wl_mvs (A := [_, _]) hF rfl ?_; clear hF a; intro a hF
    obtain ⟨g63, o63, m63, q63, cs63, hv63, hm63, hl63, hk63, hz63, hc63⟩ := Rd.idx (ha) hmx
    have hkk63 := hk63; obtain ⟨v63_0, v63_1, v63_2, v63_3, v63_4, rfl, r63_0, r63_1, r63_2, r63_3, r63_4⟩ := hk63
    refine wl hF rfl rfl rfl (r_index sl30 ((hF.ev rfl).trans hv63) (hF.ev rfl) (by omega) (by omega)) ?_; clear hF a; intro a hF
    refine wl hF rfl rfl rfl (r_field fo53_2 (hF.ev rfl)) ?_; clear hF a; intro a hF
    refine wl hF rfl rfl rfl (r_field fo50_1 (hF.ev rfl)) ?_; clear hF a; intro a hF
    refine wl hF rfl rfl rfl (r_load1 sc3 (hF.ev rfl) (cellB hS.old (hc63 5 _ rfl))) ?_; clear hF a; intro a hF
    refine wl_mvs (A := [_]) hF rfl ?_; clear hF a; intro a hF
    refine wl hF rfl rfl rfl (r_neq (hF.ev rfl) (hF.ev rfl)) ?_; clear hF a; intro a hF
    refine wl_nil (hK23 _ _ ?_)
    refine wc_fx (t := 68) hF rfl ?_ ?_ <;> clear hF <;> intro c68 hF <;> try simp only [zb1, zb2, zb3, zb4, zb5, zb6, zb7, zb8] at c68
    ·
      exfalso; first | exact (c68 rfl).elim | omega
    clear c68 hv63 hm63 hl63 hc63 hz63 hkk63 r63_0 r63_1 r63_2 r63_3 r63_4
    refine wp_skip ?_
    refine hK22 _ _ ?_
    refine ws fun K24 hK24 => ?_
    refine wl_mvs (A := [_]) hF rfl ?_; clear hF a; intro a hF
    refine wl hF rfl rfl rfl (r_add (hF.ev rfl) ec) ?_; clear hF a; intro a hF
    rw [w64_id (q := K + 1 + 1 + 1 + 1 + 1 + 1) (by omega) (by omega)] at hF
    refine wl_mvs (A := [_]) hF rfl ?_; clear hF a; intro a hF
    refine wl_nil (hK24 _ _ ?_)
    refine wp_seq_k fun K25 hK25 => ?_
    refine ws fun K26 hK26 => ?_
    refine wl_mvs (A := [_, _]) hF rfl ?_; clear hF a; intro a hF
    obtain ⟨g73, o73, m73, q73, cs73, hv73, hm73, hl73, hk73, hz73, hc73⟩ := Rd.idx (ha) hmx
    have hkk73 := hk73; obtain ⟨v73_0, v73_1, v73_2, v73_3, v73_4, rfl, r73_0, r73_1, r73_2, r73_3, r73_4⟩ := hk73
    refine wl hF rfl rfl rfl (r_index sl30 ((hF.ev rfl).trans hv73) (hF.ev rfl) (by omega) (by omega)) ?_; clear hF a; intro a hF
    refine wl hF rfl rfl rfl (r_field fo53_3 (hF.ev rfl)) ?_; clear hF a; intro a hF
    refine wl hF rfl rfl rfl (r_load1 sc3 (hF.ev rfl) (cellB hS.old (hc73 6 _ rfl))) ?_; clear hF a; intro a hF
    refine wl_mvs (A := [_]) hF rfl ?_; clear hF a; intro a hF
    refine wl hF rfl rfl rfl (r_neq (hF.ev rfl) (hF.ev rfl)) ?_; clear hF a; intro a hF
    refine wl_nil (hK26 _ _ ?_)
    refine wc_fx (t := 77) hF rfl ?_ ?_ <;> clear hF <;> intro c77 hF <;> try simp only [zb1, zb2, zb3, zb4, zb5, zb6, zb7, zb8] at c77
    ·
      exfalso; first | exact (c77 rfl).elim | omega
    clear c77 hv73 hm73 hl73 hc73 hz73 hkk73 r73_0 r73_1 r73_2 r73_3 r73_4
    refine wp_skip ?_
    refine hK25 _ _ ?_
    refine ws fun K27 hK27 => ?_
    refine wl_mvs (A := [_]) hF rfl ?_; clear hF a; intro a hF
    refine wl hF rfl rfl rfl (r_add (hF.ev rfl) ec) ?_; clear hF a; intro a hF
    rw [w64_id (q := K + 1 + 1 + 1 + 1 + 1 + 1 + 1) (by omega) (by omega)] at hF
    refine wl_mvs (A := [_]) hF rfl ?_; clear hF a; intro a hF
    refine wl_nil (hK27 _ _ ?_)
    refine wp_seq_k fun K28 hK28 => ?_
    refine ws fun K29 hK29 => ?_
    refine wl_mvs (A := [_, _]) hF rfl ?_; clear hF a; intro a hF
    obtain ⟨g82, o82, m82, q82, cs82, hv82, hm82, hl82, hk82, hz82, hc82⟩ := Rd.idx (ha) hmx
    have hkk82 := hk82; obtain ⟨v82_0, v82_1, v82_2, v82_3, v82_4, rfl, r82_0, r82_1, r82_2, r82_3, r82_4⟩ := hk82
    refine wl hF rfl rfl rfl (r_index sl30 ((hF.ev rfl).trans hv82) (hF.ev rfl) (by omega) (by omega)) ?_; clear hF a; intro a hF
    refine wl hF rfl rfl rfl (r_field fo53_4 (hF.ev rfl)) ?_; clear hF a; intro a hF
    refine wl hF rfl rfl rfl (r_load1 sc3 (hF.ev rfl) (cellB hS.old (hc82 7 _ rfl))) ?_; clear hF a; intro a hF
    refine wl_mvs (A := [_]) hF rfl ?_; clear hF a; intro a hF
    refine wl hF rfl rfl rfl (r_neq (hF.ev rfl) (hF.ev rfl)) ?_; clear hF a; intro a hF
    refine wl_nil (hK29 _ _ ?_)
    refine wc_fx (t := 86) hF rfl ?_ ?_ <;> clear hF <;> intro c86 hF <;> try simp only [zb1, zb2, zb3, zb4, zb5, zb6, zb7, zb8] at c86
    ·
      exfalso; first | exact (c86 rfl).elim | omega
    clear c86 hv82 hm82 hl82 hc82 hz82 hkk82 r82_0 r82_1 r82_2 r82_3 r82_4
    refine wp_skip ?_
    refine hK28 _ _ ?_
    refine ws fun K30 hK30 => ?_
    refine wl_mvs (A := [_]) hF rfl ?_; clear hF a; intro a hF
    refine wl hF rfl rfl rfl (r_add (hF.ev rfl) ec) ?_; clear hF a; intro a hF
    rw [w64_id (q := K + 1 + 1 + 1 + 1 + 1 + 1 + 1 + 1) (by omega) (by omega)] at hF
    refine wl_mvs (A := [_]) hF rfl ?_; clear hF a; intro a hF
    refine wl_nil (hK30 _ _ ?_)
    refine wp_seq_k fun K31 hK31 => ?_
    refine ws fun K32 hK32 => ?_
    refine wl_mvs (A := [_, _]) hF rfl ?_; clear hF a; intro a hF
    obtain ⟨g91, o91, m91, q91, cs91, hv91, hm91, hl91, hk91, hz91, hc91⟩ := Rd.idx (ha) hmx
    have hkk91 := hk91; obtain ⟨v91_0, v91_1, v91_2, v91_3, v91_4, rfl, r91_0, r91_1, r91_2, r91_3, r91_4⟩ := hk91
    refine wl hF rfl rfl rfl (r_index sl30 ((hF.ev rfl).trans hv91) (hF.ev rfl) (by omega) (by omega)) ?_; clear hF a; intro a hF
    refine wl hF rfl rfl rfl (r_field fo53_5 (hF.ev rfl)) ?_; clear hF a; intro a hF
    refine wl hF rfl rfl rfl (r_load1 sc3 (hF.ev rfl) (cellB hS.old (hc91 8 _ rfl))) ?_; clear hF a; intro a hF
    refine wl_mvs (A := [_]) hF rfl ?_; clear hF a; intro a hF
    refine wl hF rfl rfl rfl (r_neq (hF.ev rfl) (hF.ev rfl)) ?_; clear hF a; intro a hF
    refine wl_nil (hK32 _ _ ?_)
    refine wc_fx (t := 95) hF rfl ?_ ?_ <;> clear hF <;> intro c95 hF <;> try simp only [zb1, zb2, zb3, zb4, zb5, zb6, zb7, zb8] at c95
    ·
      exfalso; first | exact (c95 rfl).elim | omega
    clear c95 hv91 hm91 hl91 hc91 hz91 hkk91 r91_0 r91_1 r91_2 r91_3 r91_4
    refine wp_skip ?_
    refine hK31 _ _ ?_
    refine ws fun K33 hK33 => ?_
    refine wl_mvs (A := [_]) hF rfl ?_; clear hF a; intro a hF
    refine wl hF rfl rfl rfl (r_add (hF.ev rfl) ec) ?_; clear hF a; intro a hF
    rw [w64_id (q := K + 1 + 1 + 1 + 1 + 1 + 1 + 1 + 1 + 1) (by omega) (by omega)] at hF
    refine wl_mvs (A := [_]) hF rfl ?_; clear hF a; intro a hF
    refine wl_nil (hK33 _ _ ?_)
    refine wp_seq_k fun K34 hK34 => ?_
    refine ws fun K35 hK35 => ?_
    refine wl_mvs (A := [_, _]) hF rfl ?_; clear hF a; intro a hF
    obtain ⟨g100, o100, m100, q100, cs100, hv100, hm100, hl100, hk100, hz100, hc100⟩ := Rd.idx (ha) hmx
    have hkk100 := hk100; obtain ⟨v100_0, v100_1, v100_2, v100_3, v100_4, rfl, r100_0, r100_1, r100_2, r100_3, r100_4⟩ := hk100
    refine wl hF rfl rfl rfl (r_index sl30 ((hF.ev rfl).trans hv100) (hF.ev rfl) (by omega) (by omega)) ?_; clear hF a; intro a hF
    refine wl hF rfl rfl rfl (r_field fo53_6 (hF.ev rfl)) ?_; clear hF a; intro a hF
    refine wl hF rfl rfl rfl (r_load1 sc3 (hF.ev rfl) (cellB hS.old (hc100 9 _ rfl))) ?_; clear hF a; intro a hF
    refine wl_mvs (A := [_]) hF rfl ?_; clear hF a; intro a hF
    refine wl hF rfl rfl rfl (r_neq (hF.ev rfl) (hF.ev rfl)) ?_; clear hF a; intro a hF
    refine wl_nil (hK35 _ _ ?_)
    refine wc_fx (t := 104) hF rfl ?_ ?_ <;> clear hF <;> intro c104 hF <;> try simp only [zb1, zb2, zb3, zb4, zb5, zb6, zb7, zb8] at c104
    ·
      exfalso; first | exact (c104 rfl).elim | omega
    clear c104 hv100 hm100 hl100 hc100 hz100 hkk100 r100_0 r100_1 r100_2 r100_3 r100_4
    refine wp_skip ?_
    refine hK34 _ _ ?_
    refine ws fun K36 hK36 => ?_
    refine wl_mvs (A := [_]) hF rfl ?_; clear hF a; intro a hF
    refine wl hF rfl rfl rfl (r_add (hF.ev rfl) ec) ?_; clear hF a; intro a hF
    rw [w64_id (q := K + 1 + 1 + 1 + 1 + 1 + 1 + 1 + 1 + 1 + 1) (by omega) (by omega)] at hF
    refine wl_mvs (A := [_]) hF rfl ?_; clear hF a; intro a hF
    refine wl_nil (hK36 _ _ ?_)
    refine wp_seq_k fun K37 hK37 => ?_
    refine ws fun K38 hK38 => ?_
    refine wl_mvs (A := [_, _]) hF rfl ?_; clear hF a; intro a hF
    obtain ⟨g109, o109, m109, q109, cs109, hv109, hm109, hl109, hk109, hz109, hc109⟩ := Rd.idx (ha) hmx
    have hkk109 := hk109; obtain ⟨v109_0, v109_1, v109_2, v109_3, v109_4, rfl, r109_0, r109_1, r109_2, r109_3, r109_4⟩ := hk109
    refine wl hF rfl rfl rfl (r_index sl30 ((hF.ev rfl).trans hv109) (hF.ev rfl) (by omega) (by omega)) ?_; clear hF a; intro a hF
    refine wl hF rfl rfl rfl (r_field fo53_7 (hF.ev rfl)) ?_; clear hF a; intro a hF
    refine wl hF rfl rfl rfl (r_load1 sc3 (hF.ev rfl) (cellB hS.old (hc109 10 _ rfl))) ?_; clear hF a; intro a hF
    refine wl_mvs (A := [_]) hF rfl ?_; clear hF a; intro a hF
    refine wl hF rfl rfl rfl (r_neq (hF.ev rfl) (hF.ev rfl)) ?_; clear hF a; intro a hF
    refine wl_nil (hK38 _ _ ?_)
    refine wc_fx (t := 113) hF rfl ?_ ?_ <;> clear hF <;> intro c113 hF <;> try simp only [zb1, zb2, zb3, zb4, zb5, zb6, zb7, zb8] at c113
    ·
      exfalso; first | exact (c113 rfl).elim | omega
    clear c113 hv109 hm109 hl109 hc109 hz109 hkk109 r109_0 r109_1 r109_2 r109_3 r109_4
    refine wp_skip ?_
    refine hK37 _ _ ?_
    refine ws fun K39 hK39 => ?_
    refine wl_mvs (A := [_]) hF rfl ?_; clear hF a; intro a hF
    refine wl hF rfl rfl rfl (r_add (hF.ev rfl) ec) ?_; clear hF a; intro a hF
    rw [w64_id (q := K + 1 + 1 + 1 + 1 + 1 + 1 + 1 + 1 + 1 + 1 + 1) (by omega) (by omega)] at hF
    refine wl_mvs (A := [_]) hF rfl ?_; clear hF a; intro a hF
    refine wl_nil (hK39 _ _ ?_)
    refine wp_seq_k fun K40 hK40 => ?_
    refine ws fun K41 hK41 => ?_
    refine wl_mvs (A := [_, _]) hF rfl ?_; clear hF a; intro a hF
    obtain ⟨g118, o118, m118, q118, cs118, hv118, hm118, hl118, hk118, hz118, hc118⟩ := Rd.idx (ha) hmx
    have hkk118 := hk118; obtain ⟨v118_0, v118_1, v118_2, v118_3, v118_4, rfl, r118_0, r118_1, r118_2, r118_3, r118_4⟩ := hk118
    refine wl hF rfl rfl rfl (r_index sl30 ((hF.ev rfl).trans hv118) (hF.ev rfl) (by omega) (by omega)) ?_; clear hF a; intro a hF
    refine wl hF rfl rfl rfl (r_field fo53_8 (hF.ev rfl)) ?_; clear hF a; intro a hF
    refine wl hF rfl rfl rfl (r_load1 sc3 (hF.ev rfl) (cellB hS.old (hc118 11 _ rfl))) ?_; clear hF a; intro a hF
    refine wl_mvs (A := [_]) hF rfl ?_; clear hF a; intro a hF
    refine wl hF rfl rfl rfl (r_neq (hF.ev rfl) (hF.ev rfl)) ?_; clear hF a; intro a hF
    refine wl_nil (hK41 _ _ ?_)
    refine wc_fx (t := 122) hF rfl ?_ ?_ <;> clear hF <;> intro c122 hF <;> try simp only [zb1, zb2, zb3, zb4, zb5, zb6, zb7, zb8] at c122
    ·
      exfalso; first | exact (c122 rfl).elim | omega
    clear c122 hv118 hm118 hl118 hc118 hz118 hkk118 r118_0 r118_1 r118_2 r118_3 r118_4
    refine wp_skip ?_
    refine hK40 _ _ ?_
    refine ws fun K42 hK42 => ?_
    refine wl_mvs (A := [_]) hF rfl ?_; clear hF a; intro a hF
    refine wl hF rfl rfl rfl (r_add (hF.ev rfl) ec) ?_; clear hF a; intro a hF
    rw [w64_id (q := K + 1 + 1 + 1 + 1 + 1 + 1 + 1 + 1 + 1 + 1 + 1 + 1) (by omega) (by omega)] at hF
    refine wl_mvs (A := [_]) hF rfl ?_; clear hF a; intro a hF
    refine wl_nil (hK42 _ _ ?_)
    refine wp_seq_k fun K43 hK43 => ?_
    refine ws fun K44 hK44 => ?_
    refine wl_mvs (A := [_, _]) hF rfl ?_; clear hF a; intro a hF
    obtain ⟨g127, o127, m127, q127, cs127, hv127, hm127, hl127, hk127, hz127, hc127⟩ := Rd.idx (ha) hmx
    have hkk127 := hk127; obtain ⟨v127_0, v127_1, v127_2, v127_3, v127_4, rfl, r127_0, r127_1, r127_2, r127_3, r127_4⟩ := hk127
    refine wl hF rfl rfl rfl (r_index sl30 ((hF.ev rfl).trans hv127) (hF.ev rfl) (by omega) (by omega)) ?_; clear hF a; intro a hF
    refine wl hF rfl rfl rfl (r_field fo53_9 (hF.ev rfl)) ?_; clear hF a; intro a hF
    refine wl hF rfl rfl rfl (r_load1 sc3 (hF.ev rfl) (cellB hS.old (hc127 12 _ rfl))) ?_; clear hF a; intro a hF
    refine wl_mvs (A := [_]) hF rfl ?_; clear hF a; intro a hF
    refine wl hF rfl rfl rfl (r_neq (hF.ev rfl) (hF.ev rfl)) ?_; clear hF a; intro a hF
    refine wl_nil (hK44 _ _ ?_)
    refine wc_fx (t := 131) hF rfl ?_ ?_ <;> clear hF <;> intro c131 hF <;> try simp only [zb1, zb2, zb3, zb4, zb5, zb6, zb7, zb8] at c131
    ·
      exfalso; first | exact (c131 rfl).elim | omega
    clear c131 hv127 hm127 hl127 hc127 hz127 hkk127 r127_0 r127_1 r127_2 r127_3 r127_4
    refine wp_skip ?_
    refine hK43 _ _ ?_
    refine ws fun K45 hK45 => ?_
    refine wl_mvs (A := [_]) hF rfl ?_; clear hF a; intro a hF
    refine wl hF rfl rfl rfl (r_add (hF.ev rfl) ec) ?_; clear hF a; intro a hF
    rw [w64_id (q := K + 1 + 1 + 1 + 1 + 1 + 1 + 1 + 1 + 1 + 1 + 1 + 1 + 1) (by omega) (by omega)] at hF
    refine wl_mvs (A := [_]) hF rfl ?_; clear hF a; intro a hF
    refine wl_nil (hK45 _ _ ?_)
    refine wp_seq_k fun K46 hK46 => ?_
    refine ws fun K47 hK47 => ?_
    refine wl_mvs (A := [_, _]) hF rfl ?_; clear hF a; intro a hF
    obtain ⟨g136, o136, m136, q136, cs136, hv136, hm136, hl136, hk136, hz136, hc136⟩ := Rd.idx (ha) hmx
    have hkk136 := hk136; obtain ⟨v136_0, v136_1, v136_2, v136_3, v136_4, rfl, r136_0, r136_1, r136_2, r136_3, r136_4⟩ := hk136
    refine wl hF rfl rfl rfl (r_index sl30 ((hF.ev rfl).trans hv136) (hF.ev rfl) (by omega) (by omega)) ?_; clear hF a; intro a hF
    refine wl hF rfl rfl rfl (r_field fo53_10 (hF.ev rfl)) ?_; clear hF a; intro a hF
    refine wl hF rfl rfl rfl (r_load1 sc3 (hF.ev rfl) (cellB hS.old (hc136 13 _ rfl))) ?_; clear hF a; intro a hF
    refine wl_mvs (A := [_]) hF rfl ?_; clear hF a; intro a hF
    refine wl hF rfl rfl rfl (r_neq (hF.ev rfl) (hF.ev rfl)) ?_; clear hF a; intro a hF
    refine wl_nil (hK47 _ _ ?_)
    refine wc_fx (t := 140) hF rfl ?_ ?_ <;> clear hF <;> intro c140 hF <;> try simp only [zb1, zb2, zb3, zb4, zb5, zb6, zb7, zb8] at c140
    ·
      exfalso; first | exact (c140 rfl).elim | omega
    clear c140 hv136 hm136 hl136 hc136 hz136 hkk136 r136_0 r136_1 r136_2 r136_3 r136_4
    refine wp_skip ?_
    refine hK46 _ _ ?_
    refine ws fun K48 hK48 => ?_
    refine wl_mvs (A := [_]) hF rfl ?_; clear hF a; intro a hF
    refine wl hF rfl rfl rfl (r_add (hF.ev rfl) ec) ?_; clear hF a; intro a hF
    rw [w64_id (q := K + 1 + 1 + 1 + 1 + 1 + 1 + 1 + 1 + 1 + 1 + 1 + 1 + 1 + 1) (by omega) (by omega)] at hF
    refine wl_mvs (A := [_]) hF rfl ?_; clear hF a; intro a hF
    refine wl_nil (hK48 _ _ ?_)
    refine ws fun K49 hK49 => ?_
    refine wl_mvs (A := [_, _]) hF rfl ?_; clear hF a; intro a hF
    obtain ⟨g145, o145, m145, q145, cs145, hv145, hm145, hl145, hk145, hz145, hc145⟩ := Rd.idx (ha) hmx
    have hkk145 := hk145; obtain ⟨v145_0, v145_1, v145_2, v145_3, v145_4, rfl, r145_0, r145_1, r145_2, r145_3, r145_4⟩ := hk145
    refine wl hF rfl rfl rfl (r_index sl30 ((hF.ev rfl).trans hv145) (hF.ev rfl) (by omega) (by omega)) ?_; clear hF a; intro a hF
    refine wl hF rfl rfl rfl (r_field fo53_11 (hF.ev rfl)) ?_; clear hF a; intro a hF
    refine wl hF rfl rfl rfl (r_load1 sc24 (hF.ev rfl) (cellB hS.old (hc145 14 _ rfl))) ?_; clear hF a; intro a hF
    refine wl_mvs (A := [_]) hF rfl ?_; clear hF a; intro a hF
    refine wl_call hF rfl rfl rfl (r_call2 en28 (hF.ev rfl) (hF.ev rfl)) (heldIntS_c (hS.rd r145_0) (by omega) (by first | omega | (simp only [marks_length]; omega))) ?_; clear hF a; rintro v w2 a ⟨rfl, hB_⟩ hF; replace hS := hS.ext hB_; clear hB_
    refine wl_mvs (A := [_]) hF rfl ?_; clear hF a; intro a hF
    refine wl_nil (hK49 _ _ ?_)
    refine wp_seq_k fun K50 hK50 => ?_
    refine ws fun K51 hK51 => ?_
    refine wl_mvs (A := [_]) hF rfl ?_; clear hF a; intro a hF
    refine wl hF rfl rfl rfl (r_lss (hF.ev rfl) ec) ?_; clear hF a; intro a hF
    refine wl_nil (hK51 _ _ ?_)
    refine wc_fx (t := 151) hF rfl ?_ ?_ <;> clear hF <;> intro c151 hF <;> try simp only [zb1, zb2, zb3, zb4, zb5, zb6, zb7, zb8] at c151
    ·
      exfalso; first | exact (c151 rfl).elim | omega
    clear c151 hv145 hm145 hl145 hc145 hz145 hkk145 r145_0 r145_1 r145_2 r145_3 r145_4
    refine wp_skip ?_
    refine hK50 _ _ ?_
    refine ws fun K52 hK52 => ?_
    refine wl_mvs (A := [_, _]) hF rfl ?_; clear hF a; intro a hF
    obtain ⟨g154, o154, m154, q154, cs154, hv154, hm154, hl154, hk154, hz154, hc154⟩ := Rd.idx (ha) hmx
    have hkk154 := hk154; obtain ⟨v154_0, v154_1, v154_2, v154_3, v154_4, rfl, r154_0, r154_1, r154_2, r154_3, r154_4⟩ := hk154
    refine wl hF rfl rfl rfl (r_index sl30 ((hF.ev rfl).trans hv154) (hF.ev rfl) (by omega) (by omega)) ?_; clear hF a; intro a hF
    refine wl hF rfl rfl rfl (r_field fo53_12 (hF.ev rfl)) ?_; clear hF a; intro a hF
    refine wl hF rfl rfl rfl (r_load1 sc24 (hF.ev rfl) (cellB hS.old (hc154 15 _ rfl))) ?_; clear hF a; intro a hF
    refine wl_mvs (A := [_]) hF rfl ?_; clear hF a; intro a hF
    refine wl_call hF rfl rfl rfl (r_call2 en28 (hF.ev rfl) (hF.ev rfl)) (heldIntS_c (hS.rd r154_1) (by omega) (by first | omega | (simp only [marks_length]; omega))) ?_; clear hF a; rintro v w3 a ⟨rfl, hB_⟩ hF; replace hS := hS.ext hB_; clear hB_
    refine wl_mvs (A := [_]) hF rfl ?_; clear hF a; intro a hF
    refine wl_nil (hK52 _ _ ?_)
    refine wp_seq_k fun K53 hK53 => ?_
    refine ws fun K54 hK54 => ?_
    refine wl_mvs (A := [_]) hF rfl ?_; clear hF a; intro a hF
    refine wl hF rfl rfl rfl (r_lss (hF.ev rfl) ec) ?_; clear hF a; intro a hF
    refine wl_nil (hK54 _ _ ?_)
    refine wc_fx (t := 160) hF rfl ?_ ?_ <;> clear hF <;> intro c160 hF <;> try simp only [zb1, zb2, zb3, zb4, zb5, zb6, zb7, zb8] at c160
    ·
      exfalso; first | exact (c160 rfl).elim | omega
    clear c160 hv154 hm154 hl154 hc154 hz154 hkk154 r154_0 r154_1 r154_2 r154_3 r154_4
    refine wp_skip ?_
    refine hK53 _ _ ?_
    refine ws fun K55 hK55 => ?_
    refine wl_mvs (A := [_, _]) hF rfl ?_; clear hF a; intro a hF
    obtain ⟨g163, o163, m163, q163, cs163, hv163, hm163, hl163, hk163, hz163, hc163⟩ := Rd.idx (ha) hmx
    have hkk163 := hk163; obtain ⟨v163_0, v163_1, v163_2, v163_3, v163_4, rfl, r163_0, r163_1, r163_2, r163_3, r163_4⟩ := hk163
    refine wl hF rfl rfl rfl (r_index sl30 ((hF.ev rfl).trans hv163) (hF.ev rfl) (by omega) (by omega)) ?_; clear hF a; intro a hF
    refine wl hF rfl rfl rfl (r_field fo53_13 (hF.ev rfl)) ?_; clear hF a; intro a hF
    refine wl hF rfl rfl rfl (r_load1 sc51 (hF.ev rfl) (cellB hS.old (hc163 16 _ rfl))) ?_; clear hF a; intro a hF
    refine wl_mvs (A := [_]) hF rfl ?_; clear hF a; intro a hF
    refine wl_call hF rfl rfl rfl (r_call2 en86 (hF.ev rfl) (hF.ev rfl)) (heldEntryS_c (xs := _) (hS.rd r163_2) (by omega) (by omega)) ?_; clear hF a; rintro v w4 a ⟨rfl, hB_⟩ hF; replace hS := hS.ext hB_; clear hB_
    refine wl_mvs (A := [_]) hF rfl ?_; clear hF a; intro a hF
    refine wl_nil (hK55 _ _ ?_)
    refine wp_seq_k fun K56 hK56 => ?_
    refine ws fun K57 hK57 => ?_
    refine wl_mvs (A := [_]) hF rfl ?_; clear hF a; intro a hF
    refine wl hF rfl rfl rfl (r_lss (hF.ev rfl) ec) ?_; clear hF a; intro a hF
    refine wl_nil (hK57 _ _ ?_)
    refine wc_fx (t := 169) hF rfl ?_ ?_ <;> clear hF <;> intro c169 hF <;> try simp only [zb1, zb2, zb3, zb4, zb5, zb6, zb7, zb8] at c169
    ·
      exfalso; first | exact (c169 rfl).elim | omega
    clear c169 hv163 hm163 hl163 hc163 hz163 hkk163 r163_0 r163_1 r163_2 r163_3 r163_4
    refine wp_skip ?_
    refine hK56 _ _ ?_
    refine ws fun K58 hK58 => ?_
    refine wl_mvs (A := [_, _]) hF rfl ?_; clear hF a; intro a hF
    obtain ⟨g172, o172, m172, q172, cs172, hv172, hm172, hl172, hk172, hz172, hc172⟩ := Rd.idx (ha) hmx
    have hkk172 := hk172; obtain ⟨v172_0, v172_1, v172_2, v172_3, v172_4, rfl, r172_0, r172_1, r172_2, r172_3, r172_4⟩ := hk172
    refine wl hF rfl rfl rfl (r_index sl30 ((hF.ev rfl).trans hv172) (hF.ev rfl) (by omega) (by omega)) ?_; clear hF a; intro a hF
    refine wl hF rfl rfl rfl (r_field fo53_14 (hF.ev rfl)) ?_; clear hF a; intro a hF
    refine wl hF rfl rfl rfl (r_load1 sc51 (hF.ev rfl) (cellB hS.old (hc172 17 _ rfl))) ?_; clear hF a; intro a hF
    refine wl_mvs (A := [_]) hF rfl ?_; clear hF a; intro a hF
    refine wl_call hF rfl rfl rfl (r_call2 en86 (hF.ev rfl) (hF.ev rfl)) (heldEntryS_c (xs := _) (hS.rd r172_3) (by omega) (by omega)) ?_; clear hF a; rintro v w5 a ⟨rfl, hB_⟩ hF; replace hS := hS.ext hB_; clear hB_
    refine wl_mvs (A := [_]) hF rfl ?_; clear hF a; intro a hF
    refine wl_nil (hK58 _ _ ?_)
    refine wp_seq_k fun K59 hK59 => ?_
    refine ws fun K60 hK60 => ?_
    refine wl_mvs (A := [_]) hF rfl ?_; clear hF a; intro a hF
    refine wl hF rfl rfl rfl (r_lss (hF.ev rfl) ec) ?_; clear hF a; intro a hF
    refine wl_nil (hK60 _ _ ?_)
    refine wc_fx (t := 178) hF rfl ?_ ?_ <;> clear hF <;> intro c178 hF <;> try simp only [zb1, zb2, zb3, zb4, zb5, zb6, zb7, zb8] at c178
    ·
      exfalso; first | exact (c178 rfl).elim | omega
    clear c178 hv172 hm172 hl172 hc172 hz172 hkk172 r172_0 r172_1 r172_2 r172_3 r172_4
    refine wp_skip ?_
    refine hK59 _ _ ?_
    refine ws fun K61 hK61 => ?_
    refine wl_mvs (A := [_, _]) hF rfl ?_; clear hF a; intro a hF
    obtain ⟨g181, o181, m181, q181, cs181, hv181, hm181, hl181, hk181, hz181, hc181⟩ := Rd.idx (ha) hmx
    have hkk181 := hk181; obtain ⟨v181_0, v181_1, v181_2, v181_3, v181_4, rfl, r181_0, r181_1, r181_2, r181_3, r181_4⟩ := hk181
    refine wl hF rfl rfl rfl (r_index sl30 ((hF.ev rfl).trans hv181) (hF.ev rfl) (by omega) (by omega)) ?_; clear hF a; intro a hF
    refine wl hF rfl rfl rfl (r_field fo53_15 (hF.ev rfl)) ?_; clear hF a; intro a hF
    refine wl hF rfl rfl rfl (r_load1 sc24 (hF.ev rfl) (cellB hS.old (hc181 18 _ rfl))) ?_; clear hF a; intro a hF
    refine wl_mvs (A := [_]) hF rfl ?_; clear hF a; intro a hF
    refine wl_call hF rfl rfl rfl (r_call2 en28 (hF.ev rfl) (hF.ev rfl)) (heldIntS_c (hS.rd r181_4) (by omega) (by first | omega | (simp only [marks_length]; omega))) ?_; clear hF a; rintro v w6 a ⟨rfl, hB_⟩ hF; replace hS := hS.ext hB_; clear hB_
    refine wl_mvs (A := [_]) hF rfl ?_; clear hF a; intro a hF
    refine wl_nil (hK61 _ _ ?_)
    refine ws fun K62 hK62 => ?_
    refine wl_mvs (A := [_]) hF rfl ?_; clear hF a; intro a hF
    refine wl hF rfl rfl rfl (r_lss (hF.ev rfl) ec) ?_; clear hF a; intro a hF
    refine wl_nil (hK62 _ _ ?_)
    refine wc_fx (t := 187) hF rfl ?_ ?_ <;> clear hF <;> intro c187 hF <;> try simp only [zb1, zb2, zb3, zb4, zb5, zb6, zb7, zb8] at c187
    ·
      exfalso; first | exact (c187 rfl).elim | omega
    clear c187 hv181 hm181 hl181 hc181 hz181 hkk181 r181_0 r181_1 r181_2 r181_3 r181_4
    refine wp_skip ?_
    simp only [Exit.then, Exit.inBlock, ↓reduceIte]
    refine hK6 _ _ ?_
    refine wp_region_lit ?_
    refine wl_mvs (A := [_]) hF rfl ?_; clear hF a; intro a hF
    refine wl hF rfl rfl rfl (r_add (hF.ev rfl) ec) ?_; clear hF a; intro a hF
    refine wl_mvs (A := [_]) hF rfl ?_; clear hF a; intro a hF
    refine wl_nil ?_
    try simp only [Exit.then, Exit.inBlock, ↓reduceIte]
    refine ⟨k + 1, (by omega), hS, ((((hF.nil.keep hF (t := 4) rfl).keep hF (t := 0) rfl).keepE hF (t := 1) rfl (by rw [hc2]; congr 1; omega)).keepE hF (t := 5) rfl (wk (by omega))), by omega⟩
  rw [mrow_length] at c9
  refine wp_exit ?_
  simp only [Exit.then, Exit.inBlock, ↓reduceIte]
  refine hK2 _ _ ?_
  refine ws fun K63 hK63 => ?_
  refine wl_mvs (A := [_, _]) hF rfl ?_; clear hF a; intro a hF
  refine wl_nil (hK63 _ _ ?_)
  refine wp_ret ?_
  try simp only [Exit.then, Exit.inBlock, ↓reduceIte]
  obtain rfl : k = xs.length := by omega
  rw [List.take_length] at hF
  exact ret1 rfl hF rfl ⟨rfl, hS.old⟩
end Go.Proofs.YtifhfodphoeeoaaGreat.Wk
namespace Go.Proofs.YtifhfodphoeeoaaGreat.Wk
open Go Go.RowKit Sl
set_option linter.unusedVariables false
set_option linter.unusedSimpArgs false
set_option maxRecDepth 20000
def _root_.Go.Proofs.YtifhfodphoeeoaaGreat.Sl.State.cnt (s : Sl.State) : Nat := s.cells.length + s.generations.length + crow Sl.Thread.cnt s.threads
def _root_.Go.Proofs.YtifhfodphoeeoaaGreat.Sl.State.mark (k : Int) (s : Sl.State) : Sl.State := { s with cells := marks k s.cells.length, generations := marks (k + s.cells.length) s.generations.length, threads := mrow Sl.Thread.mark Sl.Thread.cnt (k + s.cells.length + s.generations.length) s.threads }
theorem crow_four (xs : List Entry) : crow Sl.Entry.cnt xs = 4 * xs.length := by
  induction xs with
  | nil => rfl
  | cons x xs ih => simp only [crow, ih, List.length_cons, Sl.Entry.cnt]; omega
theorem thread_cnt (t : Sl.Thread) : t.cnt ≤ 14 + 4 * t.size := by
  unfold Sl.Thread.cnt Sl.Thread.size
  rw [crow_four, crow_four]; omega
theorem threads_cnt (xs : List Sl.Thread) : crow Sl.Thread.cnt xs ≤ 14 * xs.length + 4 * crow Sl.Thread.size xs := by
  induction xs with
  | nil => simp [crow]
  | cons x xs ih =>
    have := thread_cnt x
    simp only [crow, List.length_cons]; omega
theorem state_cnt (s : Sl.State) : s.cnt ≤ 14 * s.size := by
  have := threads_cnt s.threads
  unfold Sl.State.cnt Sl.State.size; omega
set_option maxHeartbeats 4000000 in
set_option maxRecDepth 20000 in
theorem markState_c {W w : World} {l : List Res} {s : Sl.State} {vs : List Slv} {k0 : Int} (hS : Sep W (Part stateEK s vs :: l) w) (h0 : 0 ≤ k0) (h1 : k0 + s.cnt < 9223372036854775807) : Calls Tryz.prog 14 #[.agg (stateEK.cells s vs).toArray, vi k0] w (Ret fun v w' => v = vi (k0 + s.cnt) ∧ Sep W (Part stateEK (s.mark k0) vs :: l) w') := by
  refine calls_fr Tryz.func14 rfl Tryz.ntmps14 rfl ?_
  intro a hF
  unfold Sl.State.cnt at *
  replace hS : Sep W (Own intEK (sv (vs.getD 0 (none, 0, 0))) s.cells :: Own intEK (sv (vs.getD 1 (none, 0, 0))) s.generations :: Own threadEK (sv (vs.getD 2 (none, 0, 0))) s.threads :: l) w := hS.part_open
  refine ws fun K1 hK1 => ?_
  refine wl_box (cs := [_, _, _, _, _, _, _, _, _, _, _, _, _]) hF hS rfl (hF.ev rfl) rfl ?_; clear hF a; intro g1 w1 a hS_ hB_ hF; replace hS := hS_; clear hS_ hB_
  refine wl_mvs (A := [_]) hF rfl ?_; clear hF a; intro a hF
  refine wl_nil (hK1 _ _ ?_)
  refine ws fun K2 hK2 => ?_
  refine wl hF rfl rfl rfl (r_field fo32_1 (hF.ev rfl)) ?_; clear hF a; intro a hF
  refine wl hF rfl rfl rfl (r_load1 sc24 (hF.ev rfl) (hS.box (i := 0) rfl rfl)) ?_; clear hF a; intro a hF
  refine wl_mvs (A := [_]) hF rfl ?_; clear hF a; intro a hF
  refine wl_call hF rfl rfl rfl (r_call2 en27 (hF.ev rfl) (hF.ev rfl)) (markIntS_c hS (q := 1) rfl (by omega) (by first | omega | (simp only [marks_length]; omega))) ?_; clear hF a; rintro v w2 a ⟨rfl, hS_⟩ hF; replace hS := hS_; clear hS_; dsimp only [List.set] at hS
  refine wl_mvs (A := [_]) hF rfl ?_; clear hF a; intro a hF
  refine wl_nil (hK2 _ _ ?_)
  refine ws fun K3 hK3 => ?_
  refine wl hF rfl rfl rfl (r_field fo32_2 (hF.ev rfl)) ?_; clear hF a; intro a hF
  refine wl hF rfl rfl rfl (r_load1 sc24 (hF.ev rfl) (hS.box (i := 0) rfl rfl)) ?_; clear hF a; intro a hF
  refine wl_mvs (A := [_]) hF rfl ?_; clear hF a; intro a hF
  refine wl_call hF rfl rfl rfl (r_call2 en27 (hF.ev rfl) (hF.ev rfl)) (markIntS_c hS (q := 2) rfl (by omega) (by first | omega | (simp only [marks_length]; omega))) ?_; clear hF a; rintro v w3 a ⟨rfl, hS_⟩ hF; replace hS := hS_; clear hS_; dsimp only [List.set] at hS
  refine wl_mvs (A := [_]) hF rfl ?_; clear hF a; intro a hF
  refine wl_nil (hK3 _ _ ?_)
  refine ws fun K4 hK4 => ?_
  refine wl hF rfl rfl rfl (r_field fo32_3 (hF.ev rfl)) ?_; clear hF a; intro a hF
  refine wl hF rfl rfl rfl (r_load1 sc30 (hF.ev rfl) (hS.box (i := 0) rfl rfl)) ?_; clear hF a; intro a hF
  refine wl_mvs (A := [_]) hF rfl ?_; clear hF a; intro a hF
  replace hS := hS.pull (p := 3) rfl; dsimp only [List.eraseIdx] at hS
  refine wl_call hF rfl rfl rfl (r_call2 en43 (hF.ev rfl) (hF.ev rfl)) (markThreadS_c hS (by omega) (by omega)) ?_; clear hF a; rintro v w4 a ⟨rfl, hS_⟩ hF; replace hS := hS_; clear hS_
  refine wl_mvs (A := [_]) hF rfl ?_; clear hF a; intro a hF
  refine wl_nil (hK4 _ _ ?_)
  refine ws fun K5 hK5 => ?_
  refine wl_mvs (A := [_, _]) hF rfl ?_; clear hF a; intro a hF
  refine wl_nil (hK5 _ _ ?_)
  refine wp_ret ?_
  try simp only [Exit.then, Exit.inBlock, ↓reduceIte]
  refine ret1 rfl hF rfl ⟨by congr 1; omega, ?_⟩
  exact (Sep.headp (A := [_, _, _, _]) (B := [_, _, _]) hS [2, 3, 0] (by decide) rfl rfl).part_mk (ek := stateEK) (x := s.mark k0) (vs := vs) rfl
set_option maxHeartbeats 4000000 in
set_option maxRecDepth 20000 in
theorem heldState_c {W : World} {s : Sl.State} {cs : List Value} {k0 : Int} (hm : stateEK.K W (s.mark k0) cs) (h0 : 0 ≤ k0) (h1 : k0 + s.cnt < 9223372036854775807) : Calls Tryz.prog 15 #[.agg cs.toArray, vi k0] W (Ret fun v w' => v = vi (k0 + s.cnt) ∧ Below W.heap.size W w') := by
  refine calls_fr Tryz.func15 rfl Tryz.ntmps15 rfl ?_
  intro a hF
  obtain ⟨v0, v1, v2, rfl, r0, r1, r2⟩ := hm
  unfold Sl.State.cnt at *
  have hS := Sep.refl W
  refine ws fun K1 hK1 => ?_
  refine wl_box (cs := [_, _, _, _, _, _, _, _, _, _, _, _, _]) hF hS rfl (hF.ev rfl) rfl ?_; clear hF a; intro g1 w1 a hS_ hB_ hF; replace hS := hS_; clear hS_ hB_
  refine wl_mvs (A := [_]) hF rfl ?_; clear hF a; intro a hF
  refine wl_nil (hK1 _ _ ?_)
  refine ws fun K2 hK2 => ?_
  refine wl hF rfl rfl rfl (r_field fo32_1 (hF.ev rfl)) ?_; clear hF a; intro a hF
  refine wl hF rfl rfl rfl (r_load1 sc24 (hF.ev rfl) (hS.box (i := 0) rfl rfl)) ?_; clear hF a; intro a hF
  refine wl_mvs (A := [_]) hF rfl ?_; clear hF a; intro a hF
  refine wl_call hF rfl rfl rfl (r_call2 en28 (hF.ev rfl) (hF.ev rfl)) (heldIntS_c (hS.rd r0) (by omega) (by omega)) ?_; clear hF a; rintro v w2 a ⟨rfl, hB_⟩ hF; replace hS := hS.ext hB_; clear hB_
  refine wl_mvs (A := [_]) hF rfl ?_; clear hF a; intro a hF
  refine wl_nil (hK2 _ _ ?_)
  refine wp_seq_k fun K3 hK3 => ?_
  refine ws fun K4 hK4 => ?_
  refine wl_mvs (A := [_]) hF rfl ?_; clear hF a; intro a hF
  refine wl hF rfl rfl rfl (r_lss (hF.ev rfl) ec) ?_; clear hF a; intro a hF
  refine wl_nil (hK4 _ _ ?_)
  refine wc_fx (t := 10) hF rfl ?_ ?_ <;> clear hF <;> intro c10 hF <;> try simp only [zb1, zb2, zb3, zb4, zb5, zb6, zb7, zb8] at c10
  ·
    exfalso; first | omega | exact (c10 rfl).elim | (simp_all; done)
  refine wp_skip ?_
  refine hK3 _ _ ?_
  refine ws fun K5 hK5 => ?_
  refine wl hF rfl rfl rfl (r_field fo32_2 (hF.ev rfl)) ?_; clear hF a; intro a hF
  refine wl hF rfl rfl rfl (r_load1 sc24 (hF.ev rfl) (hS.box (i := 0) rfl rfl)) ?_; clear hF a; intro a hF
  refine wl_mvs (A := [_]) hF rfl ?_; clear hF a; intro a hF
  refine wl_call hF rfl rfl rfl (r_call2 en28 (hF.ev rfl) (hF.ev rfl)) (heldIntS_c (hS.rd r1) (by omega) (by omega)) ?_; clear hF a; rintro v w3 a ⟨rfl, hB_⟩ hF; replace hS := hS.ext hB_; clear hB_
  refine wl_mvs (A := [_]) hF rfl ?_; clear hF a; intro a hF
  refine wl_nil (hK5 _ _ ?_)
  refine wp_seq_k fun K6 hK6 => ?_
  refine ws fun K7 hK7 => ?_
  refine wl_mvs (A := [_]) hF rfl ?_; clear hF a; intro a hF
  refine wl hF rfl rfl rfl (r_lss (hF.ev rfl) ec) ?_; clear hF a; intro a hF
  refine wl_nil (hK7 _ _ ?_)
  refine wc_fx (t := 16) hF rfl ?_ ?_ <;> clear hF <;> intro c16 hF <;> try simp only [zb1, zb2, zb3, zb4, zb5, zb6, zb7, zb8] at c16
  ·
    exfalso; first | omega | exact (c16 rfl).elim | (simp_all; done)
  refine wp_skip ?_
  refine hK6 _ _ ?_
  refine ws fun K8 hK8 => ?_
  refine wl hF rfl rfl rfl (r_field fo32_3 (hF.ev rfl)) ?_; clear hF a; intro a hF
  refine wl hF rfl rfl rfl (r_load1 sc30 (hF.ev rfl) (hS.box (i := 0) rfl rfl)) ?_; clear hF a; intro a hF
  refine wl_mvs (A := [_]) hF rfl ?_; clear hF a; intro a hF
  refine wl_call hF rfl rfl rfl (r_call2 en44 (hF.ev rfl) (hF.ev rfl)) (heldThreadS_c (xs := s.threads) (hS.rd r2) (by omega) (by omega)) ?_; clear hF a; rintro v w4 a ⟨rfl, hB_⟩ hF; replace hS := hS.ext hB_; clear hB_
  refine wl_mvs (A := [_]) hF rfl ?_; clear hF a; intro a hF
  refine wl_nil (hK8 _ _ ?_)
  refine wp_seq_k fun K9 hK9 => ?_
  refine ws fun K10 hK10 => ?_
  refine wl_mvs (A := [_]) hF rfl ?_; clear hF a; intro a hF
  refine wl hF rfl rfl rfl (r_lss (hF.ev rfl) ec) ?_; clear hF a; intro a hF
  refine wl_nil (hK10 _ _ ?_)
  refine wc_fx (t := 22) hF rfl ?_ ?_ <;> clear hF <;> intro c22 hF <;> try simp only [zb1, zb2, zb3, zb4, zb5, zb6, zb7, zb8] at c22
  ·
    exfalso; first | omega | exact (c22 rfl).elim | (simp_all; done)
  refine wp_skip ?_
  refine hK9 _ _ ?_
  refine ws fun K11 hK11 => ?_
  refine wl_mvs (A := [_, _]) hF rfl ?_; clear hF a; intro a hF
  refine wl_nil (hK11 _ _ ?_)
  refine wp_ret ?_
  try simp only [Exit.then, Exit.inBlock, ↓reduceIte]
  exact ret1 rfl hF rfl ⟨by congr 1; omega, hS.old⟩
end Go.Proofs.YtifhfodphoeeoaaGreat.Wk
namespace Go.Proofs.YtifhfodphoeeoaaGreat.Wk
open Go Go.RowKit Sl
set_option linter.unusedVariables false
set_option linter.unusedSimpArgs false
set_option maxRecDepth 20000
set_option maxHeartbeats 4000000 in
set_option maxRecDepth 20000 in
theorem law_FnExactStepWalk {W : World} {s : Sl.State} {cs : List Value} (hm : stateEK.K W s cs) (hw : s.wf) {p : Int} (hp : int64 p) : Calls Tryz.prog 4 #[.agg cs.toArray, vi p] W (Ret fun v w' => v = .bool true ∧ Below W.heap.size W w') := by
  refine calls_fr Tryz.func4 rfl Tryz.ntmps4 rfl ?_
  intro a hF
  have hS := Sep.refl W
  obtain ⟨v0, v1, v2, rfl, r0, r1, r2⟩ := hm
  have hm : stateEK.K W s (s.encv v0 v1 v2) := ⟨_, _, _, rfl, r0, r1, r2⟩
  have hcs := state_cnt s
  have hsz_ := stepOf_size (isf := isW) (f := walkS) (s := s) (p := p) 0 walkS_size
  have hcs_ := state_cnt s
  have hcn_ := state_cnt (stepOf isW walkS s p).1
  refine ws fun K1 hK1 => ?_
  refine wl_box (cs := [_, _, _, _, _, _, _, _, _, _, _, _, _]) hF hS rfl (hF.ev rfl) rfl ?_; clear hF a; intro g1 w1 a hS_ hB_ hF; replace hS := hS_; clear hS_ hB_
  refine wl_mvs (A := [_]) hF rfl ?_; clear hF a; intro a hF
  refine wl_nil (hK1 _ _ ?_)
  refine ws fun K2 hK2 => ?_
  refine wl_mvs (A := [_]) hF rfl ?_; clear hF a; intro a hF
  refine wl_nil (hK2 _ _ ?_)
  refine ws fun K3 hK3 => ?_
  refine wl hF rfl rfl rfl (r_loadn ag27 (hF.ev rfl) (hS.box_rd (i := 0) rfl) sz27) ?_; clear hF a; intro a hF
  refine wl_mvs (A := [_]) hF rfl ?_; clear hF a; intro a hF
  refine wl_call hF rfl rfl rfl (r_call2 en9 (hF.ev rfl) (hF.ev rfl)) (szState_c (hS.k hm) (by omega) (by omega)) ?_; clear hF a; rintro v w2 a ⟨⟨r18, rfl, e1_18, e2_18, e3_18⟩, hB_⟩ hF; replace hS := hS.ext hB_; clear hB_
  refine wl_mvs (A := [_]) hF rfl ?_; clear hF a; intro a hF
  refine wl_nil (hK3 _ _ ?_)
  refine wp_seq_k fun K4 hK4 => ?_
  refine ws fun K5 hK5 => ?_
  refine wl_mvs (A := [_]) hF rfl ?_; clear hF a; intro a hF
  refine wl hF rfl rfl rfl (r_lss (hF.ev rfl) ec) ?_; clear hF a; intro a hF
  refine wl_nil (hK5 _ _ ?_)
  first | refine wc_dec (hF.ev rfl) (fun c20 => ?_) (fun c20 => ?_) | refine wc_ndec (hF.ev rfl) (fun c20 => ?_) (fun c20 => ?_) | refine wc_b (hF.ev rfl) (fun c20 => ?_) (fun c20 => ?_)
  ·
    refine ws fun K6 hK6 => ?_
    refine wl_mvs (A := [_]) hF rfl ?_; clear hF a; intro a hF
    refine wl_nil (hK6 _ _ ?_)
    refine wp_ret ?_
    try simp only [Exit.then, Exit.inBlock, ↓reduceIte]
    exact ret1 rfl hF rfl ⟨rfl, hS.old⟩
  refine wp_skip ?_
  refine hK4 _ _ ?_
  refine ws fun K7 hK7 => ?_
  refine wl hF rfl rfl rfl (r_loadn ag27 (hF.ev rfl) (hS.box_rd (i := 0) rfl) sz27) ?_; clear hF a; intro a hF
  refine wl_mk hF hS rfl rfl rfl (r_call1 en11 (hF.ev rfl)) (toState_c (hS.k hm) (by omega)) ?_; clear hF a; rintro vs23 w3 a hS_ hF; replace hS := hS_; clear hS_; dsimp only [List.cons_append, List.nil_append] at hS
  refine wl_mvs (A := [_]) hF rfl ?_; clear hF a; intro a hF
  refine wl_mk hF hS rfl rfl rfl (r_call2 en16 (hF.ev rfl) (hF.ev rfl)) (specStepWalk_c (hS.part_k (i := 0) rfl) hw (by omega) hp) ?_; clear hF a; rintro vs25 w4 a hS_ hF; replace hS := hS_; clear hS_; dsimp only [List.cons_append, List.nil_append] at hS
  refine wl_mvs (A := [_]) hF rfl ?_; clear hF a; intro a hF
  refine wl hF rfl rfl rfl (r_extract (hF.ev rfl) rfl) ?_; clear hF a; intro a hF
  refine wl hF rfl rfl rfl (r_extract (hF.ev rfl) rfl) ?_; clear hF a; intro a hF
  refine wl_alloc hF hS rfl zr32 ?_; clear hF a; intro g2 w5 a hS_ hB_ hF; replace hS := hS_; clear hS_ hB_
  refine wl_storew hF hS (i := 0) rfl (hF.ev rfl) (hF.ev rfl) sz32 rfl rfl ?_; intro w6 hS_; replace hS := hS_; clear hS_; dsimp only [List.set, Nat.reduceAdd] at hS
  refine wl_mvs (A := [_]) hF rfl ?_; clear hF a; intro a hF
  refine wl_nil (hK7 _ _ ?_)
  refine ws fun K8 hK8 => ?_
  refine wl hF rfl rfl rfl (r_loadn ag27 (hF.ev rfl) (hS.box_rd (i := 3) rfl) sz27) ?_; clear hF a; intro a hF
  refine wl_mk hF hS rfl rfl rfl (r_call1 en11 (hF.ev rfl)) (toState_c (hS.k hm) (by omega)) ?_; clear hF a; rintro vs29 w7 a hS_ hF; replace hS := hS_; clear hS_; dsimp only [List.cons_append, List.nil_append] at hS
  refine wl_alloc hF hS rfl zr32 ?_; clear hF a; intro g3 w8 a hS_ hB_ hF; replace hS := hS_; clear hS_ hB_
  refine wl_storew hF hS (i := 0) rfl (hF.ev rfl) (hF.ev rfl) sz32 rfl rfl ?_; intro w9 hS_; replace hS := hS_; clear hS_; dsimp only [List.set, Nat.reduceAdd] at hS
  refine wl_nil (hK8 _ _ ?_)
  refine ws fun K9 hK9 => ?_
  refine wl hF rfl rfl rfl (r_loadn ag32 (hF.ev rfl) (hS.box_rd (i := 0) rfl) sz32) ?_; clear hF a; intro a hF
  refine wl_mvs (A := [_]) hF rfl ?_; clear hF a; intro a hF
  refine wl_mk hF hS rfl rfl rfl (r_call2 en17 (hF.ev rfl) (hF.ev rfl)) (implStepWalk_c (hS.part_k (i := 1) rfl) hw (by omega) hp) ?_; clear hF a; rintro vs33 w10 a hS_ hF; replace hS := hS_; clear hS_; dsimp only [List.cons_append, List.nil_append] at hS
  refine wl_mvs (A := [_]) hF rfl ?_; clear hF a; intro a hF
  refine wl hF rfl rfl rfl (r_extract (hF.ev rfl) rfl) ?_; clear hF a; intro a hF
  refine wl hF rfl rfl rfl (r_extract (hF.ev rfl) rfl) ?_; clear hF a; intro a hF
  refine wl_alloc hF hS rfl zr32 ?_; clear hF a; intro g4 w11 a hS_ hB_ hF; replace hS := hS_; clear hS_ hB_
  refine wl_storew hF hS (i := 0) rfl (hF.ev rfl) (hF.ev rfl) sz32 rfl rfl ?_; intro w12 hS_; replace hS := hS_; clear hS_; dsimp only [List.set, Nat.reduceAdd] at hS
  refine wl_mvs (A := [_]) hF rfl ?_; clear hF a; intro a hF
  refine wl_nil (hK9 _ _ ?_)
  refine wp_seq_k fun K10 hK10 => ?_
  refine ws fun K11 hK11 => ?_
  refine wl hF rfl rfl rfl (r_loadn ag32 (hF.ev rfl) (hS.box_rd (i := 0) rfl) sz32) ?_; clear hF a; intro a hF
  refine wl hF rfl rfl rfl (r_loadn ag32 (hF.ev rfl) (hS.box_rd (i := 4) rfl) sz32) ?_; clear hF a; intro a hF
  refine wl_call hF rfl rfl rfl (r_call2 en13 (hF.ev rfl) (hF.ev rfl)) (eqState_same (hS.part_k (i := 1) rfl) (hS.part_k (i := 5) rfl)) ?_; clear hF a; rintro v w13 a ⟨rfl, hB_⟩ hF; replace hS := hS.ext hB_; clear hB_
  refine wl hF rfl rfl rfl (r_not (hF.ev rfl)) ?_; clear hF a; intro a hF
  refine wl_mvs (A := [_, _, _]) hF rfl ?_; clear hF a; intro a hF
  refine wl_take hF rfl rfl rfl rfl ?_
  refine wl hF rfl rfl rfl (r_neqb bl4 (hF.ev rfl) (hF.ev rfl)) ?_; clear hF a; intro a hF
  refine wl hF rfl rfl rfl (r_pick_f (hF.ev rfl) (hF.ev rfl)) ?_; clear hF a; intro a hF
  refine wl_nil (hK11 _ _ ?_)
  first | refine wc_dec (hF.ev rfl) (fun c44 => ?_) (fun c44 => ?_) | refine wc_ndec (hF.ev rfl) (fun c44 => ?_) (fun c44 => ?_) | refine wc_b (hF.ev rfl) (fun c44 => ?_) (fun c44 => ?_)
  · exfalso; first | omega | exact (c44 rfl).elim | (simp_all; done)
  refine wp_skip ?_
  refine hK10 _ _ ?_
  refine wp_seq_k fun K12 hK12 => ?_
  refine wp_seq_k fun K13 hK13 => ?_
  refine wp_region_todo (is := [0, 1, 2, 3, 4]) [] [] (by kernel_rfl) hF hS ⟨trivial, by decide, by decide, by decide⟩ (by kernel_rfl) ?_; clear hF; intro hl_ wd hSd
  refine todo_quiet hl_ (by kernel_rfl) rfl rfl rfl rfl rfl (fun a w_ hF hB_ => r_loadn ag32 (hF.ev rfl) ((hSd.ext hB_).box_rd (i := 2) rfl) sz32) ?_
  refine todo_quiet hl_ (by kernel_rfl) rfl rfl rfl rfl rfl (fun a w_ hF hB_ => r_loadn ag27 (hF.ev rfl) ((hSd.ext hB_).box_rd (i := 7) rfl) sz27) ?_
  refine todo_mk hl_ rfl (by kernel_rfl) rfl rfl rfl rfl rfl (fun a w_ hF => r_call1 en11 (hF.ev rfl)) (fun w_ hS => toState_c (hS.k hm) (by omega)) ?_; rintro vs47
  refine todo_rd hl_ rfl (by kernel_rfl) rfl rfl rfl rfl rfl (fun a w_ hF => r_call2 en13 (hF.ev rfl) (hF.ev rfl)) (fun w_ hS => eqState_same (hS.part_k (i := 4) rfl) (hS.part_k (i := 0) rfl)) ?_
  refine todo_pure hl_ (by kernel_rfl) rfl (gw0 rfl) rfl rfl rfl (fun a w_ hF => r_not (hF.ev rfl)) ?_
  refine todo_fin hl_ rfl (by kernel_rfl) (tl := []) rfl ?_; clear hS a; intro a w14 hF hA_
  have hS := hA_.sep; clear hA_
  clear hl_; try clear hSd
  try dsimp only [List.cons_append, List.nil_append, List.set] at hS
  try clear wd
  refine wl_nil ⟨rfl, ?_⟩
  refine hK13 _ _ ?_
  refine wc_false (hF.ev rfl) ?_
  refine wp_skip ?_
  refine hK12 _ _ ?_
  refine ws fun K14 hK14 => ?_
  refine wl_mvs (A := [_]) hF rfl ?_; clear hF a; intro a hF
  refine wl_nil (hK14 _ _ ?_)
  refine ws fun K15 hK15 => ?_
  refine wl hF rfl rfl rfl (r_loadn ag32 (hF.ev rfl) (hS.box_rd (i := 3) rfl) sz32) ?_; clear hF a; intro a hF
  refine wl_mvs (A := [_]) hF rfl ?_; clear hF a; intro a hF
  replace hS := hS.pull (p := 4) rfl; dsimp only [List.eraseIdx] at hS
  refine wl_call hF rfl rfl rfl (r_call2 en14 (hF.ev rfl) (hF.ev rfl)) (markState_c hS (by omega) (by omega)) ?_; clear hF a; rintro v w15 a ⟨rfl, hS_⟩ hF; replace hS := hS_; clear hS_
  refine wl_mvs (A := [_]) hF rfl ?_; clear hF a; intro a hF
  refine wl_nil (hK15 _ _ ?_)
  refine wp_seq_k fun K16 hK16 => ?_
  refine ws fun K17 hK17 => ?_
  refine wl_mvs (A := [_]) hF rfl ?_; clear hF a; intro a hF
  refine wl hF rfl rfl rfl (r_lss (hF.ev rfl) ec) ?_; clear hF a; intro a hF
  refine wl_mvs (A := [_]) hF rfl ?_; clear hF a; intro a hF
  revert hF; intro hF0; refine bsplit (t := 55) hF0 rfl (fun b55 hF => ?_) (fun b55 hF => ?_)
  · exfalso; clear hF hF0; try simp only [decide_eq_true_eq, decide_eq_false_iff_not, Bool.not_eq_true', Bool.not_eq_false'] at b55
    first | omega | exact (b55 rfl).elim | (simp_all; done)
  clear hF0
  refine wl_take hF rfl rfl rfl rfl ?_
  refine wl hF rfl rfl rfl (r_loadn ag32 (hF.ev rfl) (hS.box_rd (i := 2) rfl) sz32) ?_; clear hF a; intro a hF
  refine wl_take hF rfl rfl rfl rfl ?_
  refine wl hF rfl rfl rfl (r_loadn ag32 (hF.ev rfl) (hS.box_rd (i := 5) rfl) sz32) ?_; clear hF a; intro a hF
  refine wl_take hF rfl rfl rfl rfl ?_
  refine wl_call hF rfl rfl rfl (r_call2 en13 (hF.ev rfl) (hF.ev rfl)) (eqState_same (hS.part_k (i := 3) rfl) (hS.part_k (i := 6) rfl)) ?_; clear hF a; rintro v w16 a ⟨rfl, hB_⟩ hF; replace hS := hS.ext hB_; clear hB_
  refine wl_take hF rfl rfl rfl rfl ?_
  refine wl hF rfl rfl rfl (r_not (hF.ev rfl)) ?_; clear hF a; intro a hF
  refine wl hF rfl rfl rfl (r_pick_f (hF.ev rfl) (hF.ev rfl)) ?_; clear hF a; intro a hF
  refine wl_mvs (A := [_, _, _]) hF rfl ?_; clear hF a; intro a hF
  refine wl_take hF rfl rfl rfl rfl ?_
  refine wl hF rfl rfl rfl (r_neqb bl4 (hF.ev rfl) (hF.ev rfl)) ?_; clear hF a; intro a hF
  refine wl hF rfl rfl rfl (r_pick_f (hF.ev rfl) (hF.ev rfl)) ?_; clear hF a; intro a hF
  refine wl_nil (hK17 _ _ ?_)
  first | refine wc_dec (hF.ev rfl) (fun c65 => ?_) (fun c65 => ?_) | refine wc_ndec (hF.ev rfl) (fun c65 => ?_) (fun c65 => ?_) | refine wc_b (hF.ev rfl) (fun c65 => ?_) (fun c65 => ?_)
  · exfalso; first | omega | exact (c65 rfl).elim | (simp_all; done)
  refine wp_skip ?_
  refine hK16 _ _ ?_
  refine ws fun K18 hK18 => ?_
  refine wl_mvs (A := [_]) hF rfl ?_; clear hF a; intro a hF
  refine wl_nil (hK18 _ _ ?_)
  refine ws fun K19 hK19 => ?_
  refine wl hF rfl rfl rfl (r_loadn ag32 (hF.ev rfl) (hS.box_rd (i := 2) rfl) sz32) ?_; clear hF a; intro a hF
  refine wl_mvs (A := [_]) hF rfl ?_; clear hF a; intro a hF
  replace hS := hS.pull (p := 3) rfl; dsimp only [List.eraseIdx] at hS
  refine wl_call hF rfl rfl rfl (r_call2 en14 (hF.ev rfl) (hF.ev rfl)) (markState_c hS (by omega) (by omega)) ?_; clear hF a; rintro v w17 a ⟨rfl, hS_⟩ hF; replace hS := hS_; clear hS_
  refine wl_mvs (A := [_]) hF rfl ?_; clear hF a; intro a hF
  refine wl_nil (hK19 _ _ ?_)
  refine ws fun K20 hK20 => ?_
  refine wl_mvs (A := [_]) hF rfl ?_; clear hF a; intro a hF
  refine wl_nil (hK20 _ _ ?_)
  refine ws fun K21 hK21 => ?_
  refine wl hF rfl rfl rfl (r_loadn ag32 (hF.ev rfl) (hS.box_rd (i := 3) rfl) sz32) ?_; clear hF a; intro a hF
  refine wl_mvs (A := [_]) hF rfl ?_; clear hF a; intro a hF
  refine wl_call hF rfl rfl rfl (r_call2 en15 (hF.ev rfl) (hF.ev rfl)) (heldState_c (s := _) (hS.part_k (i := 0) rfl) (by omega) (by omega)) ?_; clear hF a; rintro v w18 a ⟨rfl, hB_⟩ hF; replace hS := hS.ext hB_; clear hB_
  refine wl_mvs (A := [_]) hF rfl ?_; clear hF a; intro a hF
  refine wl_nil (hK21 _ _ ?_)
  refine wp_seq_k fun K22 hK22 => ?_
  refine ws fun K23 hK23 => ?_
  refine wl_mvs (A := [_]) hF rfl ?_; clear hF a; intro a hF
  refine wl hF rfl rfl rfl (r_lss (hF.ev rfl) ec) ?_; clear hF a; intro a hF
  refine wl_nil (hK23 _ _ ?_)
  first | refine wc_dec (hF.ev rfl) (fun c73 => ?_) (fun c73 => ?_) | refine wc_ndec (hF.ev rfl) (fun c73 => ?_) (fun c73 => ?_) | refine wc_b (hF.ev rfl) (fun c73 => ?_) (fun c73 => ?_)
  · exfalso; first | omega | exact (c73 rfl).elim | (simp_all; done)
  refine wp_skip ?_
  refine hK22 _ _ ?_
  refine wp_seq_k fun K24 hK24 => ?_
  refine ws fun K25 hK25 => ?_
  refine wl_mvs (A := [_, _]) hF rfl ?_; clear hF a; intro a hF
  refine wl hF rfl rfl rfl (r_neq (hF.ev rfl) (hF.ev rfl)) ?_; clear hF a; intro a hF
  refine wl_nil (hK25 _ _ ?_)
  first | refine wc_dec (hF.ev rfl) (fun c76 => ?_) (fun c76 => ?_) | refine wc_ndec (hF.ev rfl) (fun c76 => ?_) (fun c76 => ?_) | refine wc_b (hF.ev rfl) (fun c76 => ?_) (fun c76 => ?_)
  · exfalso; first | omega | exact (c76 rfl).elim | (simp_all; done)
  refine wp_skip ?_
  refine hK24 _ _ ?_
  refine ws fun K26 hK26 => ?_
  refine wl hF rfl rfl rfl (r_loadn ag27 (hF.ev rfl) (hS.box_rd (i := 8) rfl) sz27) ?_; clear hF a; intro a hF
  refine wl_mk hF hS rfl rfl rfl (r_call1 en11 (hF.ev rfl)) (toState_c (hS.k hm) (by omega)) ?_; clear hF a; rintro vs79 w19 a hS_ hF; replace hS := hS_; clear hS_; dsimp only [List.cons_append, List.nil_append] at hS
  refine wl_mvs (A := [_]) hF rfl ?_; clear hF a; intro a hF
  refine wl_mk hF hS rfl rfl rfl (r_call2 en17 (hF.ev rfl) (hF.ev rfl)) (implStepWalk_c (hS.part_k (i := 0) rfl) hw (by omega) hp) ?_; clear hF a; rintro vs81 w20 a hS_ hF; replace hS := hS_; clear hS_; dsimp only [List.cons_append, List.nil_append] at hS
  refine wl_mvs (A := [_]) hF rfl ?_; clear hF a; intro a hF
  refine wl hF rfl rfl rfl (r_extract (hF.ev rfl) rfl) ?_; clear hF a; intro a hF
  refine wl hF rfl rfl rfl (r_extract (hF.ev rfl) rfl) ?_; clear hF a; intro a hF
  refine wl_alloc hF hS rfl zr32 ?_; clear hF a; intro g5 w21 a hS_ hB_ hF; replace hS := hS_; clear hS_ hB_
  refine wl_storew hF hS (i := 0) rfl (hF.ev rfl) (hF.ev rfl) sz32 rfl rfl ?_; intro w22 hS_; replace hS := hS_; clear hS_; dsimp only [List.set, Nat.reduceAdd] at hS
  refine wl_mvs (A := [_]) hF rfl ?_; clear hF a; intro a hF
  refine wl_nil (hK26 _ _ ?_)
  refine wp_seq_k fun K27 hK27 => ?_
  refine ws fun K28 hK28 => ?_
  refine wl hF rfl rfl rfl (r_loadn ag32 (hF.ev rfl) (hS.box_rd (i := 0) rfl) sz32) ?_; clear hF a; intro a hF
  refine wl hF rfl rfl rfl (r_loadn ag32 (hF.ev rfl) (hS.box_rd (i := 8) rfl) sz32) ?_; clear hF a; intro a hF
  refine wl_call hF rfl rfl rfl (r_call2 en13 (hF.ev rfl) (hF.ev rfl)) (eqState_same (hS.part_k (i := 1) rfl) (hS.part_k (i := 9) rfl)) ?_; clear hF a; rintro v w23 a ⟨rfl, hB_⟩ hF; replace hS := hS.ext hB_; clear hB_
  refine wl hF rfl rfl rfl (r_not (hF.ev rfl)) ?_; clear hF a; intro a hF
  refine wl_mvs (A := [_, _, _]) hF rfl ?_; clear hF a; intro a hF
  refine wl_take hF rfl rfl rfl rfl ?_
  refine wl hF rfl rfl rfl (r_neqb bl4 (hF.ev rfl) (hF.ev rfl)) ?_; clear hF a; intro a hF
  refine wl hF rfl rfl rfl (r_pick_f (hF.ev rfl) (hF.ev rfl)) ?_; clear hF a; intro a hF
  refine wl_nil (hK28 _ _ ?_)
  first | refine wc_dec (hF.ev rfl) (fun c92 => ?_) (fun c92 => ?_) | refine wc_ndec (hF.ev rfl) (fun c92 => ?_) (fun c92 => ?_) | refine wc_b (hF.ev rfl) (fun c92 => ?_) (fun c92 => ?_)
  · exfalso; first | omega | exact (c92 rfl).elim | (simp_all; done)
  refine wp_skip ?_
  refine hK27 _ _ ?_
  refine ws fun K29 hK29 => ?_
  refine wl_mvs (A := [_]) hF rfl ?_; clear hF a; intro a hF
  refine wl_nil (hK29 _ _ ?_)
  refine ws fun K30 hK30 => ?_
  refine wl hF rfl rfl rfl (r_loadn ag32 (hF.ev rfl) (hS.box_rd (i := 6) rfl) sz32) ?_; clear hF a; intro a hF
  refine wl_mvs (A := [_]) hF rfl ?_; clear hF a; intro a hF
  refine wl_call hF rfl rfl rfl (r_call2 en15 (hF.ev rfl) (hF.ev rfl)) (heldState_c (s := _) (hS.part_k (i := 3) rfl) (by omega) (by omega)) ?_; clear hF a; rintro v w24 a ⟨rfl, hB_⟩ hF; replace hS := hS.ext hB_; clear hB_
  refine wl_mvs (A := [_]) hF rfl ?_; clear hF a; intro a hF
  refine wl_nil (hK30 _ _ ?_)
  refine wp_seq_k fun K31 hK31 => ?_
  refine ws fun K32 hK32 => ?_
  refine wl_mvs (A := [_]) hF rfl ?_; clear hF a; intro a hF
  refine wl hF rfl rfl rfl (r_lss (hF.ev rfl) ec) ?_; clear hF a; intro a hF
  refine wl_nil (hK32 _ _ ?_)
  first | refine wc_dec (hF.ev rfl) (fun c97 => ?_) (fun c97 => ?_) | refine wc_ndec (hF.ev rfl) (fun c97 => ?_) (fun c97 => ?_) | refine wc_b (hF.ev rfl) (fun c97 => ?_) (fun c97 => ?_)
  · exfalso; first | omega | exact (c97 rfl).elim | (simp_all; done)
  refine wp_skip ?_
  refine hK31 _ _ ?_
  refine wp_seq_k fun K33 hK33 => ?_
  refine ws fun K34 hK34 => ?_
  refine wl_mvs (A := [_, _]) hF rfl ?_; clear hF a; intro a hF
  refine wl hF rfl rfl rfl (r_neq (hF.ev rfl) (hF.ev rfl)) ?_; clear hF a; intro a hF
  refine wl_nil (hK34 _ _ ?_)
  first | refine wc_dec (hF.ev rfl) (fun c100 => ?_) (fun c100 => ?_) | refine wc_ndec (hF.ev rfl) (fun c100 => ?_) (fun c100 => ?_) | refine wc_b (hF.ev rfl) (fun c100 => ?_) (fun c100 => ?_)
  · exfalso; first | omega | exact (c100 rfl).elim | (simp_all; done)
  refine wp_skip ?_
  refine hK33 _ _ ?_
  refine ws fun K35 hK35 => ?_
  refine wl_mvs (A := [_]) hF rfl ?_; clear hF a; intro a hF
  refine wl_nil (hK35 _ _ ?_)
  refine wp_ret ?_
  try simp only [Exit.then, Exit.inBlock, ↓reduceIte]
  exact ret1 rfl hF rfl ⟨rfl, hS.old⟩
end Go.Proofs.YtifhfodphoeeoaaGreat.Wk
namespace Go.Proofs.YtifhfodphoeeoaaGreat.Sl
open Go
section
variable {P : Program} {h s : List Char} {X : List (List Char)}
/-- a row of signs, by their numbers -/
def ch (l : List Nat) : List Char := l.map Char.ofNat
/-- the blank -/
abbrev sp : Char := Char.ofNat 32
theorem words_sp : ∀ (w r : List Char), Sl.sp ∉ w → wordsSigns (w ++ Sl.sp :: r) = w :: wordsSigns r
  | [], r, _ => rfl
  | c :: w, r, h => by
    have hc : c ≠ Sl.sp := fun e => h (e ▸ List.mem_cons_self)
    have ih := words_sp w r (fun e => h (List.mem_cons_of_mem _ e))
    rw [List.cons_append, wordsSigns.eq_3 _ _ (fun e => hc e), ih]
theorem strip_cut : stripLifts liftWords ("cut".toList :: X) = ([], "cut".toList :: X) := by kernel_rfl
theorem made_of (e : behindMainWord (wordsSigns P.initOrder.toList) = "cut".toList :: X) : P.make = some .cut := by
  unfold Program.make; rw [e]; rfl
theorem final_of (e : behindMainWord (wordsSigns P.initOrder.toList) = "cut".toList :: X) : P.liftsFinal = false := by
  unfold Program.liftsFinal Program.headLifts; rw [e]; dsimp only; rw [strip_cut]; rfl
theorem enter_of (e : behindMainWord (wordsSigns P.initOrder.toList) = "cut".toList :: X) (h1 : P.laysLater = false) (h2 : P.bearsReflect = false) (h3 : P.doorFits [] = true) : P.mayEnter = true := by
  unfold Program.mayEnter; rw [e]; dsimp only; rw [strip_cut, h1, h2, h3]; rfl
end
end Go.Proofs.YtifhfodphoeeoaaGreat.Sl
namespace Go.Proofs.YtifhfodphoeeoaaGreat.Wk
open Go Go.RowKit Sl
end Go.Proofs.YtifhfodphoeeoaaGreat.Wk
namespace Go.Proofs.YtifhfodphoeeoaaGreat
open Go Go.RowKit Sl Wk
set_option linter.unusedVariables false
set_option linter.unusedSimpArgs false
set_option maxRecDepth 20000
theorem op3 : Opens Tryz.prog 3 1 (fun _ n cs => cs = [vi n]) int64 := opens_int (by kernel_rfl) (by kernel_rfl)
theorem fd23_0 : fldB Tryz.prog 23 0 = some (3, 0) := by kernel_rfl
theorem fd23_1 : fldB Tryz.prog 23 1 = some (3, 1) := by kernel_rfl
theorem fd23_2 : fldB Tryz.prog 23 2 = some (3, 2) := by kernel_rfl
theorem fd23_3 : fldB Tryz.prog 23 3 = some (3, 3) := by kernel_rfl
theorem fd23_4 : fldB Tryz.prog 23 4 = some (3, 4) := by kernel_rfl
theorem fd23_5 : fldB Tryz.prog 23 5 = some (3, 5) := by kernel_rfl
theorem op23 : Opens Tryz.prog 23 6 (fun _ x cs => cs = Config.enc x) Config.wf := by
  refine ⟨by kernel_rfl, fun H enc W sp fuel cs y h => ?_⟩
  have hl : cs.length = 6 := (trod_len fd23_0 h).trans (by kernel_rfl)
  have e6 : cs.drop 6 = [] := List.drop_eq_nil_of_le (by omega)
  obtain ⟨x0, k0, w0⟩ := Opens.field op3 fd23_0 h
  obtain ⟨x1, k1, w1⟩ := Opens.field op3 fd23_1 h
  obtain ⟨x2, k2, w2⟩ := Opens.field op3 fd23_2 h
  obtain ⟨x3, k3, w3⟩ := Opens.field op3 fd23_3 h
  obtain ⟨x4, k4, w4⟩ := Opens.field op3 fd23_4 h
  obtain ⟨x5, k5, w5⟩ := Opens.field op3 fd23_5 h
  have e5 : cs.drop 5 = [vi x5] ++ [] := by rw [drop_split cs 5 1, e6]; exact congrArg (· ++ _) k5
  have e4 : cs.drop 4 = [vi x4] ++ ([vi x5] ++ []) := by rw [drop_split cs 4 1, e5]; exact congrArg (· ++ _) k4
  have e3 : cs.drop 3 = [vi x3] ++ ([vi x4] ++ ([vi x5] ++ [])) := by rw [drop_split cs 3 1, e4]; exact congrArg (· ++ _) k3
  have e2 : cs.drop 2 = [vi x2] ++ ([vi x3] ++ ([vi x4] ++ ([vi x5] ++ []))) := by rw [drop_split cs 2 1, e3]; exact congrArg (· ++ _) k2
  have e1 : cs.drop 1 = [vi x1] ++ ([vi x2] ++ ([vi x3] ++ ([vi x4] ++ ([vi x5] ++ [])))) := by rw [drop_split cs 1 1, e2]; exact congrArg (· ++ _) k1
  have e0 : cs.drop 0 = [vi x0] ++ ([vi x1] ++ ([vi x2] ++ ([vi x3] ++ ([vi x4] ++ ([vi x5] ++ []))))) := by rw [drop_split cs 0 1, e1]; exact congrArg (· ++ _) k0
  exact ⟨⟨x0, x1, x2, x3, x4, x5⟩, (List.drop_zero (l := cs)).symm.trans e0, hl, w0, w1, w2, w3, w4, w5⟩
theorem op24 : Opens Tryz.prog 24 1 (fun W xs cs => ∃ v, cs = [v] ∧ intEK.Rd W v xs) (fun xs => ∀ x ∈ xs, int64 x) := opens_slice op3 (by decide) (by kernel_rfl) (by kernel_rfl)
theorem fd71_0 : fldB Tryz.prog 71 0 = some (3, 0) := by kernel_rfl
theorem fd71_1 : fldB Tryz.prog 71 1 = some (3, 1) := by kernel_rfl
theorem fd71_2 : fldB Tryz.prog 71 2 = some (3, 2) := by kernel_rfl
theorem op71 : Opens Tryz.prog 71 3 (fun _ x cs => cs = Op.enc x) Op.wf := by
  refine ⟨by kernel_rfl, fun H enc W sp fuel cs y h => ?_⟩
  have hl : cs.length = 3 := (trod_len fd71_0 h).trans (by kernel_rfl)
  have e3 : cs.drop 3 = [] := List.drop_eq_nil_of_le (by omega)
  obtain ⟨x0, k0, w0⟩ := Opens.field op3 fd71_0 h
  obtain ⟨x1, k1, w1⟩ := Opens.field op3 fd71_1 h
  obtain ⟨x2, k2, w2⟩ := Opens.field op3 fd71_2 h
  have e2 : cs.drop 2 = [vi x2] ++ [] := by rw [drop_split cs 2 1, e3]; exact congrArg (· ++ _) k2
  have e1 : cs.drop 1 = [vi x1] ++ ([vi x2] ++ []) := by rw [drop_split cs 1 1, e2]; exact congrArg (· ++ _) k1
  have e0 : cs.drop 0 = [vi x0] ++ ([vi x1] ++ ([vi x2] ++ [])) := by rw [drop_split cs 0 1, e1]; exact congrArg (· ++ _) k0
  exact ⟨⟨x0, x1, x2⟩, (List.drop_zero (l := cs)).symm.trans e0, hl, w0, w1, w2⟩
theorem fd72_0 : fldB Tryz.prog 72 0 = some (3, 0) := by kernel_rfl
theorem fd72_1 : fldB Tryz.prog 72 1 = some (3, 1) := by kernel_rfl
theorem op72 : Opens Tryz.prog 72 2 (fun _ x cs => cs = Result.enc x) Result.wf := by
  refine ⟨by kernel_rfl, fun H enc W sp fuel cs y h => ?_⟩
  have hl : cs.length = 2 := (trod_len fd72_0 h).trans (by kernel_rfl)
  have e2 : cs.drop 2 = [] := List.drop_eq_nil_of_le (by omega)
  obtain ⟨x0, k0, w0⟩ := Opens.field op3 fd72_0 h
  obtain ⟨x1, k1, w1⟩ := Opens.field op3 fd72_1 h
  have e1 : cs.drop 1 = [vi x1] ++ [] := by rw [drop_split cs 1 1, e2]; exact congrArg (· ++ _) k1
  have e0 : cs.drop 0 = [vi x0] ++ ([vi x1] ++ []) := by rw [drop_split cs 0 1, e1]; exact congrArg (· ++ _) k0
  exact ⟨⟨x0, x1⟩, (List.drop_zero (l := cs)).symm.trans e0, hl, w0, w1⟩
theorem fd144_0 : fldB Tryz.prog 144 0 = some (3, 0) := by kernel_rfl
theorem fd144_1 : fldB Tryz.prog 144 1 = some (3, 1) := by kernel_rfl
theorem fd144_2 : fldB Tryz.prog 144 2 = some (3, 2) := by kernel_rfl
theorem fd144_3 : fldB Tryz.prog 144 3 = some (3, 3) := by kernel_rfl
theorem op144 : Opens Tryz.prog 144 4 (fun _ x cs => cs = Entry.enc x) Entry.wf := by
  refine ⟨by kernel_rfl, fun H enc W sp fuel cs y h => ?_⟩
  have hl : cs.length = 4 := (trod_len fd144_0 h).trans (by kernel_rfl)
  have e4 : cs.drop 4 = [] := List.drop_eq_nil_of_le (by omega)
  obtain ⟨x0, k0, w0⟩ := Opens.field op3 fd144_0 h
  obtain ⟨x1, k1, w1⟩ := Opens.field op3 fd144_1 h
  obtain ⟨x2, k2, w2⟩ := Opens.field op3 fd144_2 h
  obtain ⟨x3, k3, w3⟩ := Opens.field op3 fd144_3 h
  have e3 : cs.drop 3 = [vi x3] ++ [] := by rw [drop_split cs 3 1, e4]; exact congrArg (· ++ _) k3
  have e2 : cs.drop 2 = [vi x2] ++ ([vi x3] ++ []) := by rw [drop_split cs 2 1, e3]; exact congrArg (· ++ _) k2
  have e1 : cs.drop 1 = [vi x1] ++ ([vi x2] ++ ([vi x3] ++ [])) := by rw [drop_split cs 1 1, e2]; exact congrArg (· ++ _) k1
  have e0 : cs.drop 0 = [vi x0] ++ ([vi x1] ++ ([vi x2] ++ ([vi x3] ++ []))) := by rw [drop_split cs 0 1, e1]; exact congrArg (· ++ _) k0
  exact ⟨⟨x0, x1, x2, x3⟩, (List.drop_zero (l := cs)).symm.trans e0, hl, w0, w1, w2, w3⟩
theorem op73 : Opens Tryz.prog 73 1 (fun W xs cs => ∃ v, cs = [v] ∧ entryEK.Rd W v xs) (fun xs => ∀ x ∈ xs, Entry.wf x) := opens_slice op144 (by decide) (by kernel_rfl) (by kernel_rfl)
theorem fd75_0 : fldB Tryz.prog 75 0 = some (3, 0) := by kernel_rfl
theorem fd75_1 : fldB Tryz.prog 75 1 = some (71, 1) := by kernel_rfl
theorem fd75_2 : fldB Tryz.prog 75 2 = some (72, 4) := by kernel_rfl
theorem fd75_3 : fldB Tryz.prog 75 3 = some (3, 6) := by kernel_rfl
theorem fd75_4 : fldB Tryz.prog 75 4 = some (3, 7) := by kernel_rfl
theorem fd75_5 : fldB Tryz.prog 75 5 = some (3, 8) := by kernel_rfl
theorem fd75_6 : fldB Tryz.prog 75 6 = some (3, 9) := by kernel_rfl
theorem fd75_7 : fldB Tryz.prog 75 7 = some (3, 10) := by kernel_rfl
theorem fd75_8 : fldB Tryz.prog 75 8 = some (3, 11) := by kernel_rfl
theorem fd75_9 : fldB Tryz.prog 75 9 = some (3, 12) := by kernel_rfl
theorem fd75_10 : fldB Tryz.prog 75 10 = some (3, 13) := by kernel_rfl
theorem fd75_11 : fldB Tryz.prog 75 11 = some (24, 14) := by kernel_rfl
theorem fd75_12 : fldB Tryz.prog 75 12 = some (24, 15) := by kernel_rfl
theorem fd75_13 : fldB Tryz.prog 75 13 = some (73, 16) := by kernel_rfl
theorem fd75_14 : fldB Tryz.prog 75 14 = some (73, 17) := by kernel_rfl
theorem fd75_15 : fldB Tryz.prog 75 15 = some (24, 18) := by kernel_rfl
theorem op75 : Opens Tryz.prog 75 19 Thread.K Thread.wf := by
  refine ⟨by kernel_rfl, fun H enc W sp fuel cs y h => ?_⟩
  have hl : cs.length = 19 := (trod_len fd75_0 h).trans (by kernel_rfl)
  have e19 : cs.drop 19 = [] := List.drop_eq_nil_of_le (by omega)
  obtain ⟨x0, k0, w0⟩ := Opens.field op3 fd75_0 h
  obtain ⟨x1, k1, w1⟩ := Opens.field op71 fd75_1 h
  obtain ⟨x2, k2, w2⟩ := Opens.field op72 fd75_2 h
  obtain ⟨x3, k3, w3⟩ := Opens.field op3 fd75_3 h
  obtain ⟨x4, k4, w4⟩ := Opens.field op3 fd75_4 h
  obtain ⟨x5, k5, w5⟩ := Opens.field op3 fd75_5 h
  obtain ⟨x6, k6, w6⟩ := Opens.field op3 fd75_6 h
  obtain ⟨x7, k7, w7⟩ := Opens.field op3 fd75_7 h
  obtain ⟨x8, k8, w8⟩ := Opens.field op3 fd75_8 h
  obtain ⟨x9, k9, w9⟩ := Opens.field op3 fd75_9 h
  obtain ⟨x10, k10, w10⟩ := Opens.field op3 fd75_10 h
  obtain ⟨x11, ⟨v11, k11, r11⟩, w11⟩ := Opens.field op24 fd75_11 h
  obtain ⟨x12, ⟨v12, k12, r12⟩, w12⟩ := Opens.field op24 fd75_12 h
  obtain ⟨x13, ⟨v13, k13, r13⟩, w13⟩ := Opens.field op73 fd75_13 h
  obtain ⟨x14, ⟨v14, k14, r14⟩, w14⟩ := Opens.field op73 fd75_14 h
  obtain ⟨x15, ⟨v15, k15, r15⟩, w15⟩ := Opens.field op24 fd75_15 h
  have e18 : cs.drop 18 = [v15] ++ [] := by rw [drop_split cs 18 1, e19]; exact congrArg (· ++ _) k15
  have e17 : cs.drop 17 = [v14] ++ ([v15] ++ []) := by rw [drop_split cs 17 1, e18]; exact congrArg (· ++ _) k14
  have e16 : cs.drop 16 = [v13] ++ ([v14] ++ ([v15] ++ [])) := by rw [drop_split cs 16 1, e17]; exact congrArg (· ++ _) k13
  have e15 : cs.drop 15 = [v12] ++ ([v13] ++ ([v14] ++ ([v15] ++ []))) := by rw [drop_split cs 15 1, e16]; exact congrArg (· ++ _) k12
  have e14 : cs.drop 14 = [v11] ++ ([v12] ++ ([v13] ++ ([v14] ++ ([v15] ++ [])))) := by rw [drop_split cs 14 1, e15]; exact congrArg (· ++ _) k11
  have e13 : cs.drop 13 = [vi x10] ++ ([v11] ++ ([v12] ++ ([v13] ++ ([v14] ++ ([v15] ++ []))))) := by rw [drop_split cs 13 1, e14]; exact congrArg (· ++ _) k10
  have e12 : cs.drop 12 = [vi x9] ++ ([vi x10] ++ ([v11] ++ ([v12] ++ ([v13] ++ ([v14] ++ ([v15] ++ [])))))) := by rw [drop_split cs 12 1, e13]; exact congrArg (· ++ _) k9
  have e11 : cs.drop 11 = [vi x8] ++ ([vi x9] ++ ([vi x10] ++ ([v11] ++ ([v12] ++ ([v13] ++ ([v14] ++ ([v15] ++ []))))))) := by rw [drop_split cs 11 1, e12]; exact congrArg (· ++ _) k8
  have e10 : cs.drop 10 = [vi x7] ++ ([vi x8] ++ ([vi x9] ++ ([vi x10] ++ ([v11] ++ ([v12] ++ ([v13] ++ ([v14] ++ ([v15] ++ [])))))))) := by rw [drop_split cs 10 1, e11]; exact congrArg (· ++ _) k7
  have e9 : cs.drop 9 = [vi x6] ++ ([vi x7] ++ ([vi x8] ++ ([vi x9] ++ ([vi x10] ++ ([v11] ++ ([v12] ++ ([v13] ++ ([v14] ++ ([v15] ++ []))))))))) := by rw [drop_split cs 9 1, e10]; exact congrArg (· ++ _) k6
  have e8 : cs.drop 8 = [vi x5] ++ ([vi x6] ++ ([vi x7] ++ ([vi x8] ++ ([vi x9] ++ ([vi x10] ++ ([v11] ++ ([v12] ++ ([v13] ++ ([v14] ++ ([v15] ++ [])))))))))) := by rw [drop_split cs 8 1, e9]; exact congrArg (· ++ _) k5
  have e7 : cs.drop 7 = [vi x4] ++ ([vi x5] ++ ([vi x6] ++ ([vi x7] ++ ([vi x8] ++ ([vi x9] ++ ([vi x10] ++ ([v11] ++ ([v12] ++ ([v13] ++ ([v14] ++ ([v15] ++ []))))))))))) := by rw [drop_split cs 7 1, e8]; exact congrArg (· ++ _) k4
  have e6 : cs.drop 6 = [vi x3] ++ ([vi x4] ++ ([vi x5] ++ ([vi x6] ++ ([vi x7] ++ ([vi x8] ++ ([vi x9] ++ ([vi x10] ++ ([v11] ++ ([v12] ++ ([v13] ++ ([v14] ++ ([v15] ++ [])))))))))))) := by rw [drop_split cs 6 1, e7]; exact congrArg (· ++ _) k3
  have e4 : cs.drop 4 = Result.enc x2 ++ ([vi x3] ++ ([vi x4] ++ ([vi x5] ++ ([vi x6] ++ ([vi x7] ++ ([vi x8] ++ ([vi x9] ++ ([vi x10] ++ ([v11] ++ ([v12] ++ ([v13] ++ ([v14] ++ ([v15] ++ []))))))))))))) := by rw [drop_split cs 4 2, e6]; exact congrArg (· ++ _) k2
  have e1 : cs.drop 1 = Op.enc x1 ++ (Result.enc x2 ++ ([vi x3] ++ ([vi x4] ++ ([vi x5] ++ ([vi x6] ++ ([vi x7] ++ ([vi x8] ++ ([vi x9] ++ ([vi x10] ++ ([v11] ++ ([v12] ++ ([v13] ++ ([v14] ++ ([v15] ++ [])))))))))))))) := by rw [drop_split cs 1 3, e4]; exact congrArg (· ++ _) k1
  have e0 : cs.drop 0 = [vi x0] ++ (Op.enc x1 ++ (Result.enc x2 ++ ([vi x3] ++ ([vi x4] ++ ([vi x5] ++ ([vi x6] ++ ([vi x7] ++ ([vi x8] ++ ([vi x9] ++ ([vi x10] ++ ([v11] ++ ([v12] ++ ([v13] ++ ([v14] ++ ([v15] ++ []))))))))))))))) := by rw [drop_split cs 0 1, e1]; exact congrArg (· ++ _) k0
  exact ⟨⟨x0, x1, x2, x3, x4, x5, x6, x7, x8, x9, x10, x11, x12, x13, x14, x15⟩, ⟨v11, v12, v13, v14, v15, (List.drop_zero (l := cs)).symm.trans e0, r11, r12, r13, r14, r15⟩, hl, w0, w1, w2, w3, w4, w5, w6, w7, w8, w9, w10, w11, w12, w13, w14, w15⟩
theorem op25 : Opens Tryz.prog 25 1 (fun W xs cs => ∃ v, cs = [v] ∧ threadEK.Rd W v xs) (fun xs => ∀ x ∈ xs, Thread.wf x) := opens_slice op75 (by decide) (by kernel_rfl) (by kernel_rfl)
theorem fd27_0 : fldB Tryz.prog 27 0 = some (23, 0) := by kernel_rfl
theorem fd27_1 : fldB Tryz.prog 27 1 = some (24, 6) := by kernel_rfl
theorem fd27_2 : fldB Tryz.prog 27 2 = some (24, 7) := by kernel_rfl
theorem fd27_3 : fldB Tryz.prog 27 3 = some (25, 8) := by kernel_rfl
theorem fd27_4 : fldB Tryz.prog 27 4 = some (3, 9) := by kernel_rfl
theorem fd27_5 : fldB Tryz.prog 27 5 = some (3, 10) := by kernel_rfl
theorem fd27_6 : fldB Tryz.prog 27 6 = some (3, 11) := by kernel_rfl
theorem fd27_7 : fldB Tryz.prog 27 7 = some (3, 12) := by kernel_rfl
theorem op27 : Opens Tryz.prog 27 13 State.K State.wf := by
  refine ⟨by kernel_rfl, fun H enc W sp fuel cs y h => ?_⟩
  have hl : cs.length = 13 := (trod_len fd27_0 h).trans (by kernel_rfl)
  have e13 : cs.drop 13 = [] := List.drop_eq_nil_of_le (by omega)
  obtain ⟨x0, k0, w0⟩ := Opens.field op23 fd27_0 h
  obtain ⟨x1, ⟨v1, k1, r1⟩, w1⟩ := Opens.field op24 fd27_1 h
  obtain ⟨x2, ⟨v2, k2, r2⟩, w2⟩ := Opens.field op24 fd27_2 h
  obtain ⟨x3, ⟨v3, k3, r3⟩, w3⟩ := Opens.field op25 fd27_3 h
  obtain ⟨x4, k4, w4⟩ := Opens.field op3 fd27_4 h
  obtain ⟨x5, k5, w5⟩ := Opens.field op3 fd27_5 h
  obtain ⟨x6, k6, w6⟩ := Opens.field op3 fd27_6 h
  obtain ⟨x7, k7, w7⟩ := Opens.field op3 fd27_7 h
  have e12 : cs.drop 12 = [vi x7] ++ [] := by rw [drop_split cs 12 1, e13]; exact congrArg (· ++ _) k7
  have e11 : cs.drop 11 = [vi x6] ++ ([vi x7] ++ []) := by rw [drop_split cs 11 1, e12]; exact congrArg (· ++ _) k6
  have e10 : cs.drop 10 = [vi x5] ++ ([vi x6] ++ ([vi x7] ++ [])) := by rw [drop_split cs 10 1, e11]; exact congrArg (· ++ _) k5
  have e9 : cs.drop 9 = [vi x4] ++ ([vi x5] ++ ([vi x6] ++ ([vi x7] ++ []))) := by rw [drop_split cs 9 1, e10]; exact congrArg (· ++ _) k4
  have e8 : cs.drop 8 = [v3] ++ ([vi x4] ++ ([vi x5] ++ ([vi x6] ++ ([vi x7] ++ [])))) := by rw [drop_split cs 8 1, e9]; exact congrArg (· ++ _) k3
  have e7 : cs.drop 7 = [v2] ++ ([v3] ++ ([vi x4] ++ ([vi x5] ++ ([vi x6] ++ ([vi x7] ++ []))))) := by rw [drop_split cs 7 1, e8]; exact congrArg (· ++ _) k2
  have e6 : cs.drop 6 = [v1] ++ ([v2] ++ ([v3] ++ ([vi x4] ++ ([vi x5] ++ ([vi x6] ++ ([vi x7] ++ [])))))) := by rw [drop_split cs 6 1, e7]; exact congrArg (· ++ _) k1
  have e0 : cs.drop 0 = Config.enc x0 ++ ([v1] ++ ([v2] ++ ([v3] ++ ([vi x4] ++ ([vi x5] ++ ([vi x6] ++ ([vi x7] ++ []))))))) := by rw [drop_split cs 0 6, e6]; exact congrArg (· ++ _) k0
  exact ⟨⟨x0, x1, x2, x3, x4, x5, x6, x7⟩, ⟨v1, v2, v3, (List.drop_zero (l := cs)).symm.trans e0, r1, r2, r3⟩, hl, w0, w1, w2, w3, w4, w5, w6, w7⟩
namespace fnExactStepWalk
open Go.ChangeShapes Go.WideShapes Go.ChangeAt Go.RowKit
theorem laidOut : laidOutB Tryz.prog = true := by kernel_rfl
theorem own : ownKnob Tryz.prog.godebug = none := by kernel_rfl
set_option maxRecDepth 100000 in
theorem lifted (os : Os) (started : os.Started) (H : Type) (enc : TypeId × Value → H) :
    ReturnsInHanded {} Tryz.checked os 4 .any (Rows.fnExactStepWalkSpec.pre6 enc Tryz.prog Tryz.f4 Rows.fnExactStepWalkRow.domain false) (Rows.fnExactStepWalkSpec.post enc Tryz.prog Tryz.f4 false true false false) := by
  refine returnsInHanded_of_change_sized (C := Tryz.checked) own started (by kernel_rfl) Tryz.func4
    (ChangeSpec.witness6 (enc := enc) (C := Tryz.checked) false ⟨#[], #[.agg #[.int .i64 0, .int .i64 0, .int .i64 0, .int .i64 0, .int .i64 0, .int .i64 0, .slice none 0 0, .slice none 0 0, .slice none 0 0, .int .i64 0, .int .i64 0, .int .i64 0, .int .i64 0], .int .i64 0], []⟩ 8 (by kernel_rfl) (by kernel_rfl) (by kernel_rfl) (by kernel_rfl)) ?_
  intro W base args ds gs before hval0 hW hcnd hsz0 _
  have hval : ∀ (j : Nat) t v, Tryz.f4.params[j]? = some t → args[j]? = some v → Value.okWide Tryz.prog W .any base t v := hval0
  have hW' := hW
  obtain ⟨p, q, hA0, hV, rfl, hfz, hnd⟩ := hW
  have hA : DataW.TrodAll enc Tryz.prog W 0 (fun _ => true) true Tryz.f4.params.toList args.toList ds p := hA0
  rw [Tryz.params4] at hA hval
  obtain ⟨v0, vs0, d0, ds0, p0, q0, hargs, rfl, rfl, h0, r0⟩ := trodAll_cons hA
  obtain ⟨v1, vs1, d1, ds1, p1, q1, rfl, rfl, rfl, h1, r1⟩ := trodAll_cons r0
  obtain ⟨rfl, rfl, rfl⟩ := trodAll_nil r1
  obtain rfl : args = #[v0, v1] := by cases args; simp_all
  obtain ⟨rfl, rfl⟩ := trodVars_none hV
  have kk0 := h0
  have lt0 : ∀ x ∈ p0, x.block < W.heap.size := by obtain ⟨m, hm⟩ := kk0; exact DataW.trod_lt m _ _ _ hm
  obtain ⟨c0, rfl⟩ := okWide_struct fd27_0 (hval 0 27 v0 rfl rfl)
  obtain ⟨m0, hm0⟩ := h0; rw [agg_cells] at hm0
  obtain ⟨x0, k0, _, ok0⟩ := (op27).2 _ _ _ _ _ _ _ hm0; clear hm0
  have kk1 := h1
  have lt1 : ∀ x ∈ p1, x.block < W.heap.size := by obtain ⟨m, hm⟩ := kk1; exact DataW.trod_lt m _ _ _ hm
  obtain ⟨x1, rfl, _, _, ok1⟩ := open_int (by kernel_rfl : Tryz.prog.underlying 3 = some (.int .i64)) (hval 1 3 v1 rfl rfl) h1; replace ok1 := wf_i64 ok1
  clear hA0 hval0
  refine (law_FnExactStepWalk k0 ok0 ok1).mono ?_
  rintro e W' ⟨v, rfl, rfl, bel⟩
  exact ⟨_, rfl, _, _, _, [], _, [], hW', trodAll_mk1 (shut_bool (by kernel_rfl : Tryz.prog.underlying 4 = some .bool) _), (trodAll_cons_mk (Below.trod laidOut (by kernel_rfl) (of_decide_eq_true (by kernel_rfl)) kk0 bel lt0) (trodAll_cons_mk (Below.trod laidOut (by kernel_rfl) (of_decide_eq_true (by kernel_rfl)) kk1 bel lt1) trodAll_mk0)), rfl, bel.frame _, fun h => by cases h⟩
def restSigns : List Char := Sl.ch [97, 116, 32, 108, 111, 111, 112, 46, 101, 120, 97, 109, 112, 108, 101, 47, 103, 48, 49, 54, 50, 56, 47, 108, 97, 119, 115, 46, 70, 110, 69, 120, 97, 99, 116, 83, 116, 101, 112, 66, 101, 103, 105, 110, 32, 108, 111, 111, 112, 46, 101, 120, 97, 109, 112, 108, 101, 47, 103, 48, 49, 54, 50, 56, 47, 108, 97, 119, 115, 46, 70, 110, 69, 120, 97, 99, 116, 83, 116, 101, 112, 87, 97, 108, 107, 32, 108, 111, 111, 112, 46, 101, 120, 97, 109, 112, 108, 101, 47, 103, 48, 49, 54, 50, 56, 47, 108, 97, 119, 115, 46, 70, 110, 69, 120, 97, 99, 116, 83, 116, 101, 112, 82, 101, 97, 100, 32, 108, 111, 111, 112, 46, 101, 120, 97, 109, 112, 108, 101, 47, 103, 48, 49, 54, 50, 56, 47, 108, 97, 119, 115, 46, 70, 110, 69, 120, 97, 99, 116, 83, 116, 101, 112, 82, 101, 99, 108, 97, 105, 109, 32, 108, 111, 111, 112, 46, 101, 120, 97, 109, 112, 108, 101, 47, 103, 48, 49, 54, 50, 56, 47, 108, 97, 119, 115, 46, 70, 110, 69, 120, 97, 99, 116, 83, 116, 101, 112, 70, 108, 117, 115, 104, 32, 108, 111, 111, 112, 46, 101, 120, 97, 109, 112, 108, 101, 47, 103, 48, 49, 54, 50, 56, 47, 108, 97, 119, 115, 46, 70, 110, 69, 120, 97, 99, 116, 70, 114, 101, 101, 78, 111, 100, 101, 115]
theorem order : Tryz.pinned.checked.prog.initOrder = String.ofList (Sl.ch [104, 97, 114, 110, 101, 115, 115] ++ Sl.sp :: (Sl.ch [56, 56, 101, 52, 101, 49, 99, 52, 48, 48, 56, 101, 48, 101, 100, 51, 51, 49, 101, 51, 102, 56, 97, 49, 57, 52, 97, 52, 55, 56, 97, 49, 100, 102, 97, 52, 97, 55, 52, 99, 101, 48, 51, 54, 50, 101, 56, 57, 101, 97, 57, 99, 102, 97, 98, 101, 102, 50, 100, 98, 100, 56, 56, 57] ++ Sl.sp :: (Sl.ch [99, 117, 116] ++ Sl.sp :: restSigns))) := by kernel_rfl
theorem behind (X : List (List Char)) : behindMainWord (Sl.ch [104, 97, 114, 110, 101, 115, 115] :: Sl.ch [56, 56, 101, 52, 101, 49, 99, 52, 48, 48, 56, 101, 48, 101, 100, 51, 51, 49, 101, 51, 102, 56, 97, 49, 57, 52, 97, 52, 55, 56, 97, 49, 100, 102, 97, 52, 97, 55, 52, 99, 101, 48, 51, 54, 50, 101, 56, 57, 101, 97, 57, 99, 102, 97, 98, 101, 102, 50, 100, 98, 100, 56, 56, 57] :: Sl.ch [99, 117, 116] :: X) = "cut".toList :: X := by kernel_rfl
theorem heads : behindMainWord (wordsSigns Tryz.pinned.checked.prog.initOrder.toList) = "cut".toList :: wordsSigns restSigns := by
  rw [order, String.toList_ofList, Sl.words_sp _ _ (by decide), Sl.words_sp _ _ (by decide), Sl.words_sp _ _ (by decide)]; exact behind _
theorem facts : joinedFacts Tryz.pinned.checked.prog 4 Tryz.f4 Rows.fnExactStepWalkSpec Rows.fnExactStepWalkRow = true := by
  unfold joinedFacts; rw [Sl.enter_of heads (by kernel_rfl) (by kernel_rfl) (by kernel_rfl), Sl.final_of heads, Sl.made_of heads]; kernel_rfl
theorem over : Rows.fnExactStepWalkRow.holds Tryz.pinned (OpenSpec.ofChange Rows.fnExactStepWalkSpec) :=
  OpenClaim.holds_of_wide 4 Tryz.f4 rfl rfl rfl rfl rfl rfl rfl ⟨rfl, rfl, rfl, rfl, rfl⟩ rfl rfl rfl rfl rfl (by kernel_rfl) Tryz.func4 facts
    (of_decide_eq_true (by kernel_rfl)) (by unfold Func.isWrapper; first | (rw [if_pos (by decide +kernel)]; kernel_rfl) | (rw [if_neg (by decide +kernel)]; exact ⟨rfl, rfl⟩))
    (fun os started H enc _ => lifted os started H enc)
theorem proved : Rows.FnExactStepWalkSaid := over
end fnExactStepWalk
/-- The row, under a short name. -/
theorem fnExactStepWalk_holds : Rows.FnExactStepWalkSaid := fnExactStepWalk.proved
end Go.Proofs.YtifhfodphoeeoaaGreat
