/- Walks: marks of entries and threads. -/
import Derived.Test.YtifhfodphoeeoaaGreatChecked
import Derived.Test.YtifhfodphoeeoaaGreatWkS
import Derived.Test.YtifhfodphoeeoaaGreatFactsB
namespace Go.Proofs.YtifhfodphoeeoaaGreat.Wk
open Go Go.RowKit Sl
set_option linter.unusedVariables false
set_option linter.unusedSimpArgs false
set_option maxRecDepth 20000

def _root_.Go.Proofs.YtifhfodphoeeoaaGreat.Sl.Entry.cnt (x : Sl.Entry) : Nat := 4
def _root_.Go.Proofs.YtifhfodphoeeoaaGreat.Sl.Entry.mark (k : Int) (x : Sl.Entry) : Sl.Entry := ⟨k, k + 1, k + 1 + 1, k + 1 + 1 + 1⟩

def _root_.Go.Proofs.YtifhfodphoeeoaaGreat.Sl.Thread.cnt (x : Sl.Thread) : Nat := 14 + x.found.length + x.free.length + (crow Sl.Entry.cnt x.buffer) + (crow Sl.Entry.cnt x.work) + x.limbo.length
def _root_.Go.Proofs.YtifhfodphoeeoaaGreat.Sl.Thread.mark (k : Int) (x : Sl.Thread) : Sl.Thread := ⟨k, ⟨k + 1, k + 1 + 1, k + 1 + 1 + 1⟩, ⟨k + 1 + 1 + 1 + 1, k + 1 + 1 + 1 + 1 + 1⟩, k + 1 + 1 + 1 + 1 + 1 + 1, k + 1 + 1 + 1 + 1 + 1 + 1 + 1, k + 1 + 1 + 1 + 1 + 1 + 1 + 1 + 1, k + 1 + 1 + 1 + 1 + 1 + 1 + 1 + 1 + 1, k + 1 + 1 + 1 + 1 + 1 + 1 + 1 + 1 + 1 + 1, k + 1 + 1 + 1 + 1 + 1 + 1 + 1 + 1 + 1 + 1 + 1, k + 1 + 1 + 1 + 1 + 1 + 1 + 1 + 1 + 1 + 1 + 1 + 1, k + 1 + 1 + 1 + 1 + 1 + 1 + 1 + 1 + 1 + 1 + 1 + 1 + 1, marks (k + 1 + 1 + 1 + 1 + 1 + 1 + 1 + 1 + 1 + 1 + 1 + 1 + 1 + 1) x.found.length, marks (k + 1 + 1 + 1 + 1 + 1 + 1 + 1 + 1 + 1 + 1 + 1 + 1 + 1 + 1 + (x.found.length : Nat)) x.free.length, mrow Sl.Entry.mark Sl.Entry.cnt (k + 1 + 1 + 1 + 1 + 1 + 1 + 1 + 1 + 1 + 1 + 1 + 1 + 1 + 1 + (x.found.length : Nat) + (x.free.length : Nat)) x.buffer, mrow Sl.Entry.mark Sl.Entry.cnt (k + 1 + 1 + 1 + 1 + 1 + 1 + 1 + 1 + 1 + 1 + 1 + 1 + 1 + 1 + (x.found.length : Nat) + (x.free.length : Nat) + ((crow Sl.Entry.cnt x.buffer) : Nat)) x.work, marks (k + 1 + 1 + 1 + 1 + 1 + 1 + 1 + 1 + 1 + 1 + 1 + 1 + 1 + 1 + (x.found.length : Nat) + (x.free.length : Nat) + ((crow Sl.Entry.cnt x.buffer) : Nat) + ((crow Sl.Entry.cnt x.work) : Nat)) x.limbo.length⟩

set_option maxHeartbeats 4000000 in
set_option maxRecDepth 20000 in
theorem markEntryS_c {W w : World} {l : List Res} {va : Value} {xs : List Sl.Entry} {k0 : Int} (hS : Sep W (Own entryEK va xs :: l) w) (h0 : 0 ≤ k0) (h1 : k0 + crow Sl.Entry.cnt xs < 9223372036854775807) : Calls Tryz.prog 85 #[va, vi k0] w (Ret fun v w' => v = vi (k0 + crow Sl.Entry.cnt xs) ∧ Sep W (Own entryEK va (mrow Sl.Entry.mark Sl.Entry.cnt k0 xs) :: l) w') := by
  refine calls_fr Tryz.func85 rfl Tryz.ntmps85 rfl ?_
  intro a hF
  obtain ⟨A_a, q_a, rfl, hq_a, hn_a⟩ := (hS.own_rd (i := 0) rfl).sl; unfold maxLen at hn_a
  refine ws fun K1 hK1 => ?_
  refine wl_mvs (A := [_]) hF rfl ?_; clear hF a; intro a hF
  refine wl_nil (hK1 _ _ ?_)
  refine wp_seq_k fun K2 hK2 => ?_
  refine ws fun K3 hK3 => ?_
  refine wl_mvs (A := [_]) hF rfl ?_; clear hF a; intro a hF
  refine wl_nil (hK3 _ _ ?_)
  refine wp_block ?_
  replace hS := hS.pull (p := 0) rfl; dsimp only [List.eraseIdx] at hS
  have hL_ := ((hF.nil.keep hF (t := 4) rfl).keep hF (t := 0) rfl)
  refine wp_loop_m (σ := Nat) (fun k L_ => (5, vi k) :: (1, vi (k0 + (crow Sl.Entry.cnt (List.take k xs) : Int))) :: L_) (fun k l_ => (Own entryEK (.slice A_a xs.length q_a) (mrow Sl.Entry.mark Sl.Entry.cnt k0 (xs.take k) ++ xs.drop k)) :: l_) (fun k => (k ≤ xs.length)) (fun k => xs.length - k) 0 ((by rw [show mrow Sl.Entry.mark Sl.Entry.cnt k0 (xs.take 0) ++ xs.drop 0 = xs from by simp [mrow]]; exact hS)) ((hL_.keepE hF (t := 1) rfl (by simp [crow])).keepE hF (t := 5) rfl rfl) ?_ ?_
  · exact Nat.zero_le _
  clear hF hS hL_ a
  rintro k a w1 hk hS hF; try dsimp only at hF; try dsimp only at hS
  refine wp_seq_k fun K4 hK4 => ?_
  refine ws fun K5 hK5 => ?_
  refine wl_mvs (A := [_, _]) hF rfl ?_; clear hF a; intro a hF
  refine wl hF rfl rfl rfl (r_len ul51 (hF.ev rfl)) ?_; clear hF a; intro a hF
  refine wl hF rfl rfl rfl (r_lss (hF.ev rfl) (hF.ev rfl)) ?_; clear hF a; intro a hF
  refine wl_nil (hK5 _ _ ?_)
  refine wc_fx (t := 9) hF rfl ?_ ?_ <;> clear hF <;> intro c9 hF <;> try simp only [zb1, zb2, zb3, zb4, zb5, zb6, zb7, zb8] at c9
  ·
    have hlt : k < xs.length := by omega
    have hx := at0_nat hlt
    have hc1 := crow_le1 (c := Sl.Entry.cnt) hx
    have hc2 := crow_next (c := Sl.Entry.cnt) hx
    simp only [Sl.Entry.cnt] at hc1 hc2
    obtain ⟨vs, hS_⟩ := hS.borrow (q := 0) rfl (mix_at k0 hx); replace hS := hS_.part_open; clear hS_; dsimp only [List.set] at hS
    obtain ⟨gb, ob, qb, hvb, hlb⟩ := hS.but_sl (q := 0) rfl
    simp only [Value.slice.injEq] at hvb; obtain ⟨rfl, hlen_, rfl⟩ := hvb
    replace hS : Sep W (OwnBut entryEK _ _ k (entryEK.cells _ vs) :: _) _ := hS
    generalize hK : (k0 + (crow Sl.Entry.cnt (List.take k xs) : Int)) = K at hF
    refine wp_skip ?_
    refine hK4 _ _ ?_
    refine wp_seq_k fun K6 hK6 => ?_
    refine wp_block ?_
    refine ws fun K7 hK7 => ?_
    refine wl_mvs (A := [_, _, _]) hF rfl ?_; clear hF a; intro a hF
    refine wl hF rfl rfl rfl (r_index sl51 (hF.ev rfl) (hF.ev rfl) (by omega) (by omega)) ?_; clear hF a; intro a hF
    refine wl hF rfl rfl rfl (r_field fo100_0 (hF.ev rfl)) ?_; clear hF a; intro a hF
    refine wl_bstore (q := 0) (j := 0) hF hS rfl sz3 (hF.ev rfl) rfl (hF.ev rfl) rfl rfl ?_; intro w2 hS_; replace hS := hS_; clear hS_; dsimp only [List.set] at hS
    refine wl_nil (hK7 _ _ ?_)
    refine ws fun K8 hK8 => ?_
    refine wl_mvs (A := [_]) hF rfl ?_; clear hF a; intro a hF
    refine wl hF rfl rfl rfl (r_add (hF.ev rfl) ec) ?_; clear hF a; intro a hF
    rw [w64_id (q := K + 1) (by omega) (by omega)] at hF
    refine wl_mvs (A := [_]) hF rfl ?_; clear hF a; intro a hF
    refine wl_nil (hK8 _ _ ?_)
    refine ws fun K9 hK9 => ?_
    refine wl_mvs (A := [_, _, _]) hF rfl ?_; clear hF a; intro a hF
    refine wl hF rfl rfl rfl (r_index sl51 (hF.ev rfl) (hF.ev rfl) (by omega) (by omega)) ?_; clear hF a; intro a hF
    refine wl hF rfl rfl rfl (r_field fo100_1 (hF.ev rfl)) ?_; clear hF a; intro a hF
    refine wl_bstore (q := 0) (j := 1) hF hS rfl sz3 (hF.ev rfl) rfl (hF.ev rfl) rfl rfl ?_; intro w3 hS_; replace hS := hS_; clear hS_; dsimp only [List.set] at hS
    refine wl_nil (hK9 _ _ ?_)
    refine ws fun K10 hK10 => ?_
    refine wl_mvs (A := [_]) hF rfl ?_; clear hF a; intro a hF
    refine wl hF rfl rfl rfl (r_add (hF.ev rfl) ec) ?_; clear hF a; intro a hF
    rw [w64_id (q := K + 1 + 1) (by omega) (by omega)] at hF
    refine wl_mvs (A := [_]) hF rfl ?_; clear hF a; intro a hF
    refine wl_nil (hK10 _ _ ?_)
    refine ws fun K11 hK11 => ?_
    refine wl_mvs (A := [_, _, _]) hF rfl ?_; clear hF a; intro a hF
    refine wl hF rfl rfl rfl (r_index sl51 (hF.ev rfl) (hF.ev rfl) (by omega) (by omega)) ?_; clear hF a; intro a hF
    refine wl hF rfl rfl rfl (r_field fo100_2 (hF.ev rfl)) ?_; clear hF a; intro a hF
    refine wl_bstore (q := 0) (j := 2) hF hS rfl sz3 (hF.ev rfl) rfl (hF.ev rfl) rfl rfl ?_; intro w4 hS_; replace hS := hS_; clear hS_; dsimp only [List.set] at hS
    refine wl_nil (hK11 _ _ ?_)
    refine ws fun K12 hK12 => ?_
    refine wl_mvs (A := [_]) hF rfl ?_; clear hF a; intro a hF
    refine wl hF rfl rfl rfl (r_add (hF.ev rfl) ec) ?_; clear hF a; intro a hF
    rw [w64_id (q := K + 1 + 1 + 1) (by omega) (by omega)] at hF
    refine wl_mvs (A := [_]) hF rfl ?_; clear hF a; intro a hF
    refine wl_nil (hK12 _ _ ?_)
    refine ws fun K13 hK13 => ?_
    refine wl_mvs (A := [_, _, _]) hF rfl ?_; clear hF a; intro a hF
    refine wl hF rfl rfl rfl (r_index sl51 (hF.ev rfl) (hF.ev rfl) (by omega) (by omega)) ?_; clear hF a; intro a hF
    refine wl hF rfl rfl rfl (r_field fo100_3 (hF.ev rfl)) ?_; clear hF a; intro a hF
    refine wl_bstore (q := 0) (j := 3) hF hS rfl sz3 (hF.ev rfl) rfl (hF.ev rfl) rfl rfl ?_; intro w5 hS_; replace hS := hS_; clear hS_; dsimp only [List.set] at hS
    refine wl_nil (hK13 _ _ ?_)
    refine wp_region_lit ?_
    refine wl_mvs (A := [_]) hF rfl ?_; clear hF a; intro a hF
    refine wl hF rfl rfl rfl (r_add (hF.ev rfl) ec) ?_; clear hF a; intro a hF
    rw [w64_id (q := K + 1 + 1 + 1 + 1) (by omega) (by omega)] at hF
    refine wl_mvs (A := [_]) hF rfl ?_; clear hF a; intro a hF
    refine wl_nil ?_
    simp only [Exit.then, Exit.inBlock, ↓reduceIte]
    refine hK6 _ _ ?_
    refine wp_region_lit ?_
    refine wl_mvs (A := [_]) hF rfl ?_; clear hF a; intro a hF
    refine wl hF rfl rfl rfl (r_add (hF.ev rfl) ec) ?_; clear hF a; intro a hF
    refine wl_mvs (A := [_]) hF rfl ?_; clear hF a; intro a hF
    refine wl_nil ?_
    try simp only [Exit.then, Exit.inBlock, ↓reduceIte]
    subst hK
    replace hS := (hS.part_mk (ek := entryEK) (x := Sl.Entry.mark (k0 + (crow Sl.Entry.cnt (List.take k xs) : Int)) (at0 xs (k : Int))) (vs := vs) (l := OwnBut entryEK _ _ k _ :: l) rfl).giveback (q := 0) rfl rfl
    dsimp only [List.set] at hS; rw [mix_set k0 hx] at hS
    refine ⟨k + 1, (by omega), hS, ((((hF.nil.keep hF (t := 4) rfl).keep hF (t := 0) rfl).keepE hF (t := 1) rfl (by rw [hc2]; congr 1; omega)).keepE hF (t := 5) rfl (wk (by omega))), by omega⟩
  refine wp_exit ?_
  simp only [Exit.then, Exit.inBlock, ↓reduceIte]
  refine hK2 _ _ ?_
  refine ws fun K14 hK14 => ?_
  refine wl_mvs (A := [_, _]) hF rfl ?_; clear hF a; intro a hF
  refine wl_nil (hK14 _ _ ?_)
  refine wp_ret ?_
  try simp only [Exit.then, Exit.inBlock, ↓reduceIte]
  obtain rfl : k = xs.length := by omega
  rw [List.take_length] at hF hS
  refine ret1 rfl hF rfl ⟨rfl, ?_⟩
  rw [List.drop_length, List.append_nil] at hS; exact hS

set_option maxHeartbeats 4000000 in
set_option maxRecDepth 20000 in
theorem heldEntryS_c {W : World} {va : Value} {xs : List Sl.Entry} {k0 : Int} (ha : entryEK.Rd W va (mrow Sl.Entry.mark Sl.Entry.cnt k0 xs)) (h0 : 0 ≤ k0) (h1 : k0 + crow Sl.Entry.cnt xs < 9223372036854775807) : Calls Tryz.prog 86 #[va, vi k0] W (Ret fun v w' => v = vi (k0 + crow Sl.Entry.cnt xs) ∧ Below W.heap.size W w') := by
  refine calls_fr Tryz.func86 rfl Tryz.ntmps86 rfl ?_
  intro a hF
  obtain ⟨A_a, q_a, rfl, hq_a, hn_a⟩ := ha.sl; unfold maxLen at hn_a
  rw [mrow_length] at hq_a hn_a
  have hS := Sep.refl W
  refine ws fun K1 hK1 => ?_
  refine wl_mvs (A := [_]) hF rfl ?_; clear hF a; intro a hF
  refine wl_nil (hK1 _ _ ?_)
  refine wp_seq_k fun K2 hK2 => ?_
  refine ws fun K3 hK3 => ?_
  refine wl_mvs (A := [_]) hF rfl ?_; clear hF a; intro a hF
  refine wl_nil (hK3 _ _ ?_)
  refine wp_block ?_
  have hL_ := ((hF.nil.keep hF (t := 4) rfl).keep hF (t := 0) rfl)
  refine wp_loop_r (σ := Nat) (fun k L_ => (5, vi k) :: (1, vi (k0 + (crow Sl.Entry.cnt (List.take k xs) : Int))) :: L_) (fun k => (k ≤ xs.length)) (fun k => xs.length - k) 0 hS ((hL_.keepE hF (t := 1) rfl (by simp [crow])).keepE hF (t := 5) rfl rfl) ?_ ?_
  · exact Nat.zero_le _
  clear hF hS hL_ a
  rintro k a w1 hk hS hF; try dsimp only at hF; try dsimp only at hS
  refine wp_seq_k fun K4 hK4 => ?_
  refine ws fun K5 hK5 => ?_
  refine wl_mvs (A := [_, _]) hF rfl ?_; clear hF a; intro a hF
  refine wl hF rfl rfl rfl (r_len ul51 (hF.ev rfl)) ?_; clear hF a; intro a hF
  refine wl hF rfl rfl rfl (r_lss (hF.ev rfl) (hF.ev rfl)) ?_; clear hF a; intro a hF
  refine wl_nil (hK5 _ _ ?_)
  refine wc_fx (t := 9) hF rfl ?_ ?_ <;> clear hF <;> intro c9 hF <;> try simp only [zb1, zb2, zb3, zb4, zb5, zb6, zb7, zb8] at c9
  ·
    rw [mrow_length] at c9
    have hlt : k < xs.length := by omega
    have hx := at0_nat hlt
    have hc1 := crow_le1 (c := Sl.Entry.cnt) hx
    have hc2 := crow_next (c := Sl.Entry.cnt) hx
    simp only [Sl.Entry.cnt] at hc1 hc2
    have hmx := mrow_at (f := Sl.Entry.mark) (c := Sl.Entry.cnt) k0 hx
    generalize hK : (k0 + (crow Sl.Entry.cnt (List.take k xs) : Int)) = K at hF hmx
    have hlm : k < (mrow Sl.Entry.mark Sl.Entry.cnt k0 xs).length := by rw [mrow_length]; omega
    refine wp_skip ?_
    refine hK4 _ _ ?_
    refine wp_seq_k fun K6 hK6 => ?_
    refine wp_block ?_
    refine wp_seq_k fun K7 hK7 => ?_
    refine ws fun K8 hK8 => ?_
    refine wl_mvs (A := [_, _]) hF rfl ?_; clear hF a; intro a hF
    obtain ⟨g14, o14, m14, q14, hv14, hm14, hl14, hc14⟩ := Rd.idxF (hS.rd ha) hmx
    refine wl hF rfl rfl rfl (r_index sl51 ((hF.ev rfl).trans hv14) (hF.ev rfl) (by omega) (by omega)) ?_; clear hF a; intro a hF
    refine wl hF rfl rfl rfl (r_field fo100_0 (hF.ev rfl)) ?_; clear hF a; intro a hF
    refine wl hF rfl rfl rfl (r_load1 sc3 (hF.ev rfl) (hc14 0 _ rfl)) ?_; clear hF a; intro a hF
    refine wl_mvs (A := [_]) hF rfl ?_; clear hF a; intro a hF
    refine wl hF rfl rfl rfl (r_neq (hF.ev rfl) (hF.ev rfl)) ?_; clear hF a; intro a hF
    refine wl_nil (hK8 _ _ ?_)
    refine wc_fx (t := 18) hF rfl ?_ ?_ <;> clear hF <;> intro c18 hF <;> try simp only [zb1, zb2, zb3, zb4, zb5, zb6, zb7, zb8] at c18
    ·
      exfalso; first | exact (c18 rfl).elim | omega
    clear c18 hv14 hm14 hl14 hc14
    refine wp_skip ?_
    refine hK7 _ _ ?_
    refine ws fun K9 hK9 => ?_
    refine wl_mvs (A := [_]) hF rfl ?_; clear hF a; intro a hF
    refine wl hF rfl rfl rfl (r_add (hF.ev rfl) ec) ?_; clear hF a; intro a hF
    rw [w64_id (q := K + 1) (by omega) (by omega)] at hF
    refine wl_mvs (A := [_]) hF rfl ?_; clear hF a; intro a hF
    refine wl_nil (hK9 _ _ ?_)
    refine wp_seq_k fun K10 hK10 => ?_
    refine ws fun K11 hK11 => ?_
    refine wl_mvs (A := [_, _]) hF rfl ?_; clear hF a; intro a hF
    obtain ⟨g23, o23, m23, q23, hv23, hm23, hl23, hc23⟩ := Rd.idxF (hS.rd ha) hmx
    refine wl hF rfl rfl rfl (r_index sl51 ((hF.ev rfl).trans hv23) (hF.ev rfl) (by omega) (by omega)) ?_; clear hF a; intro a hF
    refine wl hF rfl rfl rfl (r_field fo100_1 (hF.ev rfl)) ?_; clear hF a; intro a hF
    refine wl hF rfl rfl rfl (r_load1 sc3 (hF.ev rfl) (hc23 1 _ rfl)) ?_; clear hF a; intro a hF
    refine wl_mvs (A := [_]) hF rfl ?_; clear hF a; intro a hF
    refine wl hF rfl rfl rfl (r_neq (hF.ev rfl) (hF.ev rfl)) ?_; clear hF a; intro a hF
    refine wl_nil (hK11 _ _ ?_)
    refine wc_fx (t := 27) hF rfl ?_ ?_ <;> clear hF <;> intro c27 hF <;> try simp only [zb1, zb2, zb3, zb4, zb5, zb6, zb7, zb8] at c27
    ·
      exfalso; first | exact (c27 rfl).elim | omega
    clear c27 hv23 hm23 hl23 hc23
    refine wp_skip ?_
    refine hK10 _ _ ?_
    refine ws fun K12 hK12 => ?_
    refine wl_mvs (A := [_]) hF rfl ?_; clear hF a; intro a hF
    refine wl hF rfl rfl rfl (r_add (hF.ev rfl) ec) ?_; clear hF a; intro a hF
    rw [w64_id (q := K + 1 + 1) (by omega) (by omega)] at hF
    refine wl_mvs (A := [_]) hF rfl ?_; clear hF a; intro a hF
    refine wl_nil (hK12 _ _ ?_)
    refine wp_seq_k fun K13 hK13 => ?_
    refine ws fun K14 hK14 => ?_
    refine wl_mvs (A := [_, _]) hF rfl ?_; clear hF a; intro a hF
    obtain ⟨g32, o32, m32, q32, hv32, hm32, hl32, hc32⟩ := Rd.idxF (hS.rd ha) hmx
    refine wl hF rfl rfl rfl (r_index sl51 ((hF.ev rfl).trans hv32) (hF.ev rfl) (by omega) (by omega)) ?_; clear hF a; intro a hF
    refine wl hF rfl rfl rfl (r_field fo100_2 (hF.ev rfl)) ?_; clear hF a; intro a hF
    refine wl hF rfl rfl rfl (r_load1 sc3 (hF.ev rfl) (hc32 2 _ rfl)) ?_; clear hF a; intro a hF
    refine wl_mvs (A := [_]) hF rfl ?_; clear hF a; intro a hF
    refine wl hF rfl rfl rfl (r_neq (hF.ev rfl) (hF.ev rfl)) ?_; clear hF a; intro a hF
    refine wl_nil (hK14 _ _ ?_)
    refine wc_fx (t := 36) hF rfl ?_ ?_ <;> clear hF <;> intro c36 hF <;> try simp only [zb1, zb2, zb3, zb4, zb5, zb6, zb7, zb8] at c36
    ·
      exfalso; first | exact (c36 rfl).elim | omega
    clear c36 hv32 hm32 hl32 hc32
    refine wp_skip ?_
    refine hK13 _ _ ?_
    refine ws fun K15 hK15 => ?_
    refine wl_mvs (A := [_]) hF rfl ?_; clear hF a; intro a hF
    refine wl hF rfl rfl rfl (r_add (hF.ev rfl) ec) ?_; clear hF a; intro a hF
    rw [w64_id (q := K + 1 + 1 + 1) (by omega) (by omega)] at hF
    refine wl_mvs (A := [_]) hF rfl ?_; clear hF a; intro a hF
    refine wl_nil (hK15 _ _ ?_)
    refine wp_seq_k fun K16 hK16 => ?_
    refine ws fun K17 hK17 => ?_
    refine wl_mvs (A := [_, _]) hF rfl ?_; clear hF a; intro a hF
    obtain ⟨g41, o41, m41, q41, hv41, hm41, hl41, hc41⟩ := Rd.idxF (hS.rd ha) hmx
    refine wl hF rfl rfl rfl (r_index sl51 ((hF.ev rfl).trans hv41) (hF.ev rfl) (by omega) (by omega)) ?_; clear hF a; intro a hF
    refine wl hF rfl rfl rfl (r_field fo100_3 (hF.ev rfl)) ?_; clear hF a; intro a hF
    refine wl hF rfl rfl rfl (r_load1 sc3 (hF.ev rfl) (hc41 3 _ rfl)) ?_; clear hF a; intro a hF
    refine wl_mvs (A := [_]) hF rfl ?_; clear hF a; intro a hF
    refine wl hF rfl rfl rfl (r_neq (hF.ev rfl) (hF.ev rfl)) ?_; clear hF a; intro a hF
    refine wl_nil (hK17 _ _ ?_)
    refine wc_fx (t := 45) hF rfl ?_ ?_ <;> clear hF <;> intro c45 hF <;> try simp only [zb1, zb2, zb3, zb4, zb5, zb6, zb7, zb8] at c45
    ·
      exfalso; first | exact (c45 rfl).elim | omega
    clear c45 hv41 hm41 hl41 hc41
    refine wp_skip ?_
    refine hK16 _ _ ?_
    refine wp_region_lit ?_
    refine wl_mvs (A := [_]) hF rfl ?_; clear hF a; intro a hF
    refine wl hF rfl rfl rfl (r_add (hF.ev rfl) ec) ?_; clear hF a; intro a hF
    rw [w64_id (q := K + 1 + 1 + 1 + 1) (by omega) (by omega)] at hF
    refine wl_mvs (A := [_]) hF rfl ?_; clear hF a; intro a hF
    refine wl_nil ?_
    simp only [Exit.then, Exit.inBlock, ↓reduceIte]
    refine hK6 _ _ ?_
    refine wp_region_lit ?_
    refine wl_mvs (A := [_]) hF rfl ?_; clear hF a; intro a hF
    refine wl hF rfl rfl rfl (r_add (hF.ev rfl) ec) ?_; clear hF a; intro a hF
    refine wl_mvs (A := [_]) hF rfl ?_; clear hF a; intro a hF
    refine wl_nil ?_
    try simp only [Exit.then, Exit.inBlock, ↓reduceIte]
    refine ⟨k + 1, (by omega), hS, ((((hF.nil.keep hF (t := 4) rfl).keep hF (t := 0) rfl).keepE hF (t := 1) rfl (by rw [hc2]; congr 1; omega)).keepE hF (t := 5) rfl (wk (by omega))), by omega⟩
  rw [mrow_length] at c9
  refine wp_exit ?_
  simp only [Exit.then, Exit.inBlock, ↓reduceIte]
  refine hK2 _ _ ?_
  refine ws fun K18 hK18 => ?_
  refine wl_mvs (A := [_, _]) hF rfl ?_; clear hF a; intro a hF
  refine wl_nil (hK18 _ _ ?_)
  refine wp_ret ?_
  try simp only [Exit.then, Exit.inBlock, ↓reduceIte]
  obtain rfl : k = xs.length := by omega
  rw [List.take_length] at hF
  exact ret1 rfl hF rfl ⟨rfl, hS.old⟩

set_option maxHeartbeats 4000000 in
set_option maxRecDepth 20000 in
theorem markThreadS_c {W w : World} {l : List Res} {va : Value} {xs : List Sl.Thread} {k0 : Int} (hS : Sep W (Own threadEK va xs :: l) w) (h0 : 0 ≤ k0) (h1 : k0 + crow Sl.Thread.cnt xs < 9223372036854775807) : Calls Tryz.prog 43 #[va, vi k0] w (Ret fun v w' => v = vi (k0 + crow Sl.Thread.cnt xs) ∧ Sep W (Own threadEK va (mrow Sl.Thread.mark Sl.Thread.cnt k0 xs) :: l) w') := by
  refine calls_fr Tryz.func43 rfl Tryz.ntmps43 rfl ?_
  intro a hF
  obtain ⟨A_a, q_a, rfl, hq_a, hn_a⟩ := (hS.own_rd (i := 0) rfl).sl; unfold maxLen at hn_a
  refine ws fun K1 hK1 => ?_
  refine wl_mvs (A := [_]) hF rfl ?_; clear hF a; intro a hF
  refine wl_nil (hK1 _ _ ?_)
  refine wp_seq_k fun K2 hK2 => ?_
  refine ws fun K3 hK3 => ?_
  refine wl_mvs (A := [_]) hF rfl ?_; clear hF a; intro a hF
  refine wl_nil (hK3 _ _ ?_)
  refine wp_block ?_
  replace hS := hS.pull (p := 0) rfl; dsimp only [List.eraseIdx] at hS
  have hL_ := ((hF.nil.keep hF (t := 4) rfl).keep hF (t := 0) rfl)
  refine wp_loop_m (σ := Nat) (fun k L_ => (5, vi k) :: (1, vi (k0 + (crow Sl.Thread.cnt (List.take k xs) : Int))) :: L_) (fun k l_ => (Own threadEK (.slice A_a xs.length q_a) (mrow Sl.Thread.mark Sl.Thread.cnt k0 (xs.take k) ++ xs.drop k)) :: l_) (fun k => (k ≤ xs.length)) (fun k => xs.length - k) 0 ((by rw [show mrow Sl.Thread.mark Sl.Thread.cnt k0 (xs.take 0) ++ xs.drop 0 = xs from by simp [mrow]]; exact hS)) ((hL_.keepE hF (t := 1) rfl (by simp [crow])).keepE hF (t := 5) rfl rfl) ?_ ?_
  · exact Nat.zero_le _
  clear hF hS hL_ a
  rintro k a w1 hk hS hF; try dsimp only at hF; try dsimp only at hS
  refine wp_seq_k fun K4 hK4 => ?_
  refine ws fun K5 hK5 => ?_
  refine wl_mvs (A := [_, _]) hF rfl ?_; clear hF a; intro a hF
  refine wl hF rfl rfl rfl (r_len ul30 (hF.ev rfl)) ?_; clear hF a; intro a hF
  refine wl hF rfl rfl rfl (r_lss (hF.ev rfl) (hF.ev rfl)) ?_; clear hF a; intro a hF
  refine wl_nil (hK5 _ _ ?_)
  refine wc_fx (t := 9) hF rfl ?_ ?_ <;> clear hF <;> intro c9 hF <;> try simp only [zb1, zb2, zb3, zb4, zb5, zb6, zb7, zb8] at c9
  ·
    have hlt : k < xs.length := by omega
    have hx := at0_nat hlt
    have hc1 := crow_le1 (c := Sl.Thread.cnt) hx
    have hc2 := crow_next (c := Sl.Thread.cnt) hx
    simp only [Sl.Thread.cnt] at hc1 hc2
    obtain ⟨vs, hS_⟩ := hS.borrow (q := 0) rfl (mix_at k0 hx); replace hS := hS_.part_open; clear hS_; dsimp only [List.set] at hS
    obtain ⟨gb, ob, qb, hvb, hlb⟩ := hS.but_sl (q := 5) rfl
    simp only [Value.slice.injEq] at hvb; obtain ⟨rfl, hlen_, rfl⟩ := hvb
    replace hS : Sep W (Own intEK (sv (vs.getD 0 (none, 0, 0))) _ :: Own intEK (sv (vs.getD 1 (none, 0, 0))) _ :: Own entryEK (sv (vs.getD 2 (none, 0, 0))) _ :: Own entryEK (sv (vs.getD 3 (none, 0, 0))) _ :: Own intEK (sv (vs.getD 4 (none, 0, 0))) _ :: OwnBut threadEK _ _ k (threadEK.cells _ vs) :: _) _ := hS
    generalize hK : (k0 + (crow Sl.Thread.cnt (List.take k xs) : Int)) = K at hF
    refine wp_skip ?_
    refine hK4 _ _ ?_
    refine wp_seq_k fun K6 hK6 => ?_
    refine wp_block ?_
    refine ws fun K7 hK7 => ?_
    refine wl_mvs (A := [_, _, _]) hF rfl ?_; clear hF a; intro a hF
    refine wl hF rfl rfl rfl (r_index sl30 (hF.ev rfl) (hF.ev rfl) (by omega) (by omega)) ?_; clear hF a; intro a hF
    refine wl hF rfl rfl rfl (r_field fo53_0 (hF.ev rfl)) ?_; clear hF a; intro a hF
    refine wl_bstore (q := 5) (j := 0) hF hS rfl sz3 (hF.ev rfl) rfl (hF.ev rfl) rfl rfl ?_; intro w2 hS_; replace hS := hS_; clear hS_; dsimp only [List.set] at hS
    refine wl_nil (hK7 _ _ ?_)
    refine ws fun K8 hK8 => ?_
    refine wl_mvs (A := [_]) hF rfl ?_; clear hF a; intro a hF
    refine wl hF rfl rfl rfl (r_add (hF.ev rfl) ec) ?_; clear hF a; intro a hF
    rw [w64_id (q := K + 1) (by omega) (by omega)] at hF
    refine wl_mvs (A := [_]) hF rfl ?_; clear hF a; intro a hF
    refine wl_nil (hK8 _ _ ?_)
    refine ws fun K9 hK9 => ?_
    refine wl_mvs (A := [_, _, _]) hF rfl ?_; clear hF a; intro a hF
    refine wl hF rfl rfl rfl (r_index sl30 (hF.ev rfl) (hF.ev rfl) (by omega) (by omega)) ?_; clear hF a; intro a hF
    refine wl hF rfl rfl rfl (r_field fo53_1 (hF.ev rfl)) ?_; clear hF a; intro a hF
    refine wl hF rfl rfl rfl (r_field fo48_0 (hF.ev rfl)) ?_; clear hF a; intro a hF
    refine wl_bstore (q := 5) (j := 1) hF hS rfl sz3 (hF.ev rfl) rfl (hF.ev rfl) rfl rfl ?_; intro w3 hS_; replace hS := hS_; clear hS_; dsimp only [List.set] at hS
    refine wl_nil (hK9 _ _ ?_)
    refine ws fun K10 hK10 => ?_
    refine wl_mvs (A := [_]) hF rfl ?_; clear hF a; intro a hF
    refine wl hF rfl rfl rfl (r_add (hF.ev rfl) ec) ?_; clear hF a; intro a hF
    rw [w64_id (q := K + 1 + 1) (by omega) (by omega)] at hF
    refine wl_mvs (A := [_]) hF rfl ?_; clear hF a; intro a hF
    refine wl_nil (hK10 _ _ ?_)
    refine ws fun K11 hK11 => ?_
    refine wl_mvs (A := [_, _, _]) hF rfl ?_; clear hF a; intro a hF
    refine wl hF rfl rfl rfl (r_index sl30 (hF.ev rfl) (hF.ev rfl) (by omega) (by omega)) ?_; clear hF a; intro a hF
    refine wl hF rfl rfl rfl (r_field fo53_1 (hF.ev rfl)) ?_; clear hF a; intro a hF
    refine wl hF rfl rfl rfl (r_field fo48_1 (hF.ev rfl)) ?_; clear hF a; intro a hF
    refine wl_bstore (q := 5) (j := 2) hF hS rfl sz3 (hF.ev rfl) rfl (hF.ev rfl) rfl rfl ?_; intro w4 hS_; replace hS := hS_; clear hS_; dsimp only [List.set] at hS
    refine wl_nil (hK11 _ _ ?_)
    refine ws fun K12 hK12 => ?_
    refine wl_mvs (A := [_]) hF rfl ?_; clear hF a; intro a hF
    refine wl hF rfl rfl rfl (r_add (hF.ev rfl) ec) ?_; clear hF a; intro a hF
    rw [w64_id (q := K + 1 + 1 + 1) (by omega) (by omega)] at hF
    refine wl_mvs (A := [_]) hF rfl ?_; clear hF a; intro a hF
    refine wl_nil (hK12 _ _ ?_)
    refine ws fun K13 hK13 => ?_
    refine wl_mvs (A := [_, _, _]) hF rfl ?_; clear hF a; intro a hF
    refine wl hF rfl rfl rfl (r_index sl30 (hF.ev rfl) (hF.ev rfl) (by omega) (by omega)) ?_; clear hF a; intro a hF
    refine wl hF rfl rfl rfl (r_field fo53_1 (hF.ev rfl)) ?_; clear hF a; intro a hF
    refine wl hF rfl rfl rfl (r_field fo48_2 (hF.ev rfl)) ?_; clear hF a; intro a hF
    refine wl_bstore (q := 5) (j := 3) hF hS rfl sz3 (hF.ev rfl) rfl (hF.ev rfl) rfl rfl ?_; intro w5 hS_; replace hS := hS_; clear hS_; dsimp only [List.set] at hS
    refine wl_nil (hK13 _ _ ?_)
    refine ws fun K14 hK14 => ?_
    refine wl_mvs (A := [_]) hF rfl ?_; clear hF a; intro a hF
    refine wl hF rfl rfl rfl (r_add (hF.ev rfl) ec) ?_; clear hF a; intro a hF
    rw [w64_id (q := K + 1 + 1 + 1 + 1) (by omega) (by omega)] at hF
    refine wl_mvs (A := [_]) hF rfl ?_; clear hF a; intro a hF
    refine wl_nil (hK14 _ _ ?_)
    refine ws fun K15 hK15 => ?_
    refine wl_mvs (A := [_, _, _]) hF rfl ?_; clear hF a; intro a hF
    refine wl hF rfl rfl rfl (r_index sl30 (hF.ev rfl) (hF.ev rfl) (by omega) (by omega)) ?_; clear hF a; intro a hF
    refine wl hF rfl rfl rfl (r_field fo53_2 (hF.ev rfl)) ?_; clear hF a; intro a hF
    refine wl hF rfl rfl rfl (r_field fo50_0 (hF.ev rfl)) ?_; clear hF a; intro a hF
    refine wl_bstore (q := 5) (j := 4) hF hS rfl sz3 (hF.ev rfl) rfl (hF.ev rfl) rfl rfl ?_; intro w6 hS_; replace hS := hS_; clear hS_; dsimp only [List.set] at hS
    refine wl_nil (hK15 _ _ ?_)
    refine ws fun K16 hK16 => ?_
    refine wl_mvs (A := [_]) hF rfl ?_; clear hF a; intro a hF
    refine wl hF rfl rfl rfl (r_add (hF.ev rfl) ec) ?_; clear hF a; intro a hF
    rw [w64_id (q := K + 1 + 1 + 1 + 1 + 1) (by omega) (by omega)] at hF
    refine wl_mvs (A := [_]) hF rfl ?_; clear hF a; intro a hF
    refine wl_nil (hK16 _ _ ?_)
    refine ws fun K17 hK17 => ?_
    refine wl_mvs (A := [_, _, _]) hF rfl ?_; clear hF a; intro a hF
    refine wl hF rfl rfl rfl (r_index sl30 (hF.ev rfl) (hF.ev rfl) (by omega) (by omega)) ?_; clear hF a; intro a hF
    refine wl hF rfl rfl rfl (r_field fo53_2 (hF.ev rfl)) ?_; clear hF a; intro a hF
    refine wl hF rfl rfl rfl (r_field fo50_1 (hF.ev rfl)) ?_; clear hF a; intro a hF
    refine wl_bstore (q := 5) (j := 5) hF hS rfl sz3 (hF.ev rfl) rfl (hF.ev rfl) rfl rfl ?_; intro w7 hS_; replace hS := hS_; clear hS_; dsimp only [List.set] at hS
    refine wl_nil (hK17 _ _ ?_)
    refine ws fun K18 hK18 => ?_
    refine wl_mvs (A := [_]) hF rfl ?_; clear hF a; intro a hF
    refine wl hF rfl rfl rfl (r_add (hF.ev rfl) ec) ?_; clear hF a; intro a hF
    rw [w64_id (q := K + 1 + 1 + 1 + 1 + 1 + 1) (by omega) (by omega)] at hF
    refine wl_mvs (A := [_]) hF rfl ?_; clear hF a; intro a hF
    refine wl_nil (hK18 _ _ ?_)
    refine ws fun K19 hK19 => ?_
    refine wl_mvs (A := [_, _, _]) hF rfl ?_; clear hF a; intro a hF
    refine wl hF rfl rfl rfl (r_index sl30 (hF.ev rfl) (hF.ev rfl) (by omega) (by omega)) ?_; clear hF a; intro a hF
    refine wl hF rfl rfl rfl (r_field fo53_3 (hF.ev rfl)) ?_; clear hF a; intro a hF
    refine wl_bstore (q := 5) (j := 6) hF hS rfl sz3 (hF.ev rfl) rfl (hF.ev rfl) rfl rfl ?_; intro w8 hS_; replace hS := hS_; clear hS_; dsimp only [List.set] at hS
    refine wl_nil (hK19 _ _ ?_)
    refine ws fun K20 hK20 => ?_
    refine wl_mvs (A := [_]) hF rfl ?_; clear hF a; intro a hF
    refine wl hF rfl rfl rfl (r_add (hF.ev rfl) ec) ?_; clear hF a; intro a hF
    rw [w64_id (q := K + 1 + 1 + 1 + 1 + 1 + 1 + 1) (by omega) (by omega)] at hF
    refine wl_mvs (A := [_]) hF rfl ?_; clear hF a; intro a hF
    refine wl_nil (hK20 _ _ ?_)
    refine ws fun K21 hK21 => ?_
    refine wl_mvs (A := [_, _, _]) hF rfl ?_; clear hF a; intro a hF
    refine wl hF rfl rfl rfl (r_index sl30 (hF.ev rfl) (hF.ev rfl) (by omega) (by omega)) ?_; clear hF a; intro a hF
    refine wl hF rfl rfl rfl (r_field fo53_4 (hF.ev rfl)) ?_; clear hF a; intro a hF
    refine wl_bstore (q := 5) (j := 7) hF hS rfl sz3 (hF.ev rfl) rfl (hF.ev rfl) rfl rfl ?_; intro w9 hS_; replace hS := hS_; clear hS_; dsimp only [List.set] at hS
    refine wl_nil (hK21 _ _ ?_)
    refine ws fun K22 hK22 => ?_
    refine wl_mvs (A := [_]) hF rfl ?_; clear hF a; intro a hF
    refine wl hF rfl rfl rfl (r_add (hF.ev rfl) ec) ?_; clear hF a; intro a hF
    rw [w64_id (q := K + 1 + 1 + 1 + 1 + 1 + 1 + 1 + 1) (by omega) (by omega)] at hF
    refine wl_mvs (A := [_]) hF rfl ?_; clear hF a; intro a hF
    refine wl_nil (hK22 _ _ ?_)
    refine ws fun K23 hK23 => ?_
    refine wl_mvs (A := [_, _, _]) hF rfl ?_; clear hF a; intro a hF
    refine wl hF rfl rfl rfl (r_index sl30 (hF.ev rfl) (hF.ev rfl) (by omega) (by omega)) ?_; clear hF a; intro a hF
    refine wl hF rfl rfl rfl (r_field fo53_5 (hF.ev rfl)) ?_; clear hF a; intro a hF
    refine wl_bstore (q := 5) (j := 8) hF hS rfl sz3 (hF.ev rfl) rfl (hF.ev rfl) rfl rfl ?_; intro w10 hS_; replace hS := hS_; clear hS_; dsimp only [List.set] at hS
    refine wl_nil (hK23 _ _ ?_)
    refine ws fun K24 hK24 => ?_
    refine wl_mvs (A := [_]) hF rfl ?_; clear hF a; intro a hF
    refine wl hF rfl rfl rfl (r_add (hF.ev rfl) ec) ?_; clear hF a; intro a hF
    rw [w64_id (q := K + 1 + 1 + 1 + 1 + 1 + 1 + 1 + 1 + 1) (by omega) (by omega)] at hF
    refine wl_mvs (A := [_]) hF rfl ?_; clear hF a; intro a hF
    refine wl_nil (hK24 _ _ ?_)
    refine ws fun K25 hK25 => ?_
    refine wl_mvs (A := [_, _, _]) hF rfl ?_; clear hF a; intro a hF
    refine wl hF rfl rfl rfl (r_index sl30 (hF.ev rfl) (hF.ev rfl) (by omega) (by omega)) ?_; clear hF a; intro a hF
    refine wl hF rfl rfl rfl (r_field fo53_6 (hF.ev rfl)) ?_; clear hF a; intro a hF
    refine wl_bstore (q := 5) (j := 9) hF hS rfl sz3 (hF.ev rfl) rfl (hF.ev rfl) rfl rfl ?_; intro w11 hS_; replace hS := hS_; clear hS_; dsimp only [List.set] at hS
    refine wl_nil (hK25 _ _ ?_)
    refine ws fun K26 hK26 => ?_
    refine wl_mvs (A := [_]) hF rfl ?_; clear hF a; intro a hF
    refine wl hF rfl rfl rfl (r_add (hF.ev rfl) ec) ?_; clear hF a; intro a hF
    rw [w64_id (q := K + 1 + 1 + 1 + 1 + 1 + 1 + 1 + 1 + 1 + 1) (by omega) (by omega)] at hF
    refine wl_mvs (A := [_]) hF rfl ?_; clear hF a; intro a hF
    refine wl_nil (hK26 _ _ ?_)
    refine ws fun K27 hK27 => ?_
    refine wl_mvs (A := [_, _, _]) hF rfl ?_; clear hF a; intro a hF
    refine wl hF rfl rfl rfl (r_index sl30 (hF.ev rfl) (hF.ev rfl) (by omega) (by omega)) ?_; clear hF a; intro a hF
    refine wl hF rfl rfl rfl (r_field fo53_7 (hF.ev rfl)) ?_; clear hF a; intro a hF
    refine wl_bstore (q := 5) (j := 10) hF hS rfl sz3 (hF.ev rfl) rfl (hF.ev rfl) rfl rfl ?_; intro w12 hS_; replace hS := hS_; clear hS_; dsimp only [List.set] at hS
    refine wl_nil (hK27 _ _ ?_)
    refine ws fun K28 hK28 => ?_
    refine wl_mvs (A := [_]) hF rfl ?_; clear hF a; intro a hF
    refine wl hF rfl rfl rfl (r_add (hF.ev rfl) ec) ?_; clear hF a; intro a hF
    rw [w64_id (q := K + 1 + 1 + 1 + 1 + 1 + 1 + 1 + 1 + 1 + 1 + 1) (by omega) (by omega)] at hF
    refine wl_mvs (A := [_]) hF rfl ?_; clear hF a; intro a hF
    refine wl_nil (hK28 _ _ ?_)
    refine ws fun K29 hK29 => ?_
    refine wl_mvs (A := [_, _, _]) hF rfl ?_; clear hF a; intro a hF
    refine wl hF rfl rfl rfl (r_index sl30 (hF.ev rfl) (hF.ev rfl) (by omega) (by omega)) ?_; clear hF a; intro a hF
    refine wl hF rfl rfl rfl (r_field fo53_8 (hF.ev rfl)) ?_; clear hF a; intro a hF
    refine wl_bstore (q := 5) (j := 11) hF hS rfl sz3 (hF.ev rfl) rfl (hF.ev rfl) rfl rfl ?_; intro w13 hS_; replace hS := hS_; clear hS_; dsimp only [List.set] at hS
    refine wl_nil (hK29 _ _ ?_)
    refine ws fun K30 hK30 => ?_
    refine wl_mvs (A := [_]) hF rfl ?_; clear hF a; intro a hF
    refine wl hF rfl rfl rfl (r_add (hF.ev rfl) ec) ?_; clear hF a; intro a hF
    rw [w64_id (q := K + 1 + 1 + 1 + 1 + 1 + 1 + 1 + 1 + 1 + 1 + 1 + 1) (by omega) (by omega)] at hF
    refine wl_mvs (A := [_]) hF rfl ?_; clear hF a; intro a hF
    refine wl_nil (hK30 _ _ ?_)
    refine ws fun K31 hK31 => ?_
    refine wl_mvs (A := [_, _, _]) hF rfl ?_; clear hF a; intro a hF
    refine wl hF rfl rfl rfl (r_index sl30 (hF.ev rfl) (hF.ev rfl) (by omega) (by omega)) ?_; clear hF a; intro a hF
    refine wl hF rfl rfl rfl (r_field fo53_9 (hF.ev rfl)) ?_; clear hF a; intro a hF
    refine wl_bstore (q := 5) (j := 12) hF hS rfl sz3 (hF.ev rfl) rfl (hF.ev rfl) rfl rfl ?_; intro w14 hS_; replace hS := hS_; clear hS_; dsimp only [List.set] at hS
    refine wl_nil (hK31 _ _ ?_)
    refine ws fun K32 hK32 => ?_
    refine wl_mvs (A := [_]) hF rfl ?_; clear hF a; intro a hF
    refine wl hF rfl rfl rfl (r_add (hF.ev rfl) ec) ?_; clear hF a; intro a hF
    rw [w64_id (q := K + 1 + 1 + 1 + 1 + 1 + 1 + 1 + 1 + 1 + 1 + 1 + 1 + 1) (by omega) (by omega)] at hF
    refine wl_mvs (A := [_]) hF rfl ?_; clear hF a; intro a hF
    refine wl_nil (hK32 _ _ ?_)
    refine ws fun K33 hK33 => ?_
    refine wl_mvs (A := [_, _, _]) hF rfl ?_; clear hF a; intro a hF
    refine wl hF rfl rfl rfl (r_index sl30 (hF.ev rfl) (hF.ev rfl) (by omega) (by omega)) ?_; clear hF a; intro a hF
    refine wl hF rfl rfl rfl (r_field fo53_10 (hF.ev rfl)) ?_; clear hF a; intro a hF
    refine wl_bstore (q := 5) (j := 13) hF hS rfl sz3 (hF.ev rfl) rfl (hF.ev rfl) rfl rfl ?_; intro w15 hS_; replace hS := hS_; clear hS_; dsimp only [List.set] at hS
    refine wl_nil (hK33 _ _ ?_)
    refine ws fun K34 hK34 => ?_
    refine wl_mvs (A := [_]) hF rfl ?_; clear hF a; intro a hF
    refine wl hF rfl rfl rfl (r_add (hF.ev rfl) ec) ?_; clear hF a; intro a hF
    rw [w64_id (q := K + 1 + 1 + 1 + 1 + 1 + 1 + 1 + 1 + 1 + 1 + 1 + 1 + 1 + 1) (by omega) (by omega)] at hF
    refine wl_mvs (A := [_]) hF rfl ?_; clear hF a; intro a hF
    refine wl_nil (hK34 _ _ ?_)
    refine ws fun K35 hK35 => ?_
    refine wl_mvs (A := [_, _]) hF rfl ?_; clear hF a; intro a hF
    refine wl hF rfl rfl rfl (r_index sl30 (hF.ev rfl) (hF.ev rfl) (by omega) (by omega)) ?_; clear hF a; intro a hF
    refine wl hF rfl rfl rfl (r_field fo53_11 (hF.ev rfl)) ?_; clear hF a; intro a hF
    refine wl hF rfl rfl rfl (r_load1 sc24 (hF.ev rfl) (hS.but1 (q := 5) (j := 14) rfl rfl)) ?_; clear hF a; intro a hF
    refine wl_mvs (A := [_]) hF rfl ?_; clear hF a; intro a hF
    refine wl_call hF rfl rfl rfl (r_call2 en27 (hF.ev rfl) (hF.ev rfl)) (markIntS_c hS (q := 0) rfl (by omega) (by first | omega | (simp only [marks_length]; omega))) ?_; clear hF a; rintro v w16 a ⟨rfl, hS_⟩ hF; replace hS := hS_; clear hS_; dsimp only [List.set] at hS
    refine wl_mvs (A := [_]) hF rfl ?_; clear hF a; intro a hF
    refine wl_nil (hK35 _ _ ?_)
    refine ws fun K36 hK36 => ?_
    refine wl_mvs (A := [_, _]) hF rfl ?_; clear hF a; intro a hF
    refine wl hF rfl rfl rfl (r_index sl30 (hF.ev rfl) (hF.ev rfl) (by omega) (by omega)) ?_; clear hF a; intro a hF
    refine wl hF rfl rfl rfl (r_field fo53_12 (hF.ev rfl)) ?_; clear hF a; intro a hF
    refine wl hF rfl rfl rfl (r_load1 sc24 (hF.ev rfl) (hS.but1 (q := 5) (j := 15) rfl rfl)) ?_; clear hF a; intro a hF
    refine wl_mvs (A := [_]) hF rfl ?_; clear hF a; intro a hF
    refine wl_call hF rfl rfl rfl (r_call2 en27 (hF.ev rfl) (hF.ev rfl)) (markIntS_c hS (q := 1) rfl (by omega) (by first | omega | (simp only [marks_length]; omega))) ?_; clear hF a; rintro v w17 a ⟨rfl, hS_⟩ hF; replace hS := hS_; clear hS_; dsimp only [List.set] at hS
    refine wl_mvs (A := [_]) hF rfl ?_; clear hF a; intro a hF
    refine wl_nil (hK36 _ _ ?_)
    refine ws fun K37 hK37 => ?_
    refine wl_mvs (A := [_, _]) hF rfl ?_; clear hF a; intro a hF
    refine wl hF rfl rfl rfl (r_index sl30 (hF.ev rfl) (hF.ev rfl) (by omega) (by omega)) ?_; clear hF a; intro a hF
    refine wl hF rfl rfl rfl (r_field fo53_13 (hF.ev rfl)) ?_; clear hF a; intro a hF
    refine wl hF rfl rfl rfl (r_load1 sc51 (hF.ev rfl) (hS.but1 (q := 5) (j := 16) rfl rfl)) ?_; clear hF a; intro a hF
    refine wl_mvs (A := [_]) hF rfl ?_; clear hF a; intro a hF
    replace hS := hS.pull (p := 2) rfl; dsimp only [List.eraseIdx] at hS
    refine wl_call hF rfl rfl rfl (r_call2 en85 (hF.ev rfl) (hF.ev rfl)) (markEntryS_c hS (by omega) (by omega)) ?_; clear hF a; rintro v w18 a ⟨rfl, hS_⟩ hF; replace hS := hS_; clear hS_
    refine wl_mvs (A := [_]) hF rfl ?_; clear hF a; intro a hF
    refine wl_nil (hK37 _ _ ?_)
    refine ws fun K38 hK38 => ?_
    refine wl_mvs (A := [_, _]) hF rfl ?_; clear hF a; intro a hF
    refine wl hF rfl rfl rfl (r_index sl30 (hF.ev rfl) (hF.ev rfl) (by omega) (by omega)) ?_; clear hF a; intro a hF
    refine wl hF rfl rfl rfl (r_field fo53_14 (hF.ev rfl)) ?_; clear hF a; intro a hF
    refine wl hF rfl rfl rfl (r_load1 sc51 (hF.ev rfl) (hS.but1 (q := 5) (j := 17) rfl rfl)) ?_; clear hF a; intro a hF
    refine wl_mvs (A := [_]) hF rfl ?_; clear hF a; intro a hF
    replace hS := hS.pull (p := 3) rfl; dsimp only [List.eraseIdx] at hS
    refine wl_call hF rfl rfl rfl (r_call2 en85 (hF.ev rfl) (hF.ev rfl)) (markEntryS_c hS (by omega) (by omega)) ?_; clear hF a; rintro v w19 a ⟨rfl, hS_⟩ hF; replace hS := hS_; clear hS_
    refine wl_mvs (A := [_]) hF rfl ?_; clear hF a; intro a hF
    refine wl_nil (hK38 _ _ ?_)
    refine wp_region_lit ?_
    refine wl_mvs (A := [_, _]) hF rfl ?_; clear hF a; intro a hF
    refine wl hF rfl rfl rfl (r_index sl30 (hF.ev rfl) (hF.ev rfl) (by omega) (by omega)) ?_; clear hF a; intro a hF
    refine wl hF rfl rfl rfl (r_field fo53_15 (hF.ev rfl)) ?_; clear hF a; intro a hF
    refine wl hF rfl rfl rfl (r_load1 sc24 (hF.ev rfl) (hS.but1 (q := 5) (j := 18) rfl rfl)) ?_; clear hF a; intro a hF
    refine wl_mvs (A := [_]) hF rfl ?_; clear hF a; intro a hF
    refine wl_call hF rfl rfl rfl (r_call2 en27 (hF.ev rfl) (hF.ev rfl)) (markIntS_c hS (q := 4) rfl (by omega) (by first | omega | (simp only [marks_length]; omega))) ?_; clear hF a; rintro v w20 a ⟨rfl, hS_⟩ hF; replace hS := hS_; clear hS_; dsimp only [List.set] at hS
    refine wl_mvs (A := [_]) hF rfl ?_; clear hF a; intro a hF
    refine wl_nil ?_
    simp only [Exit.then, Exit.inBlock, ↓reduceIte]
    refine hK6 _ _ ?_
    refine wp_region_lit ?_
    refine wl_mvs (A := [_]) hF rfl ?_; clear hF a; intro a hF
    refine wl hF rfl rfl rfl (r_add (hF.ev rfl) ec) ?_; clear hF a; intro a hF
    refine wl_mvs (A := [_]) hF rfl ?_; clear hF a; intro a hF
    refine wl_nil ?_
    try simp only [Exit.then, Exit.inBlock, ↓reduceIte]
    replace hS := Sep.headp (A := [_, _, _, _, _, _]) (B := [_, _, _, _, _, _]) hS [2, 3, 1, 0, 4, 5] (by decide) rfl rfl
    subst hK
    replace hS := (hS.part_mk (ek := threadEK) (x := Sl.Thread.mark (k0 + (crow Sl.Thread.cnt (List.take k xs) : Int)) (at0 xs (k : Int))) (vs := vs) (l := OwnBut threadEK _ _ k _ :: l) rfl).giveback (q := 0) rfl rfl
    dsimp only [List.set] at hS; rw [mix_set k0 hx] at hS
    refine ⟨k + 1, (by omega), hS, ((((hF.nil.keep hF (t := 4) rfl).keep hF (t := 0) rfl).keepE hF (t := 1) rfl (by rw [hc2]; congr 1; omega)).keepE hF (t := 5) rfl (wk (by omega))), by omega⟩
  refine wp_exit ?_
  simp only [Exit.then, Exit.inBlock, ↓reduceIte]
  refine hK2 _ _ ?_
  refine ws fun K39 hK39 => ?_
  refine wl_mvs (A := [_, _]) hF rfl ?_; clear hF a; intro a hF
  refine wl_nil (hK39 _ _ ?_)
  refine wp_ret ?_
  try simp only [Exit.then, Exit.inBlock, ↓reduceIte]
  obtain rfl : k = xs.length := by omega
  rw [List.take_length] at hF hS
  refine ret1 rfl hF rfl ⟨rfl, ?_⟩
  rw [List.drop_length, List.append_nil] at hS; exact hS

set_option maxHeartbeats 4000000 in
set_option maxRecDepth 20000 in
theorem heldThreadS_c {W : World} {va : Value} {xs : List Sl.Thread} {k0 : Int} (ha : threadEK.Rd W va (mrow Sl.Thread.mark Sl.Thread.cnt k0 xs)) (h0 : 0 ≤ k0) (h1 : k0 + crow Sl.Thread.cnt xs < 9223372036854775807) : Calls Tryz.prog 44 #[va, vi k0] W (Ret fun v w' => v = vi (k0 + crow Sl.Thread.cnt xs) ∧ Below W.heap.size W w') := by
  refine calls_fr Tryz.func44 rfl Tryz.ntmps44 rfl ?_
  intro a hF
  obtain ⟨A_a, q_a, rfl, hq_a, hn_a⟩ := ha.sl; unfold maxLen at hn_a
  rw [mrow_length] at hq_a hn_a
  have hS := Sep.refl W
  refine ws fun K1 hK1 => ?_
  refine wl_mvs (A := [_]) hF rfl ?_; clear hF a; intro a hF
  refine wl_nil (hK1 _ _ ?_)
  refine wp_seq_k fun K2 hK2 => ?_
  refine ws fun K3 hK3 => ?_
  refine wl_mvs (A := [_]) hF rfl ?_; clear hF a; intro a hF
  refine wl_nil (hK3 _ _ ?_)
  refine wp_block ?_
  have hL_ := ((hF.nil.keep hF (t := 4) rfl).keep hF (t := 0) rfl)
  refine wp_loop_r (σ := Nat) (fun k L_ => (5, vi k) :: (1, vi (k0 + (crow Sl.Thread.cnt (List.take k xs) : Int))) :: L_) (fun k => (k ≤ xs.length)) (fun k => xs.length - k) 0 hS ((hL_.keepE hF (t := 1) rfl (by simp [crow])).keepE hF (t := 5) rfl rfl) ?_ ?_
  · exact Nat.zero_le _
  clear hF hS hL_ a
  rintro k a w1 hk hS hF; try dsimp only at hF; try dsimp only at hS
  refine wp_seq_k fun K4 hK4 => ?_
  refine ws fun K5 hK5 => ?_
  refine wl_mvs (A := [_, _]) hF rfl ?_; clear hF a; intro a hF
  refine wl hF rfl rfl rfl (r_len ul30 (hF.ev rfl)) ?_; clear hF a; intro a hF
  refine wl hF rfl rfl rfl (r_lss (hF.ev rfl) (hF.ev rfl)) ?_; clear hF a; intro a hF
  refine wl_nil (hK5 _ _ ?_)
  refine wc_fx (t := 9) hF rfl ?_ ?_ <;> clear hF <;> intro c9 hF <;> try simp only [zb1, zb2, zb3, zb4, zb5, zb6, zb7, zb8] at c9
  ·
    rw [mrow_length] at c9
    have hlt : k < xs.length := by omega
    have hx := at0_nat hlt
    have hc1 := crow_le1 (c := Sl.Thread.cnt) hx
    have hc2 := crow_next (c := Sl.Thread.cnt) hx
    simp only [Sl.Thread.cnt] at hc1 hc2
    have hmx := mrow_at (f := Sl.Thread.mark) (c := Sl.Thread.cnt) k0 hx
    generalize hK : (k0 + (crow Sl.Thread.cnt (List.take k xs) : Int)) = K at hF hmx
    have hlm : k < (mrow Sl.Thread.mark Sl.Thread.cnt k0 xs).length := by rw [mrow_length]; omega
    refine wp_skip ?_
    refine hK4 _ _ ?_
    refine wp_seq_k fun K6 hK6 => ?_
    refine wp_block ?_
    refine wp_seq_k fun K7 hK7 => ?_
    refine ws fun K8 hK8 => ?_
    refine wl_mvs (A := [_, _]) hF rfl ?_; clear hF a; intro a hF
    obtain ⟨g14, o14, m14, q14, cs14, hv14, hm14, hl14, hk14, hz14, hc14⟩ := Rd.idx (ha) hmx
    have hkk14 := hk14; obtain ⟨v14_0, v14_1, v14_2, v14_3, v14_4, rfl, r14_0, r14_1, r14_2, r14_3, r14_4⟩ := hk14
    refine wl hF rfl rfl rfl (r_index sl30 ((hF.ev rfl).trans hv14) (hF.ev rfl) (by omega) (by omega)) ?_; clear hF a; intro a hF
    refine wl hF rfl rfl rfl (r_field fo53_0 (hF.ev rfl)) ?_; clear hF a; intro a hF
    refine wl hF rfl rfl rfl (r_load1 sc3 (hF.ev rfl) (cellB hS.old (hc14 0 _ rfl))) ?_; clear hF a; intro a hF
    refine wl_mvs (A := [_]) hF rfl ?_; clear hF a; intro a hF
    refine wl hF rfl rfl rfl (r_neq (hF.ev rfl) (hF.ev rfl)) ?_; clear hF a; intro a hF
    refine wl_nil (hK8 _ _ ?_)
    refine wc_fx (t := 18) hF rfl ?_ ?_ <;> clear hF <;> intro c18 hF <;> try simp only [zb1, zb2, zb3, zb4, zb5, zb6, zb7, zb8] at c18
    ·
      exfalso; first | exact (c18 rfl).elim | omega
    clear c18 hv14 hm14 hl14 hc14 hz14 hkk14 r14_0 r14_1 r14_2 r14_3 r14_4
    refine wp_skip ?_
    refine hK7 _ _ ?_
    refine ws fun K9 hK9 => ?_
    refine wl_mvs (A := [_]) hF rfl ?_; clear hF a; intro a hF
    refine wl hF rfl rfl rfl (r_add (hF.ev rfl) ec) ?_; clear hF a; intro a hF
    rw [w64_id (q := K + 1) (by omega) (by omega)] at hF
    refine wl_mvs (A := [_]) hF rfl ?_; clear hF a; intro a hF
    refine wl_nil (hK9 _ _ ?_)
    refine wp_seq_k fun K10 hK10 => ?_
    refine ws fun K11 hK11 => ?_
    refine wl_mvs (A := [_, _]) hF rfl ?_; clear hF a; intro a hF
    obtain ⟨g23, o23, m23, q23, cs23, hv23, hm23, hl23, hk23, hz23, hc23⟩ := Rd.idx (ha) hmx
    have hkk23 := hk23; obtain ⟨v23_0, v23_1, v23_2, v23_3, v23_4, rfl, r23_0, r23_1, r23_2, r23_3, r23_4⟩ := hk23
    refine wl hF rfl rfl rfl (r_index sl30 ((hF.ev rfl).trans hv23) (hF.ev rfl) (by omega) (by omega)) ?_; clear hF a; intro a hF
    refine wl hF rfl rfl rfl (r_field fo53_1 (hF.ev rfl)) ?_; clear hF a; intro a hF
    refine wl hF rfl rfl rfl (r_field fo48_0 (hF.ev rfl)) ?_; clear hF a; intro a hF
    refine wl hF rfl rfl rfl (r_load1 sc3 (hF.ev rfl) (cellB hS.old (hc23 1 _ rfl))) ?_; clear hF a; intro a hF
    refine wl_mvs (A := [_]) hF rfl ?_; clear hF a; intro a hF
    refine wl hF rfl rfl rfl (r_neq (hF.ev rfl) (hF.ev rfl)) ?_; clear hF a; intro a hF
    refine wl_nil (hK11 _ _ ?_)
    refine wc_fx (t := 28) hF rfl ?_ ?_ <;> clear hF <;> intro c28 hF <;> try simp only [zb1, zb2, zb3, zb4, zb5, zb6, zb7, zb8] at c28
    ·
      exfalso; first | exact (c28 rfl).elim | omega
    clear c28 hv23 hm23 hl23 hc23 hz23 hkk23 r23_0 r23_1 r23_2 r23_3 r23_4
    refine wp_skip ?_
    refine hK10 _ _ ?_
    refine ws fun K12 hK12 => ?_
    refine wl_mvs (A := [_]) hF rfl ?_; clear hF a; intro a hF
    refine wl hF rfl rfl rfl (r_add (hF.ev rfl) ec) ?_; clear hF a; intro a hF
    rw [w64_id (q := K + 1 + 1) (by omega) (by omega)] at hF
    refine wl_mvs (A := [_]) hF rfl ?_; clear hF a; intro a hF
    refine wl_nil (hK12 _ _ ?_)
    refine wp_seq_k fun K13 hK13 => ?_
    refine ws fun K14 hK14 => ?_
    refine wl_mvs (A := [_, _]) hF rfl ?_; clear hF a; intro a hF
    obtain ⟨g33, o33, m33, q33, cs33, hv33, hm33, hl33, hk33, hz33, hc33⟩ := Rd.idx (ha) hmx
    have hkk33 := hk33; obtain ⟨v33_0, v33_1, v33_2, v33_3, v33_4, rfl, r33_0, r33_1, r33_2, r33_3, r33_4⟩ := hk33
    refine wl hF rfl rfl rfl (r_index sl30 ((hF.ev rfl).trans hv33) (hF.ev rfl) (by omega) (by omega)) ?_; clear hF a; intro a hF
    refine wl hF rfl rfl rfl (r_field fo53_1 (hF.ev rfl)) ?_; clear hF a; intro a hF
    refine wl hF rfl rfl rfl (r_field fo48_1 (hF.ev rfl)) ?_; clear hF a; intro a hF
    refine wl hF rfl rfl rfl (r_load1 sc3 (hF.ev rfl) (cellB hS.old (hc33 2 _ rfl))) ?_; clear hF a; intro a hF
    refine wl_mvs (A := [_]) hF rfl ?_; clear hF a; intro a hF
    refine wl hF rfl rfl rfl (r_neq (hF.ev rfl) (hF.ev rfl)) ?_; clear hF a; intro a hF
    refine wl_nil (hK14 _ _ ?_)
    refine wc_fx (t := 38) hF rfl ?_ ?_ <;> clear hF <;> intro c38 hF <;> try simp only [zb1, zb2, zb3, zb4, zb5, zb6, zb7, zb8] at c38
    ·
      exfalso; first | exact (c38 rfl).elim | omega
    clear c38 hv33 hm33 hl33 hc33 hz33 hkk33 r33_0 r33_1 r33_2 r33_3 r33_4
    refine wp_skip ?_
    refine hK13 _ _ ?_
    refine ws fun K15 hK15 => ?_
    refine wl_mvs (A := [_]) hF rfl ?_; clear hF a; intro a hF
    refine wl hF rfl rfl rfl (r_add (hF.ev rfl) ec) ?_; clear hF a; intro a hF
    rw [w64_id (q := K + 1 + 1 + 1) (by omega) (by omega)] at hF
    refine wl_mvs (A := [_]) hF rfl ?_; clear hF a; intro a hF
    refine wl_nil (hK15 _ _ ?_)
    refine wp_seq_k fun K16 hK16 => ?_
    refine ws fun K17 hK17 => ?_
    refine wl_mvs (A := [_, _]) hF rfl ?_; clear hF a; intro a hF
    obtain ⟨g43, o43, m43, q43, cs43, hv43, hm43, hl43, hk43, hz43, hc43⟩ := Rd.idx (ha) hmx
    have hkk43 := hk43; obtain ⟨v43_0, v43_1, v43_2, v43_3, v43_4, rfl, r43_0, r43_1, r43_2, r43_3, r43_4⟩ := hk43
    refine wl hF rfl rfl rfl (r_index sl30 ((hF.ev rfl).trans hv43) (hF.ev rfl) (by omega) (by omega)) ?_; clear hF a; intro a hF
    refine wl hF rfl rfl rfl (r_field fo53_1 (hF.ev rfl)) ?_; clear hF a; intro a hF
    refine wl hF rfl rfl rfl (r_field fo48_2 (hF.ev rfl)) ?_; clear hF a; intro a hF
    refine wl hF rfl rfl rfl (r_load1 sc3 (hF.ev rfl) (cellB hS.old (hc43 3 _ rfl))) ?_; clear hF a; intro a hF
    refine wl_mvs (A := [_]) hF rfl ?_; clear hF a; intro a hF
    refine wl hF rfl rfl rfl (r_neq (hF.ev rfl) (hF.ev rfl)) ?_; clear hF a; intro a hF
    refine wl_nil (hK17 _ _ ?_)
    refine wc_fx (t := 48) hF rfl ?_ ?_ <;> clear hF <;> intro c48 hF <;> try simp only [zb1, zb2, zb3, zb4, zb5, zb6, zb7, zb8] at c48
    ·
      exfalso; first | exact (c48 rfl).elim | omega
    clear c48 hv43 hm43 hl43 hc43 hz43 hkk43 r43_0 r43_1 r43_2 r43_3 r43_4
    refine wp_skip ?_
    refine hK16 _ _ ?_
    refine ws fun K18 hK18 => ?_
    refine wl_mvs (A := [_]) hF rfl ?_; clear hF a; intro a hF
    refine wl hF rfl rfl rfl (r_add (hF.ev rfl) ec) ?_; clear hF a; intro a hF
    rw [w64_id (q := K + 1 + 1 + 1 + 1) (by omega) (by omega)] at hF
    refine wl_mvs (A := [_]) hF rfl ?_; clear hF a; intro a hF
    refine wl_nil (hK18 _ _ ?_)
    refine wp_seq_k fun K19 hK19 => ?_
    refine ws fun K20 hK20 => ?_
    refine wl_mvs (A := [_, _]) hF rfl ?_; clear hF a; intro a hF
    obtain ⟨g53, o53, m53, q53, cs53, hv53, hm53, hl53, hk53, hz53, hc53⟩ := Rd.idx (ha) hmx
    have hkk53 := hk53; obtain ⟨v53_0, v53_1, v53_2, v53_3, v53_4, rfl, r53_0, r53_1, r53_2, r53_3, r53_4⟩ := hk53
    refine wl hF rfl rfl rfl (r_index sl30 ((hF.ev rfl).trans hv53) (hF.ev rfl) (by omega) (by omega)) ?_; clear hF a; intro a hF
    refine wl hF rfl rfl rfl (r_field fo53_2 (hF.ev rfl)) ?_; clear hF a; intro a hF
    refine wl hF rfl rfl rfl (r_field fo50_0 (hF.ev rfl)) ?_; clear hF a; intro a hF
    refine wl hF rfl rfl rfl (r_load1 sc3 (hF.ev rfl) (cellB hS.old (hc53 4 _ rfl))) ?_; clear hF a; intro a hF
    refine wl_mvs (A := [_]) hF rfl ?_; clear hF a; intro a hF
    refine wl hF rfl rfl rfl (r_neq (hF.ev rfl) (hF.ev rfl)) ?_; clear hF a; intro a hF
    refine wl_nil (hK20 _ _ ?_)
    refine wc_fx (t := 58) hF rfl ?_ ?_ <;> clear hF <;> intro c58 hF <;> try simp only [zb1, zb2, zb3, zb4, zb5, zb6, zb7, zb8] at c58
    ·
      exfalso; first | exact (c58 rfl).elim | omega
    clear c58 hv53 hm53 hl53 hc53 hz53 hkk53 r53_0 r53_1 r53_2 r53_3 r53_4
    refine wp_skip ?_
    refine hK19 _ _ ?_
    refine ws fun K21 hK21 => ?_
    refine wl_mvs (A := [_]) hF rfl ?_; clear hF a; intro a hF
    refine wl hF rfl rfl rfl (r_add (hF.ev rfl) ec) ?_; clear hF a; intro a hF
    rw [w64_id (q := K + 1 + 1 + 1 + 1 + 1) (by omega) (by omega)] at hF
    refine wl_mvs (A := [_]) hF rfl ?_; clear hF a; intro a hF
    refine wl_nil (hK21 _ _ ?_)
    refine wp_seq_k fun K22 hK22 => ?_
    refine ws fun K23 hK23 => ?_
    refine wl_mvs (A := [_, _]) hF rfl ?_; clear hF a; intro a hF
    obtain ⟨g63, o63, m63, q63, cs63, hv63, hm63, hl63, hk63, hz63, hc63⟩ := Rd.idx (ha) hmx
    have hkk63 := hk63; obtain ⟨v63_0, v63_1, v63_2, v63_3, v63_4, rfl, r63_0, r63_1, r63_2, r63_3, r63_4⟩ := hk63
    refine wl hF rfl rfl rfl (r_index sl30 ((hF.ev rfl).trans hv63) (hF.ev rfl) (by omega) (by omega)) ?_; clear hF a; intro a hF
    refine wl hF rfl rfl rfl (r_field fo53_2 (hF.ev rfl)) ?_; clear hF a; intro a hF
    refine wl hF rfl rfl rfl (r_field fo50_1 (hF.ev rfl)) ?_; clear hF a; intro a hF
    refine wl hF rfl rfl rfl (r_load1 sc3 (hF.ev rfl) (cellB hS.old (hc63 5 _ rfl))) ?_; clear hF a; intro a hF
    refine wl_mvs (A := [_]) hF rfl ?_; clear hF a; intro a hF
    refine wl hF rfl rfl rfl (r_neq (hF.ev rfl) (hF.ev rfl)) ?_; clear hF a; intro a hF
    refine wl_nil (hK23 _ _ ?_)
    refine wc_fx (t := 68) hF rfl ?_ ?_ <;> clear hF <;> intro c68 hF <;> try simp only [zb1, zb2, zb3, zb4, zb5, zb6, zb7, zb8] at c68
    ·
      exfalso; first | exact (c68 rfl).elim | omega
    clear c68 hv63 hm63 hl63 hc63 hz63 hkk63 r63_0 r63_1 r63_2 r63_3 r63_4
    refine wp_skip ?_
    refine hK22 _ _ ?_
    refine ws fun K24 hK24 => ?_
    refine wl_mvs (A := [_]) hF rfl ?_; clear hF a; intro a hF
    refine wl hF rfl rfl rfl (r_add (hF.ev rfl) ec) ?_; clear hF a; intro a hF
    rw [w64_id (q := K + 1 + 1 + 1 + 1 + 1 + 1) (by omega) (by omega)] at hF
    refine wl_mvs (A := [_]) hF rfl ?_; clear hF a; intro a hF
    refine wl_nil (hK24 _ _ ?_)
    refine wp_seq_k fun K25 hK25 => ?_
    refine ws fun K26 hK26 => ?_
    refine wl_mvs (A := [_, _]) hF rfl ?_; clear hF a; intro a hF
    obtain ⟨g73, o73, m73, q73, cs73, hv73, hm73, hl73, hk73, hz73, hc73⟩ := Rd.idx (ha) hmx
    have hkk73 := hk73; obtain ⟨v73_0, v73_1, v73_2, v73_3, v73_4, rfl, r73_0, r73_1, r73_2, r73_3, r73_4⟩ := hk73
    refine wl hF rfl rfl rfl (r_index sl30 ((hF.ev rfl).trans hv73) (hF.ev rfl) (by omega) (by omega)) ?_; clear hF a; intro a hF
    refine wl hF rfl rfl rfl (r_field fo53_3 (hF.ev rfl)) ?_; clear hF a; intro a hF
    refine wl hF rfl rfl rfl (r_load1 sc3 (hF.ev rfl) (cellB hS.old (hc73 6 _ rfl))) ?_; clear hF a; intro a hF
    refine wl_mvs (A := [_]) hF rfl ?_; clear hF a; intro a hF
    refine wl hF rfl rfl rfl (r_neq (hF.ev rfl) (hF.ev rfl)) ?_; clear hF a; intro a hF
    refine wl_nil (hK26 _ _ ?_)
    refine wc_fx (t := 77) hF rfl ?_ ?_ <;> clear hF <;> intro c77 hF <;> try simp only [zb1, zb2, zb3, zb4, zb5, zb6, zb7, zb8] at c77
    ·
      exfalso; first | exact (c77 rfl).elim | omega
    clear c77 hv73 hm73 hl73 hc73 hz73 hkk73 r73_0 r73_1 r73_2 r73_3 r73_4
    refine wp_skip ?_
    refine hK25 _ _ ?_
    refine ws fun K27 hK27 => ?_
    refine wl_mvs (A := [_]) hF rfl ?_; clear hF a; intro a hF
    refine wl hF rfl rfl rfl (r_add (hF.ev rfl) ec) ?_; clear hF a; intro a hF
    rw [w64_id (q := K + 1 + 1 + 1 + 1 + 1 + 1 + 1) (by omega) (by omega)] at hF
    refine wl_mvs (A := [_]) hF rfl ?_; clear hF a; intro a hF
    refine wl_nil (hK27 _ _ ?_)
    refine wp_seq_k fun K28 hK28 => ?_
    refine ws fun K29 hK29 => ?_
    refine wl_mvs (A := [_, _]) hF rfl ?_; clear hF a; intro a hF
    obtain ⟨g82, o82, m82, q82, cs82, hv82, hm82, hl82, hk82, hz82, hc82⟩ := Rd.idx (ha) hmx
    have hkk82 := hk82; obtain ⟨v82_0, v82_1, v82_2, v82_3, v82_4, rfl, r82_0, r82_1, r82_2, r82_3, r82_4⟩ := hk82
    refine wl hF rfl rfl rfl (r_index sl30 ((hF.ev rfl).trans hv82) (hF.ev rfl) (by omega) (by omega)) ?_; clear hF a; intro a hF
    refine wl hF rfl rfl rfl (r_field fo53_4 (hF.ev rfl)) ?_; clear hF a; intro a hF
    refine wl hF rfl rfl rfl (r_load1 sc3 (hF.ev rfl) (cellB hS.old (hc82 7 _ rfl))) ?_; clear hF a; intro a hF
    refine wl_mvs (A := [_]) hF rfl ?_; clear hF a; intro a hF
    refine wl hF rfl rfl rfl (r_neq (hF.ev rfl) (hF.ev rfl)) ?_; clear hF a; intro a hF
    refine wl_nil (hK29 _ _ ?_)
    refine wc_fx (t := 86) hF rfl ?_ ?_ <;> clear hF <;> intro c86 hF <;> try simp only [zb1, zb2, zb3, zb4, zb5, zb6, zb7, zb8] at c86
    ·
      exfalso; first | exact (c86 rfl).elim | omega
    clear c86 hv82 hm82 hl82 hc82 hz82 hkk82 r82_0 r82_1 r82_2 r82_3 r82_4
    refine wp_skip ?_
    refine hK28 _ _ ?_
    refine ws fun K30 hK30 => ?_
    refine wl_mvs (A := [_]) hF rfl ?_; clear hF a; intro a hF
    refine wl hF rfl rfl rfl (r_add (hF.ev rfl) ec) ?_; clear hF a; intro a hF
    rw [w64_id (q := K + 1 + 1 + 1 + 1 + 1 + 1 + 1 + 1) (by omega) (by omega)] at hF
    refine wl_mvs (A := [_]) hF rfl ?_; clear hF a; intro a hF
    refine wl_nil (hK30 _ _ ?_)
    refine wp_seq_k fun K31 hK31 => ?_
    refine ws fun K32 hK32 => ?_
    refine wl_mvs (A := [_, _]) hF rfl ?_; clear hF a; intro a hF
    obtain ⟨g91, o91, m91, q91, cs91, hv91, hm91, hl91, hk91, hz91, hc91⟩ := Rd.idx (ha) hmx
    have hkk91 := hk91; obtain ⟨v91_0, v91_1, v91_2, v91_3, v91_4, rfl, r91_0, r91_1, r91_2, r91_3, r91_4⟩ := hk91
    refine wl hF rfl rfl rfl (r_index sl30 ((hF.ev rfl).trans hv91) (hF.ev rfl) (by omega) (by omega)) ?_; clear hF a; intro a hF
    refine wl hF rfl rfl rfl (r_field fo53_5 (hF.ev rfl)) ?_; clear hF a; intro a hF
    refine wl hF rfl rfl rfl (r_load1 sc3 (hF.ev rfl) (cellB hS.old (hc91 8 _ rfl))) ?_; clear hF a; intro a hF
    refine wl_mvs (A := [_]) hF rfl ?_; clear hF a; intro a hF
    refine wl hF rfl rfl rfl (r_neq (hF.ev rfl) (hF.ev rfl)) ?_; clear hF a; intro a hF
    refine wl_nil (hK32 _ _ ?_)
    refine wc_fx (t := 95) hF rfl ?_ ?_ <;> clear hF <;> intro c95 hF <;> try simp only [zb1, zb2, zb3, zb4, zb5, zb6, zb7, zb8] at c95
    ·
      exfalso; first | exact (c95 rfl).elim | omega
    clear c95 hv91 hm91 hl91 hc91 hz91 hkk91 r91_0 r91_1 r91_2 r91_3 r91_4
    refine wp_skip ?_
    refine hK31 _ _ ?_
    refine ws fun K33 hK33 => ?_
    refine wl_mvs (A := [_]) hF rfl ?_; clear hF a; intro a hF
    refine wl hF rfl rfl rfl (r_add (hF.ev rfl) ec) ?_; clear hF a; intro a hF
    rw [w64_id (q := K + 1 + 1 + 1 + 1 + 1 + 1 + 1 + 1 + 1) (by omega) (by omega)] at hF
    refine wl_mvs (A := [_]) hF rfl ?_; clear hF a; intro a hF
    refine wl_nil (hK33 _ _ ?_)
    refine wp_seq_k fun K34 hK34 => ?_
    refine ws fun K35 hK35 => ?_
    refine wl_mvs (A := [_, _]) hF rfl ?_; clear hF a; intro a hF
    obtain ⟨g100, o100, m100, q100, cs100, hv100, hm100, hl100, hk100, hz100, hc100⟩ := Rd.idx (ha) hmx
    have hkk100 := hk100; obtain ⟨v100_0, v100_1, v100_2, v100_3, v100_4, rfl, r100_0, r100_1, r100_2, r100_3, r100_4⟩ := hk100
    refine wl hF rfl rfl rfl (r_index sl30 ((hF.ev rfl).trans hv100) (hF.ev rfl) (by omega) (by omega)) ?_; clear hF a; intro a hF
    refine wl hF rfl rfl rfl (r_field fo53_6 (hF.ev rfl)) ?_; clear hF a; intro a hF
    refine wl hF rfl rfl rfl (r_load1 sc3 (hF.ev rfl) (cellB hS.old (hc100 9 _ rfl))) ?_; clear hF a; intro a hF
    refine wl_mvs (A := [_]) hF rfl ?_; clear hF a; intro a hF
    refine wl hF rfl rfl rfl (r_neq (hF.ev rfl) (hF.ev rfl)) ?_; clear hF a; intro a hF
    refine wl_nil (hK35 _ _ ?_)
    refine wc_fx (t := 104) hF rfl ?_ ?_ <;> clear hF <;> intro c104 hF <;> try simp only [zb1, zb2, zb3, zb4, zb5, zb6, zb7, zb8] at c104
    ·
      exfalso; first | exact (c104 rfl).elim | omega
    clear c104 hv100 hm100 hl100 hc100 hz100 hkk100 r100_0 r100_1 r100_2 r100_3 r100_4
    refine wp_skip ?_
    refine hK34 _ _ ?_
    refine ws fun K36 hK36 => ?_
    refine wl_mvs (A := [_]) hF rfl ?_; clear hF a; intro a hF
    refine wl hF rfl rfl rfl (r_add (hF.ev rfl) ec) ?_; clear hF a; intro a hF
    rw [w64_id (q := K + 1 + 1 + 1 + 1 + 1 + 1 + 1 + 1 + 1 + 1) (by omega) (by omega)] at hF
    refine wl_mvs (A := [_]) hF rfl ?_; clear hF a; intro a hF
    refine wl_nil (hK36 _ _ ?_)
    refine wp_seq_k fun K37 hK37 => ?_
    refine ws fun K38 hK38 => ?_
    refine wl_mvs (A := [_, _]) hF rfl ?_; clear hF a; intro a hF
    obtain ⟨g109, o109, m109, q109, cs109, hv109, hm109, hl109, hk109, hz109, hc109⟩ := Rd.idx (ha) hmx
    have hkk109 := hk109; obtain ⟨v109_0, v109_1, v109_2, v109_3, v109_4, rfl, r109_0, r109_1, r109_2, r109_3, r109_4⟩ := hk109
    refine wl hF rfl rfl rfl (r_index sl30 ((hF.ev rfl).trans hv109) (hF.ev rfl) (by omega) (by omega)) ?_; clear hF a; intro a hF
    refine wl hF rfl rfl rfl (r_field fo53_7 (hF.ev rfl)) ?_; clear hF a; intro a hF
    refine wl hF rfl rfl rfl (r_load1 sc3 (hF.ev rfl) (cellB hS.old (hc109 10 _ rfl))) ?_; clear hF a; intro a hF
    refine wl_mvs (A := [_]) hF rfl ?_; clear hF a; intro a hF
    refine wl hF rfl rfl rfl (r_neq (hF.ev rfl) (hF.ev rfl)) ?_; clear hF a; intro a hF
    refine wl_nil (hK38 _ _ ?_)
    refine wc_fx (t := 113) hF rfl ?_ ?_ <;> clear hF <;> intro c113 hF <;> try simp only [zb1, zb2, zb3, zb4, zb5, zb6, zb7, zb8] at c113
    ·
      exfalso; first | exact (c113 rfl).elim | omega
    clear c113 hv109 hm109 hl109 hc109 hz109 hkk109 r109_0 r109_1 r109_2 r109_3 r109_4
    refine wp_skip ?_
    refine hK37 _ _ ?_
    refine ws fun K39 hK39 => ?_
    refine wl_mvs (A := [_]) hF rfl ?_; clear hF a; intro a hF
    refine wl hF rfl rfl rfl (r_add (hF.ev rfl) ec) ?_; clear hF a; intro a hF
    rw [w64_id (q := K + 1 + 1 + 1 + 1 + 1 + 1 + 1 + 1 + 1 + 1 + 1) (by omega) (by omega)] at hF
    refine wl_mvs (A := [_]) hF rfl ?_; clear hF a; intro a hF
    refine wl_nil (hK39 _ _ ?_)
    refine wp_seq_k fun K40 hK40 => ?_
    refine ws fun K41 hK41 => ?_
    refine wl_mvs (A := [_, _]) hF rfl ?_; clear hF a; intro a hF
    obtain ⟨g118, o118, m118, q118, cs118, hv118, hm118, hl118, hk118, hz118, hc118⟩ := Rd.idx (ha) hmx
    have hkk118 := hk118; obtain ⟨v118_0, v118_1, v118_2, v118_3, v118_4, rfl, r118_0, r118_1, r118_2, r118_3, r118_4⟩ := hk118
    refine wl hF rfl rfl rfl (r_index sl30 ((hF.ev rfl).trans hv118) (hF.ev rfl) (by omega) (by omega)) ?_; clear hF a; intro a hF
    refine wl hF rfl rfl rfl (r_field fo53_8 (hF.ev rfl)) ?_; clear hF a; intro a hF
    refine wl hF rfl rfl rfl (r_load1 sc3 (hF.ev rfl) (cellB hS.old (hc118 11 _ rfl))) ?_; clear hF a; intro a hF
    refine wl_mvs (A := [_]) hF rfl ?_; clear hF a; intro a hF
    refine wl hF rfl rfl rfl (r_neq (hF.ev rfl) (hF.ev rfl)) ?_; clear hF a; intro a hF
    refine wl_nil (hK41 _ _ ?_)
    refine wc_fx (t := 122) hF rfl ?_ ?_ <;> clear hF <;> intro c122 hF <;> try simp only [zb1, zb2, zb3, zb4, zb5, zb6, zb7, zb8] at c122
    ·
      exfalso; first | exact (c122 rfl).elim | omega
    clear c122 hv118 hm118 hl118 hc118 hz118 hkk118 r118_0 r118_1 r118_2 r118_3 r118_4
    refine wp_skip ?_
    refine hK40 _ _ ?_
    refine ws fun K42 hK42 => ?_
    refine wl_mvs (A := [_]) hF rfl ?_; clear hF a; intro a hF
    refine wl hF rfl rfl rfl (r_add (hF.ev rfl) ec) ?_; clear hF a; intro a hF
    rw [w64_id (q := K + 1 + 1 + 1 + 1 + 1 + 1 + 1 + 1 + 1 + 1 + 1 + 1) (by omega) (by omega)] at hF
    refine wl_mvs (A := [_]) hF rfl ?_; clear hF a; intro a hF
    refine wl_nil (hK42 _ _ ?_)
    refine wp_seq_k fun K43 hK43 => ?_
    refine ws fun K44 hK44 => ?_
    refine wl_mvs (A := [_, _]) hF rfl ?_; clear hF a; intro a hF
    obtain ⟨g127, o127, m127, q127, cs127, hv127, hm127, hl127, hk127, hz127, hc127⟩ := Rd.idx (ha) hmx
    have hkk127 := hk127; obtain ⟨v127_0, v127_1, v127_2, v127_3, v127_4, rfl, r127_0, r127_1, r127_2, r127_3, r127_4⟩ := hk127
    refine wl hF rfl rfl rfl (r_index sl30 ((hF.ev rfl).trans hv127) (hF.ev rfl) (by omega) (by omega)) ?_; clear hF a; intro a hF
    refine wl hF rfl rfl rfl (r_field fo53_9 (hF.ev rfl)) ?_; clear hF a; intro a hF
    refine wl hF rfl rfl rfl (r_load1 sc3 (hF.ev rfl) (cellB hS.old (hc127 12 _ rfl))) ?_; clear hF a; intro a hF
    refine wl_mvs (A := [_]) hF rfl ?_; clear hF a; intro a hF
    refine wl hF rfl rfl rfl (r_neq (hF.ev rfl) (hF.ev rfl)) ?_; clear hF a; intro a hF
    refine wl_nil (hK44 _ _ ?_)
    refine wc_fx (t := 131) hF rfl ?_ ?_ <;> clear hF <;> intro c131 hF <;> try simp only [zb1, zb2, zb3, zb4, zb5, zb6, zb7, zb8] at c131
    ·
      exfalso; first | exact (c131 rfl).elim | omega
    clear c131 hv127 hm127 hl127 hc127 hz127 hkk127 r127_0 r127_1 r127_2 r127_3 r127_4
    refine wp_skip ?_
    refine hK43 _ _ ?_
    refine ws fun K45 hK45 => ?_
    refine wl_mvs (A := [_]) hF rfl ?_; clear hF a; intro a hF
    refine wl hF rfl rfl rfl (r_add (hF.ev rfl) ec) ?_; clear hF a; intro a hF
    rw [w64_id (q := K + 1 + 1 + 1 + 1 + 1 + 1 + 1 + 1 + 1 + 1 + 1 + 1 + 1) (by omega) (by omega)] at hF
    refine wl_mvs (A := [_]) hF rfl ?_; clear hF a; intro a hF
    refine wl_nil (hK45 _ _ ?_)
    refine wp_seq_k fun K46 hK46 => ?_
    refine ws fun K47 hK47 => ?_
    refine wl_mvs (A := [_, _]) hF rfl ?_; clear hF a; intro a hF
    obtain ⟨g136, o136, m136, q136, cs136, hv136, hm136, hl136, hk136, hz136, hc136⟩ := Rd.idx (ha) hmx
    have hkk136 := hk136; obtain ⟨v136_0, v136_1, v136_2, v136_3, v136_4, rfl, r136_0, r136_1, r136_2, r136_3, r136_4⟩ := hk136
    refine wl hF rfl rfl rfl (r_index sl30 ((hF.ev rfl).trans hv136) (hF.ev rfl) (by omega) (by omega)) ?_; clear hF a; intro a hF
    refine wl hF rfl rfl rfl (r_field fo53_10 (hF.ev rfl)) ?_; clear hF a; intro a hF
    refine wl hF rfl rfl rfl (r_load1 sc3 (hF.ev rfl) (cellB hS.old (hc136 13 _ rfl))) ?_; clear hF a; intro a hF
    refine wl_mvs (A := [_]) hF rfl ?_; clear hF a; intro a hF
    refine wl hF rfl rfl rfl (r_neq (hF.ev rfl) (hF.ev rfl)) ?_; clear hF a; intro a hF
    refine wl_nil (hK47 _ _ ?_)
    refine wc_fx (t := 140) hF rfl ?_ ?_ <;> clear hF <;> intro c140 hF <;> try simp only [zb1, zb2, zb3, zb4, zb5, zb6, zb7, zb8] at c140
    ·
      exfalso; first | exact (c140 rfl).elim | omega
    clear c140 hv136 hm136 hl136 hc136 hz136 hkk136 r136_0 r136_1 r136_2 r136_3 r136_4
    refine wp_skip ?_
    refine hK46 _ _ ?_
    refine ws fun K48 hK48 => ?_
    refine wl_mvs (A := [_]) hF rfl ?_; clear hF a; intro a hF
    refine wl hF rfl rfl rfl (r_add (hF.ev rfl) ec) ?_; clear hF a; intro a hF
    rw [w64_id (q := K + 1 + 1 + 1 + 1 + 1 + 1 + 1 + 1 + 1 + 1 + 1 + 1 + 1 + 1) (by omega) (by omega)] at hF
    refine wl_mvs (A := [_]) hF rfl ?_; clear hF a; intro a hF
    refine wl_nil (hK48 _ _ ?_)
    refine ws fun K49 hK49 => ?_
    refine wl_mvs (A := [_, _]) hF rfl ?_; clear hF a; intro a hF
    obtain ⟨g145, o145, m145, q145, cs145, hv145, hm145, hl145, hk145, hz145, hc145⟩ := Rd.idx (ha) hmx
    have hkk145 := hk145; obtain ⟨v145_0, v145_1, v145_2, v145_3, v145_4, rfl, r145_0, r145_1, r145_2, r145_3, r145_4⟩ := hk145
    refine wl hF rfl rfl rfl (r_index sl30 ((hF.ev rfl).trans hv145) (hF.ev rfl) (by omega) (by omega)) ?_; clear hF a; intro a hF
    refine wl hF rfl rfl rfl (r_field fo53_11 (hF.ev rfl)) ?_; clear hF a; intro a hF
    refine wl hF rfl rfl rfl (r_load1 sc24 (hF.ev rfl) (cellB hS.old (hc145 14 _ rfl))) ?_; clear hF a; intro a hF
    refine wl_mvs (A := [_]) hF rfl ?_; clear hF a; intro a hF
    refine wl_call hF rfl rfl rfl (r_call2 en28 (hF.ev rfl) (hF.ev rfl)) (heldIntS_c (hS.rd r145_0) (by omega) (by first | omega | (simp only [marks_length]; omega))) ?_; clear hF a; rintro v w2 a ⟨rfl, hB_⟩ hF; replace hS := hS.ext hB_; clear hB_
    refine wl_mvs (A := [_]) hF rfl ?_; clear hF a; intro a hF
    refine wl_nil (hK49 _ _ ?_)
    refine wp_seq_k fun K50 hK50 => ?_
    refine ws fun K51 hK51 => ?_
    refine wl_mvs (A := [_]) hF rfl ?_; clear hF a; intro a hF
    refine wl hF rfl rfl rfl (r_lss (hF.ev rfl) ec) ?_; clear hF a; intro a hF
    refine wl_nil (hK51 _ _ ?_)
    refine wc_fx (t := 151) hF rfl ?_ ?_ <;> clear hF <;> intro c151 hF <;> try simp only [zb1, zb2, zb3, zb4, zb5, zb6, zb7, zb8] at c151
    ·
      exfalso; first | exact (c151 rfl).elim | omega
    clear c151 hv145 hm145 hl145 hc145 hz145 hkk145 r145_0 r145_1 r145_2 r145_3 r145_4
    refine wp_skip ?_
    refine hK50 _ _ ?_
    refine ws fun K52 hK52 => ?_
    refine wl_mvs (A := [_, _]) hF rfl ?_; clear hF a; intro a hF
    obtain ⟨g154, o154, m154, q154, cs154, hv154, hm154, hl154, hk154, hz154, hc154⟩ := Rd.idx (ha) hmx
    have hkk154 := hk154; obtain ⟨v154_0, v154_1, v154_2, v154_3, v154_4, rfl, r154_0, r154_1, r154_2, r154_3, r154_4⟩ := hk154
    refine wl hF rfl rfl rfl (r_index sl30 ((hF.ev rfl).trans hv154) (hF.ev rfl) (by omega) (by omega)) ?_; clear hF a; intro a hF
    refine wl hF rfl rfl rfl (r_field fo53_12 (hF.ev rfl)) ?_; clear hF a; intro a hF
    refine wl hF rfl rfl rfl (r_load1 sc24 (hF.ev rfl) (cellB hS.old (hc154 15 _ rfl))) ?_; clear hF a; intro a hF
    refine wl_mvs (A := [_]) hF rfl ?_; clear hF a; intro a hF
    refine wl_call hF rfl rfl rfl (r_call2 en28 (hF.ev rfl) (hF.ev rfl)) (heldIntS_c (hS.rd r154_1) (by omega) (by first | omega | (simp only [marks_length]; omega))) ?_; clear hF a; rintro v w3 a ⟨rfl, hB_⟩ hF; replace hS := hS.ext hB_; clear hB_
    refine wl_mvs (A := [_]) hF rfl ?_; clear hF a; intro a hF
    refine wl_nil (hK52 _ _ ?_)
    refine wp_seq_k fun K53 hK53 => ?_
    refine ws fun K54 hK54 => ?_
    refine wl_mvs (A := [_]) hF rfl ?_; clear hF a; intro a hF
    refine wl hF rfl rfl rfl (r_lss (hF.ev rfl) ec) ?_; clear hF a; intro a hF
    refine wl_nil (hK54 _ _ ?_)
    refine wc_fx (t := 160) hF rfl ?_ ?_ <;> clear hF <;> intro c160 hF <;> try simp only [zb1, zb2, zb3, zb4, zb5, zb6, zb7, zb8] at c160
    ·
      exfalso; first | exact (c160 rfl).elim | omega
    clear c160 hv154 hm154 hl154 hc154 hz154 hkk154 r154_0 r154_1 r154_2 r154_3 r154_4
    refine wp_skip ?_
    refine hK53 _ _ ?_
    refine ws fun K55 hK55 => ?_
    refine wl_mvs (A := [_, _]) hF rfl ?_; clear hF a; intro a hF
    obtain ⟨g163, o163, m163, q163, cs163, hv163, hm163, hl163, hk163, hz163, hc163⟩ := Rd.idx (ha) hmx
    have hkk163 := hk163; obtain ⟨v163_0, v163_1, v163_2, v163_3, v163_4, rfl, r163_0, r163_1, r163_2, r163_3, r163_4⟩ := hk163
    refine wl hF rfl rfl rfl (r_index sl30 ((hF.ev rfl).trans hv163) (hF.ev rfl) (by omega) (by omega)) ?_; clear hF a; intro a hF
    refine wl hF rfl rfl rfl (r_field fo53_13 (hF.ev rfl)) ?_; clear hF a; intro a hF
    refine wl hF rfl rfl rfl (r_load1 sc51 (hF.ev rfl) (cellB hS.old (hc163 16 _ rfl))) ?_; clear hF a; intro a hF
    refine wl_mvs (A := [_]) hF rfl ?_; clear hF a; intro a hF
    refine wl_call hF rfl rfl rfl (r_call2 en86 (hF.ev rfl) (hF.ev rfl)) (heldEntryS_c (xs := _) (hS.rd r163_2) (by omega) (by omega)) ?_; clear hF a; rintro v w4 a ⟨rfl, hB_⟩ hF; replace hS := hS.ext hB_; clear hB_
    refine wl_mvs (A := [_]) hF rfl ?_; clear hF a; intro a hF
    refine wl_nil (hK55 _ _ ?_)
    refine wp_seq_k fun K56 hK56 => ?_
    refine ws fun K57 hK57 => ?_
    refine wl_mvs (A := [_]) hF rfl ?_; clear hF a; intro a hF
    refine wl hF rfl rfl rfl (r_lss (hF.ev rfl) ec) ?_; clear hF a; intro a hF
    refine wl_nil (hK57 _ _ ?_)
    refine wc_fx (t := 169) hF rfl ?_ ?_ <;> clear hF <;> intro c169 hF <;> try simp only [zb1, zb2, zb3, zb4, zb5, zb6, zb7, zb8] at c169
    ·
      exfalso; first | exact (c169 rfl).elim | omega
    clear c169 hv163 hm163 hl163 hc163 hz163 hkk163 r163_0 r163_1 r163_2 r163_3 r163_4
    refine wp_skip ?_
    refine hK56 _ _ ?_
    refine ws fun K58 hK58 => ?_
    refine wl_mvs (A := [_, _]) hF rfl ?_; clear hF a; intro a hF
    obtain ⟨g172, o172, m172, q172, cs172, hv172, hm172, hl172, hk172, hz172, hc172⟩ := Rd.idx (ha) hmx
    have hkk172 := hk172; obtain ⟨v172_0, v172_1, v172_2, v172_3, v172_4, rfl, r172_0, r172_1, r172_2, r172_3, r172_4⟩ := hk172
    refine wl hF rfl rfl rfl (r_index sl30 ((hF.ev rfl).trans hv172) (hF.ev rfl) (by omega) (by omega)) ?_; clear hF a; intro a hF
    refine wl hF rfl rfl rfl (r_field fo53_14 (hF.ev rfl)) ?_; clear hF a; intro a hF
    refine wl hF rfl rfl rfl (r_load1 sc51 (hF.ev rfl) (cellB hS.old (hc172 17 _ rfl))) ?_; clear hF a; intro a hF
    refine wl_mvs (A := [_]) hF rfl ?_; clear hF a; intro a hF
    refine wl_call hF rfl rfl rfl (r_call2 en86 (hF.ev rfl) (hF.ev rfl)) (heldEntryS_c (xs := _) (hS.rd r172_3) (by omega) (by omega)) ?_; clear hF a; rintro v w5 a ⟨rfl, hB_⟩ hF; replace hS := hS.ext hB_; clear hB_
    refine wl_mvs (A := [_]) hF rfl ?_; clear hF a; intro a hF
    refine wl_nil (hK58 _ _ ?_)
    refine wp_seq_k fun K59 hK59 => ?_
    refine ws fun K60 hK60 => ?_
    refine wl_mvs (A := [_]) hF rfl ?_; clear hF a; intro a hF
    refine wl hF rfl rfl rfl (r_lss (hF.ev rfl) ec) ?_; clear hF a; intro a hF
    refine wl_nil (hK60 _ _ ?_)
    refine wc_fx (t := 178) hF rfl ?_ ?_ <;> clear hF <;> intro c178 hF <;> try simp only [zb1, zb2, zb3, zb4, zb5, zb6, zb7, zb8] at c178
    ·
      exfalso; first | exact (c178 rfl).elim | omega
    clear c178 hv172 hm172 hl172 hc172 hz172 hkk172 r172_0 r172_1 r172_2 r172_3 r172_4
    refine wp_skip ?_
    refine hK59 _ _ ?_
    refine ws fun K61 hK61 => ?_
    refine wl_mvs (A := [_, _]) hF rfl ?_; clear hF a; intro a hF
    obtain ⟨g181, o181, m181, q181, cs181, hv181, hm181, hl181, hk181, hz181, hc181⟩ := Rd.idx (ha) hmx
    have hkk181 := hk181; obtain ⟨v181_0, v181_1, v181_2, v181_3, v181_4, rfl, r181_0, r181_1, r181_2, r181_3, r181_4⟩ := hk181
    refine wl hF rfl rfl rfl (r_index sl30 ((hF.ev rfl).trans hv181) (hF.ev rfl) (by omega) (by omega)) ?_; clear hF a; intro a hF
    refine wl hF rfl rfl rfl (r_field fo53_15 (hF.ev rfl)) ?_; clear hF a; intro a hF
    refine wl hF rfl rfl rfl (r_load1 sc24 (hF.ev rfl) (cellB hS.old (hc181 18 _ rfl))) ?_; clear hF a; intro a hF
    refine wl_mvs (A := [_]) hF rfl ?_; clear hF a; intro a hF
    refine wl_call hF rfl rfl rfl (r_call2 en28 (hF.ev rfl) (hF.ev rfl)) (heldIntS_c (hS.rd r181_4) (by omega) (by first | omega | (simp only [marks_length]; omega))) ?_; clear hF a; rintro v w6 a ⟨rfl, hB_⟩ hF; replace hS := hS.ext hB_; clear hB_
    refine wl_mvs (A := [_]) hF rfl ?_; clear hF a; intro a hF
    refine wl_nil (hK61 _ _ ?_)
    refine ws fun K62 hK62 => ?_
    refine wl_mvs (A := [_]) hF rfl ?_; clear hF a; intro a hF
    refine wl hF rfl rfl rfl (r_lss (hF.ev rfl) ec) ?_; clear hF a; intro a hF
    refine wl_nil (hK62 _ _ ?_)
    refine wc_fx (t := 187) hF rfl ?_ ?_ <;> clear hF <;> intro c187 hF <;> try simp only [zb1, zb2, zb3, zb4, zb5, zb6, zb7, zb8] at c187
    ·
      exfalso; first | exact (c187 rfl).elim | omega
    clear c187 hv181 hm181 hl181 hc181 hz181 hkk181 r181_0 r181_1 r181_2 r181_3 r181_4
    refine wp_skip ?_
    simp only [Exit.then, Exit.inBlock, ↓reduceIte]
    refine hK6 _ _ ?_
    refine wp_region_lit ?_
    refine wl_mvs (A := [_]) hF rfl ?_; clear hF a; intro a hF
    refine wl hF rfl rfl rfl (r_add (hF.ev rfl) ec) ?_; clear hF a; intro a hF
    refine wl_mvs (A := [_]) hF rfl ?_; clear hF a; intro a hF
    refine wl_nil ?_
    try simp only [Exit.then, Exit.inBlock, ↓reduceIte]
    refine ⟨k + 1, (by omega), hS, ((((hF.nil.keep hF (t := 4) rfl).keep hF (t := 0) rfl).keepE hF (t := 1) rfl (by rw [hc2]; congr 1; omega)).keepE hF (t := 5) rfl (wk (by omega))), by omega⟩
  rw [mrow_length] at c9
  refine wp_exit ?_
  simp only [Exit.then, Exit.inBlock, ↓reduceIte]
  refine hK2 _ _ ?_
  refine ws fun K63 hK63 => ?_
  refine wl_mvs (A := [_, _]) hF rfl ?_; clear hF a; intro a hF
  refine wl_nil (hK63 _ _ ?_)
  refine wp_ret ?_
  try simp only [Exit.then, Exit.inBlock, ↓reduceIte]
  obtain rfl : k = xs.length := by omega
  rw [List.take_length] at hF
  exact ret1 rfl hF rfl ⟨rfl, hS.old⟩

end Go.Proofs.YtifhfodphoeeoaaGreat.Wk
