/- Walks: marks of events. -/
import Derived.Test.YteldnoimmjihoaaChecked
import Derived.Test.YteldnoimmjihoaaWkE
import Derived.Test.YteldnoimmjihoaaFactsC
namespace Go.Proofs.Yteldnoimmjihoaa.Wk
open Go Go.RowKit Sl
set_option linter.unusedVariables false
set_option linter.unusedSimpArgs false
set_option maxRecDepth 20000

def _root_.Go.Proofs.Yteldnoimmjihoaa.Sl.Event.cnt (x : Sl.Event) : Nat := 8
def _root_.Go.Proofs.Yteldnoimmjihoaa.Sl.Event.mark (k : Int) (x : Sl.Event) : Sl.Event := ⟨k, ⟨k + 1, k + 1 + 1, k + 1 + 1 + 1⟩, ⟨k + 1 + 1 + 1 + 1, k + 1 + 1 + 1 + 1 + 1⟩, k + 1 + 1 + 1 + 1 + 1 + 1, k + 1 + 1 + 1 + 1 + 1 + 1 + 1⟩

theorem crow_event (xs : List Sl.Event) : crow Sl.Event.cnt xs = 8 * xs.length := by
  induction xs with
  | nil => rfl
  | cons x xs ih => simp only [crow, ih, List.length_cons, Sl.Event.cnt]; omega

set_option maxHeartbeats 4000000 in
set_option maxRecDepth 20000 in
theorem markEventS_c {W w : World} {l : List Res} {va : Value} {xs : List Sl.Event} {k0 : Int} (hS : Sep W (Own eventEK va xs :: l) w) (h0 : 0 ≤ k0) (h1 : k0 + crow Sl.Event.cnt xs < 9223372036854775807) : Calls Try.prog 25 #[va, vi k0] w (Ret fun v w' => v = vi (k0 + crow Sl.Event.cnt xs) ∧ Sep W (Own eventEK va (mrow Sl.Event.mark Sl.Event.cnt k0 xs) :: l) w') := by
  refine calls_fr Try.func25 rfl Try.ntmps25 rfl ?_
  intro a hF
  obtain ⟨A_a, q_a, rfl, hq_a, hn_a⟩ := (hS.own_rd (i := 0) rfl).sl; unfold maxLen at hn_a
  refine ws fun K1 hK1 => ?_
  refine wl_mvs (A := [_]) hF rfl ?_; clear hF a; intro a hF
  refine wl_nil (hK1 _ _ ?_)
  refine wp_seq_k fun K2 hK2 => ?_
  refine ws fun K3 hK3 => ?_
  refine wl_mvs (A := [_]) hF rfl ?_; clear hF a; intro a hF
  refine wl_nil (hK3 _ _ ?_)
  refine wp_block ?_
  replace hS := hS.pull (p := 0) rfl; dsimp only [List.eraseIdx] at hS
  have hL_ := ((hF.nil.keep hF (t := 4) rfl).keep hF (t := 0) rfl)
  refine wp_loop_m (σ := Nat) (fun k L_ => (5, vi k) :: (1, vi (k0 + (crow Sl.Event.cnt (List.take k xs) : Int))) :: L_) (fun k l_ => (Own eventEK (.slice A_a xs.length q_a) (mrow Sl.Event.mark Sl.Event.cnt k0 (xs.take k) ++ xs.drop k)) :: l_) (fun k => (k ≤ xs.length)) (fun k => xs.length - k) 0 ((by rw [show mrow Sl.Event.mark Sl.Event.cnt k0 (xs.take 0) ++ xs.drop 0 = xs from by simp [mrow]]; exact hS)) ((hL_.keepE hF (t := 1) rfl (by simp [crow])).keepE hF (t := 5) rfl rfl) ?_ ?_
  · exact Nat.zero_le _
  clear hF hS hL_ a
  rintro k a w1 hk hS hF; try dsimp only at hF; try dsimp only at hS
  refine wp_seq_k fun K4 hK4 => ?_
  refine ws fun K5 hK5 => ?_
  refine wl_mvs (A := [_, _]) hF rfl ?_; clear hF a; intro a hF
  refine wl hF rfl rfl rfl (r_len ul52 (hF.ev rfl)) ?_; clear hF a; intro a hF
  refine wl hF rfl rfl rfl (r_lss (hF.ev rfl) (hF.ev rfl)) ?_; clear hF a; intro a hF
  refine wl_nil (hK5 _ _ ?_)
  refine wc_fx (t := 9) hF rfl ?_ ?_ <;> clear hF <;> intro c9 hF <;> try simp only [zb1, zb2, zb3, zb4, zb5, zb6, zb7, zb8] at c9
  ·
    have hlt : k < xs.length := by omega
    have hx := at0_nat hlt
    have hc1 := crow_le1 (c := Sl.Event.cnt) hx
    have hc2 := crow_next (c := Sl.Event.cnt) hx
    simp only [Sl.Event.cnt] at hc1 hc2
    obtain ⟨vs, hS_⟩ := hS.borrow (q := 0) rfl (mix_at k0 hx); replace hS := hS_.part_open; clear hS_; dsimp only [List.set] at hS
    obtain ⟨gb, ob, qb, hvb, hlb⟩ := hS.but_sl (q := 0) rfl
    simp only [Value.slice.injEq] at hvb; obtain ⟨rfl, hlen_, rfl⟩ := hvb
    replace hS : Sep W (OwnBut eventEK _ _ k (eventEK.cells _ vs) :: _) _ := hS
    generalize hK : (k0 + (crow Sl.Event.cnt (List.take k xs) : Int)) = K at hF
    refine wp_skip ?_
    refine hK4 _ _ ?_
    refine wp_seq_k fun K6 hK6 => ?_
    refine wp_block ?_
    refine ws fun K7 hK7 => ?_
    refine wl_mvs (A := [_, _, _]) hF rfl ?_; clear hF a; intro a hF
    refine wl hF rfl rfl rfl (r_index sl52 (hF.ev rfl) (hF.ev rfl) (by omega) (by omega)) ?_; clear hF a; intro a hF
    refine wl hF rfl rfl rfl (r_field fo44_0 (hF.ev rfl)) ?_; clear hF a; intro a hF
    refine wl_bstore (q := 0) (j := 0) hF hS rfl sz3 (hF.ev rfl) rfl (hF.ev rfl) rfl rfl ?_; intro w2 hS_; replace hS := hS_; clear hS_; dsimp only [List.set] at hS
    refine wl_nil (hK7 _ _ ?_)
    refine ws fun K8 hK8 => ?_
    refine wl_mvs (A := [_]) hF rfl ?_; clear hF a; intro a hF
    refine wl hF rfl rfl rfl (r_add (hF.ev rfl) ec) ?_; clear hF a; intro a hF
    rw [w64_id (q := K + 1) (by omega) (by omega)] at hF
    refine wl_mvs (A := [_]) hF rfl ?_; clear hF a; intro a hF
    refine wl_nil (hK8 _ _ ?_)
    refine ws fun K9 hK9 => ?_
    refine wl_mvs (A := [_, _, _]) hF rfl ?_; clear hF a; intro a hF
    refine wl hF rfl rfl rfl (r_index sl52 (hF.ev rfl) (hF.ev rfl) (by omega) (by omega)) ?_; clear hF a; intro a hF
    refine wl hF rfl rfl rfl (r_field fo44_1 (hF.ev rfl)) ?_; clear hF a; intro a hF
    refine wl hF rfl rfl rfl (r_field fo41_0 (hF.ev rfl)) ?_; clear hF a; intro a hF
    refine wl_bstore (q := 0) (j := 1) hF hS rfl sz3 (hF.ev rfl) rfl (hF.ev rfl) rfl rfl ?_; intro w3 hS_; replace hS := hS_; clear hS_; dsimp only [List.set] at hS
    refine wl_nil (hK9 _ _ ?_)
    refine ws fun K10 hK10 => ?_
    refine wl_mvs (A := [_]) hF rfl ?_; clear hF a; intro a hF
    refine wl hF rfl rfl rfl (r_add (hF.ev rfl) ec) ?_; clear hF a; intro a hF
    rw [w64_id (q := K + 1 + 1) (by omega) (by omega)] at hF
    refine wl_mvs (A := [_]) hF rfl ?_; clear hF a; intro a hF
    refine wl_nil (hK10 _ _ ?_)
    refine ws fun K11 hK11 => ?_
    refine wl_mvs (A := [_, _, _]) hF rfl ?_; clear hF a; intro a hF
    refine wl hF rfl rfl rfl (r_index sl52 (hF.ev rfl) (hF.ev rfl) (by omega) (by omega)) ?_; clear hF a; intro a hF
    refine wl hF rfl rfl rfl (r_field fo44_1 (hF.ev rfl)) ?_; clear hF a; intro a hF
    refine wl hF rfl rfl rfl (r_field fo41_1 (hF.ev rfl)) ?_; clear hF a; intro a hF
    refine wl_bstore (q := 0) (j := 2) hF hS rfl sz3 (hF.ev rfl) rfl (hF.ev rfl) rfl rfl ?_; intro w4 hS_; replace hS := hS_; clear hS_; dsimp only [List.set] at hS
    refine wl_nil (hK11 _ _ ?_)
    refine ws fun K12 hK12 => ?_
    refine wl_mvs (A := [_]) hF rfl ?_; clear hF a; intro a hF
    refine wl hF rfl rfl rfl (r_add (hF.ev rfl) ec) ?_; clear hF a; intro a hF
    rw [w64_id (q := K + 1 + 1 + 1) (by omega) (by omega)] at hF
    refine wl_mvs (A := [_]) hF rfl ?_; clear hF a; intro a hF
    refine wl_nil (hK12 _ _ ?_)
    refine ws fun K13 hK13 => ?_
    refine wl_mvs (A := [_, _, _]) hF rfl ?_; clear hF a; intro a hF
    refine wl hF rfl rfl rfl (r_index sl52 (hF.ev rfl) (hF.ev rfl) (by omega) (by omega)) ?_; clear hF a; intro a hF
    refine wl hF rfl rfl rfl (r_field fo44_1 (hF.ev rfl)) ?_; clear hF a; intro a hF
    refine wl hF rfl rfl rfl (r_field fo41_2 (hF.ev rfl)) ?_; clear hF a; intro a hF
    refine wl_bstore (q := 0) (j := 3) hF hS rfl sz3 (hF.ev rfl) rfl (hF.ev rfl) rfl rfl ?_; intro w5 hS_; replace hS := hS_; clear hS_; dsimp only [List.set] at hS
    refine wl_nil (hK13 _ _ ?_)
    refine ws fun K14 hK14 => ?_
    refine wl_mvs (A := [_]) hF rfl ?_; clear hF a; intro a hF
    refine wl hF rfl rfl rfl (r_add (hF.ev rfl) ec) ?_; clear hF a; intro a hF
    rw [w64_id (q := K + 1 + 1 + 1 + 1) (by omega) (by omega)] at hF
    refine wl_mvs (A := [_]) hF rfl ?_; clear hF a; intro a hF
    refine wl_nil (hK14 _ _ ?_)
    refine ws fun K15 hK15 => ?_
    refine wl_mvs (A := [_, _, _]) hF rfl ?_; clear hF a; intro a hF
    refine wl hF rfl rfl rfl (r_index sl52 (hF.ev rfl) (hF.ev rfl) (by omega) (by omega)) ?_; clear hF a; intro a hF
    refine wl hF rfl rfl rfl (r_field fo44_2 (hF.ev rfl)) ?_; clear hF a; intro a hF
    refine wl hF rfl rfl rfl (r_field fo42_0 (hF.ev rfl)) ?_; clear hF a; intro a hF
    refine wl_bstore (q := 0) (j := 4) hF hS rfl sz3 (hF.ev rfl) rfl (hF.ev rfl) rfl rfl ?_; intro w6 hS_; replace hS := hS_; clear hS_; dsimp only [List.set] at hS
    refine wl_nil (hK15 _ _ ?_)
    refine ws fun K16 hK16 => ?_
    refine wl_mvs (A := [_]) hF rfl ?_; clear hF a; intro a hF
    refine wl hF rfl rfl rfl (r_add (hF.ev rfl) ec) ?_; clear hF a; intro a hF
    rw [w64_id (q := K + 1 + 1 + 1 + 1 + 1) (by omega) (by omega)] at hF
    refine wl_mvs (A := [_]) hF rfl ?_; clear hF a; intro a hF
    refine wl_nil (hK16 _ _ ?_)
    refine ws fun K17 hK17 => ?_
    refine wl_mvs (A := [_, _, _]) hF rfl ?_; clear hF a; intro a hF
    refine wl hF rfl rfl rfl (r_index sl52 (hF.ev rfl) (hF.ev rfl) (by omega) (by omega)) ?_; clear hF a; intro a hF
    refine wl hF rfl rfl rfl (r_field fo44_2 (hF.ev rfl)) ?_; clear hF a; intro a hF
    refine wl hF rfl rfl rfl (r_field fo42_1 (hF.ev rfl)) ?_; clear hF a; intro a hF
    refine wl_bstore (q := 0) (j := 5) hF hS rfl sz3 (hF.ev rfl) rfl (hF.ev rfl) rfl rfl ?_; intro w7 hS_; replace hS := hS_; clear hS_; dsimp only [List.set] at hS
    refine wl_nil (hK17 _ _ ?_)
    refine ws fun K18 hK18 => ?_
    refine wl_mvs (A := [_]) hF rfl ?_; clear hF a; intro a hF
    refine wl hF rfl rfl rfl (r_add (hF.ev rfl) ec) ?_; clear hF a; intro a hF
    rw [w64_id (q := K + 1 + 1 + 1 + 1 + 1 + 1) (by omega) (by omega)] at hF
    refine wl_mvs (A := [_]) hF rfl ?_; clear hF a; intro a hF
    refine wl_nil (hK18 _ _ ?_)
    refine ws fun K19 hK19 => ?_
    refine wl_mvs (A := [_, _, _]) hF rfl ?_; clear hF a; intro a hF
    refine wl hF rfl rfl rfl (r_index sl52 (hF.ev rfl) (hF.ev rfl) (by omega) (by omega)) ?_; clear hF a; intro a hF
    refine wl hF rfl rfl rfl (r_field fo44_3 (hF.ev rfl)) ?_; clear hF a; intro a hF
    refine wl_bstore (q := 0) (j := 6) hF hS rfl sz3 (hF.ev rfl) rfl (hF.ev rfl) rfl rfl ?_; intro w8 hS_; replace hS := hS_; clear hS_; dsimp only [List.set] at hS
    refine wl_nil (hK19 _ _ ?_)
    refine ws fun K20 hK20 => ?_
    refine wl_mvs (A := [_]) hF rfl ?_; clear hF a; intro a hF
    refine wl hF rfl rfl rfl (r_add (hF.ev rfl) ec) ?_; clear hF a; intro a hF
    rw [w64_id (q := K + 1 + 1 + 1 + 1 + 1 + 1 + 1) (by omega) (by omega)] at hF
    refine wl_mvs (A := [_]) hF rfl ?_; clear hF a; intro a hF
    refine wl_nil (hK20 _ _ ?_)
    refine ws fun K21 hK21 => ?_
    refine wl_mvs (A := [_, _, _]) hF rfl ?_; clear hF a; intro a hF
    refine wl hF rfl rfl rfl (r_index sl52 (hF.ev rfl) (hF.ev rfl) (by omega) (by omega)) ?_; clear hF a; intro a hF
    refine wl hF rfl rfl rfl (r_field fo44_4 (hF.ev rfl)) ?_; clear hF a; intro a hF
    refine wl_bstore (q := 0) (j := 7) hF hS rfl sz3 (hF.ev rfl) rfl (hF.ev rfl) rfl rfl ?_; intro w9 hS_; replace hS := hS_; clear hS_; dsimp only [List.set] at hS
    refine wl_nil (hK21 _ _ ?_)
    refine wp_region_lit ?_
    refine wl_mvs (A := [_]) hF rfl ?_; clear hF a; intro a hF
    refine wl hF rfl rfl rfl (r_add (hF.ev rfl) ec) ?_; clear hF a; intro a hF
    rw [w64_id (q := K + 1 + 1 + 1 + 1 + 1 + 1 + 1 + 1) (by omega) (by omega)] at hF
    refine wl_mvs (A := [_]) hF rfl ?_; clear hF a; intro a hF
    refine wl_nil ?_
    simp only [Exit.then, Exit.inBlock, ↓reduceIte]
    refine hK6 _ _ ?_
    refine wp_region_lit ?_
    refine wl_mvs (A := [_]) hF rfl ?_; clear hF a; intro a hF
    refine wl hF rfl rfl rfl (r_add (hF.ev rfl) ec) ?_; clear hF a; intro a hF
    refine wl_mvs (A := [_]) hF rfl ?_; clear hF a; intro a hF
    refine wl_nil ?_
    try simp only [Exit.then, Exit.inBlock, ↓reduceIte]
    subst hK
    replace hS := (hS.part_mk (ek := eventEK) (x := Sl.Event.mark (k0 + (crow Sl.Event.cnt (List.take k xs) : Int)) (at0 xs (k : Int))) (vs := vs) (l := OwnBut eventEK _ _ k _ :: l) rfl).giveback (q := 0) rfl rfl
    dsimp only [List.set] at hS; rw [mix_set k0 hx] at hS
    refine ⟨k + 1, (by omega), hS, ((((hF.nil.keep hF (t := 4) rfl).keep hF (t := 0) rfl).keepE hF (t := 1) rfl (by rw [hc2]; congr 1; omega)).keepE hF (t := 5) rfl (wk (by omega))), by omega⟩
  refine wp_exit ?_
  simp only [Exit.then, Exit.inBlock, ↓reduceIte]
  refine hK2 _ _ ?_
  refine ws fun K22 hK22 => ?_
  refine wl_mvs (A := [_, _]) hF rfl ?_; clear hF a; intro a hF
  refine wl_nil (hK22 _ _ ?_)
  refine wp_ret ?_
  try simp only [Exit.then, Exit.inBlock, ↓reduceIte]
  obtain rfl : k = xs.length := by omega
  rw [List.take_length] at hF hS
  refine ret1 rfl hF rfl ⟨rfl, ?_⟩
  rw [List.drop_length, List.append_nil] at hS; exact hS

end Go.Proofs.Yteldnoimmjihoaa.Wk
