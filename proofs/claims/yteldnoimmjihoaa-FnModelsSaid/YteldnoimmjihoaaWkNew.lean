/- Walks: NewModel, the reference's, the program's, and the law. -/
import Derived.Test.YteldnoimmjihoaaChecked
import Derived.Test.YteldnoimmjihoaaWkC
namespace Go.Proofs.Yteldnoimmjihoaa.Wk
open Go Go.RowKit Sl
set_option linter.unusedVariables false
set_option linter.unusedSimpArgs false
set_option maxRecDepth 20000

/-- the model at the beginning -/
def newModel (c : Config) : Model := if c.ok then ⟨List.replicate c.keys.toNat (-1), List.replicate c.threads.toNat []⟩ else ⟨[], []⟩
theorem crow_rep0 (n : Nat) : crow List.length (List.replicate n ([] : List Int)) = 0 := by
  induction n with
  | zero => rfl
  | succ n ih => simp [List.replicate_succ, crow, ih]
theorem newModel_cnt (c : Config) : (newModel c).cnt ≤ 100 ∧ (newModel c).size ≤ 100 := by
  unfold newModel Model.cnt Model.size
  split
  · rename_i h
    unfold Config.ok at h
    simp only [List.length_replicate, crow_rep0]
    omega
  · simp [crow]
theorem rep_next {α : Type} (k : Nat) (x : α) : List.replicate k x ++ [x] = List.replicate (k + 1) x := List.replicate_succ'.symm
theorem rep_copy {n k m : Nat} {x : Int} (hk : k ≤ n) (hm : m = min k (n - k)) : (List.replicate k x ++ List.replicate (n - k) (0 : Int)).take k ++ (List.replicate k x).take m ++ (List.replicate k x ++ List.replicate (n - k) (0 : Int)).drop (k + m) = List.replicate (k + m) x ++ List.replicate (n - (k + m)) 0 := by
  rw [List.take_left' (by simp), List.drop_append]
  simp only [List.length_replicate, List.drop_replicate, List.take_replicate]
  rw [show k - (k + m) = 0 by omega, List.replicate_zero, List.nil_append, Nat.min_eq_left (by omega), List.replicate_append_replicate]
  congr 2; omega
theorem newModel_of {c : Config} {k j : Nat} (hk : (k : Int) ≤ c.keys ∨ k = 0) (hz : c.ok ∨ k = 0) (h1 : ¬ (k : Int) < c.keys ∨ ¬ c.ok) (hj : (j : Int) ≤ c.threads ∨ j = 0) (hy : c.ok ∨ j = 0) (h2 : ¬ (j : Int) < c.threads ∨ ¬ c.ok) :
    newModel c = ⟨List.replicate k (-1), List.replicate j []⟩ := by
  unfold newModel
  split
  · rename_i h
    have h' := h
    unfold Config.ok at h'
    have e1 : c.keys.toNat = k := by
      rcases h1 with h1 | h1
      · omega
      · exact absurd h h1
    have e2 : c.threads.toNat = j := by
      rcases h2 with h2 | h2
      · omega
      · exact absurd h h2
    rw [e1, e2]
  · rename_i h
    have e1 : k = 0 := hz.resolve_left h
    have e2 : j = 0 := hy.resolve_left h
    subst e1; subst e2; rfl

set_option maxHeartbeats 4000000 in
set_option maxRecDepth 20000 in
theorem mul64_c {W : World} {n : Int} (hn : n = 1 ∨ n = 2 ∨ n = 3 ∨ n = 4) : Calls Try.prog 92 #[.int .u64 1, .int .u64 n] W (Ret fun v w' => v = .tuple #[.int .u64 0, .int .u64 n] ∧ Below W.heap.size W w') := by
  refine calls_fr Try.func92 rfl Try.ntmps92 rfl ?_
  intro a hF
  have hS := Sep.refl W
  refine ws fun K1 hK1 => ?_
  refine wl_mvs (A := [_, _]) hF rfl ?_; clear hF a; intro a hF
  refine wl_nil (hK1 _ _ ?_)
  refine ws fun K2 hK2 => ?_
  refine wl_mvs (A := [_]) hF rfl ?_; clear hF a; intro a hF
  refine wl hF rfl rfl rfl (r_bits (r := .int .u64 1) (hF.ev rfl) ec rfl (by rcases hn with rfl | rfl | rfl | rfl <;> rfl)) ?_; clear hF a; intro a hF
  refine wl_mvs (A := [_]) hF rfl ?_; clear hF a; intro a hF
  refine wl_nil (hK2 _ _ ?_)
  refine ws fun K3 hK3 => ?_
  refine wl_mvs (A := [_]) hF rfl ?_; clear hF a; intro a hF
  refine wl hF rfl rfl rfl (r_bits (r := .int .u64 0) (hF.ev rfl) ec rfl (by rcases hn with rfl | rfl | rfl | rfl <;> rfl)) ?_; clear hF a; intro a hF
  refine wl_mvs (A := [_]) hF rfl ?_; clear hF a; intro a hF
  refine wl_nil (hK3 _ _ ?_)
  refine ws fun K4 hK4 => ?_
  refine wl_mvs (A := [_]) hF rfl ?_; clear hF a; intro a hF
  refine wl hF rfl rfl rfl (r_bits (r := .int .u64 n) (hF.ev rfl) ec rfl (by rcases hn with rfl | rfl | rfl | rfl <;> rfl)) ?_; clear hF a; intro a hF
  refine wl_mvs (A := [_]) hF rfl ?_; clear hF a; intro a hF
  refine wl_nil (hK4 _ _ ?_)
  refine ws fun K5 hK5 => ?_
  refine wl_mvs (A := [_]) hF rfl ?_; clear hF a; intro a hF
  refine wl hF rfl rfl rfl (r_bits (r := .int .u64 0) (hF.ev rfl) ec rfl (by rcases hn with rfl | rfl | rfl | rfl <;> rfl)) ?_; clear hF a; intro a hF
  refine wl_mvs (A := [_]) hF rfl ?_; clear hF a; intro a hF
  refine wl_nil (hK5 _ _ ?_)
  refine ws fun K6 hK6 => ?_
  refine wl_mvs (A := [_, _]) hF rfl ?_; clear hF a; intro a hF
  refine wl hF rfl rfl rfl (r_bits (r := .int .u64 n) (hF.ev rfl) (hF.ev rfl) rfl (by rcases hn with rfl | rfl | rfl | rfl <;> rfl)) ?_; clear hF a; intro a hF
  refine wl_mvs (A := [_]) hF rfl ?_; clear hF a; intro a hF
  refine wl_nil (hK6 _ _ ?_)
  refine ws fun K7 hK7 => ?_
  refine wl_mvs (A := [_, _]) hF rfl ?_; clear hF a; intro a hF
  refine wl hF rfl rfl rfl (r_bits (r := .int .u64 0) (hF.ev rfl) (hF.ev rfl) rfl (by rcases hn with rfl | rfl | rfl | rfl <;> rfl)) ?_; clear hF a; intro a hF
  refine wl_mvs (A := [_]) hF rfl ?_; clear hF a; intro a hF
  refine wl hF rfl rfl rfl (r_bits (r := .int .u64 0) (hF.ev rfl) ec rfl (by rcases hn with rfl | rfl | rfl | rfl <;> rfl)) ?_; clear hF a; intro a hF
  refine wl hF rfl rfl rfl (r_bits (r := .int .u64 0) (hF.ev rfl) (hF.ev rfl) rfl (by rcases hn with rfl | rfl | rfl | rfl <;> rfl)) ?_; clear hF a; intro a hF
  refine wl_mvs (A := [_]) hF rfl ?_; clear hF a; intro a hF
  refine wl_nil (hK7 _ _ ?_)
  refine ws fun K8 hK8 => ?_
  refine wl_mvs (A := [_]) hF rfl ?_; clear hF a; intro a hF
  refine wl hF rfl rfl rfl (r_bits (r := .int .u64 0) (hF.ev rfl) ec rfl (by rcases hn with rfl | rfl | rfl | rfl <;> rfl)) ?_; clear hF a; intro a hF
  refine wl_mvs (A := [_]) hF rfl ?_; clear hF a; intro a hF
  refine wl_nil (hK8 _ _ ?_)
  refine ws fun K9 hK9 => ?_
  refine wl_mvs (A := [_]) hF rfl ?_; clear hF a; intro a hF
  refine wl hF rfl rfl rfl (r_bits (r := .int .u64 0) (hF.ev rfl) ec rfl (by rcases hn with rfl | rfl | rfl | rfl <;> rfl)) ?_; clear hF a; intro a hF
  refine wl_mvs (A := [_]) hF rfl ?_; clear hF a; intro a hF
  refine wl_nil (hK9 _ _ ?_)
  refine ws fun K10 hK10 => ?_
  refine wl_mvs (A := [_, _, _]) hF rfl ?_; clear hF a; intro a hF
  refine wl hF rfl rfl rfl (r_bits (r := .int .u64 0) (hF.ev rfl) (hF.ev rfl) rfl (by rcases hn with rfl | rfl | rfl | rfl <;> rfl)) ?_; clear hF a; intro a hF
  refine wl hF rfl rfl rfl (r_bits (r := .int .u64 0) (hF.ev rfl) (hF.ev rfl) rfl (by rcases hn with rfl | rfl | rfl | rfl <;> rfl)) ?_; clear hF a; intro a hF
  refine wl_mvs (A := [_]) hF rfl ?_; clear hF a; intro a hF
  refine wl_nil (hK10 _ _ ?_)
  refine ws fun K11 hK11 => ?_
  refine wl_mvs (A := [_, _]) hF rfl ?_; clear hF a; intro a hF
  refine wl hF rfl rfl rfl (r_bits (r := .int .u64 0) (hF.ev rfl) (hF.ev rfl) rfl (by rcases hn with rfl | rfl | rfl | rfl <;> rfl)) ?_; clear hF a; intro a hF
  refine wl_mvs (A := [_]) hF rfl ?_; clear hF a; intro a hF
  refine wl hF rfl rfl rfl (r_bits (r := .int .u64 0) (hF.ev rfl) (hF.ev rfl) rfl (by rcases hn with rfl | rfl | rfl | rfl <;> rfl)) ?_; clear hF a; intro a hF
  refine wl_mvs (A := [_]) hF rfl ?_; clear hF a; intro a hF
  refine wl hF rfl rfl rfl (r_bits (r := .int .u64 0) (hF.ev rfl) ec rfl (by rcases hn with rfl | rfl | rfl | rfl <;> rfl)) ?_; clear hF a; intro a hF
  refine wl hF rfl rfl rfl (r_bits (r := .int .u64 0) (hF.ev rfl) (hF.ev rfl) rfl (by rcases hn with rfl | rfl | rfl | rfl <;> rfl)) ?_; clear hF a; intro a hF
  refine wl_mvs (A := [_]) hF rfl ?_; clear hF a; intro a hF
  refine wl_nil (hK11 _ _ ?_)
  refine ws fun K12 hK12 => ?_
  refine wl_mvs (A := [_, _]) hF rfl ?_; clear hF a; intro a hF
  refine wl hF rfl rfl rfl (r_bits (r := .int .u64 n) (hF.ev rfl) (hF.ev rfl) rfl (by rcases hn with rfl | rfl | rfl | rfl <;> rfl)) ?_; clear hF a; intro a hF
  refine wl_mvs (A := [_]) hF rfl ?_; clear hF a; intro a hF
  refine wl_nil (hK12 _ _ ?_)
  refine wp_ret ?_
  try simp only [Exit.then, Exit.inBlock, ↓reduceIte]
  exact ret2 rfl hF rfl rfl ⟨rfl, hS.old⟩

set_option maxHeartbeats 4000000 in
set_option maxRecDepth 20000 in
theorem mul_c {W : World} {n : Int} (hn : n = 1 ∨ n = 2 ∨ n = 3 ∨ n = 4) : Calls Try.prog 89 #[.int .u64 1, .int .u64 n] W (Ret fun v w' => v = .tuple #[.int .u64 0, .int .u64 n] ∧ Below W.heap.size W w') := by
  refine calls_fr Try.func89 rfl Try.ntmps89 rfl ?_
  intro a hF
  have hS := Sep.refl W
  refine ws fun K1 hK1 => ?_
  refine wl_mvs (A := [_, _]) hF rfl ?_; clear hF a; intro a hF
  refine wl_nil (hK1 _ _ ?_)
  refine wp_seq_k fun K2 hK2 => ?_
  refine wc_false ec ?_
  refine wp_skip ?_
  refine hK2 _ _ ?_
  refine ws fun K3 hK3 => ?_
  refine wl_mvs (A := [_, _]) hF rfl ?_; clear hF a; intro a hF
  refine wl_call hF rfl rfl rfl (r_call2 en92 (hF.ev rfl) (hF.ev rfl)) (mul64_c hn) ?_; clear hF a; rintro v w1 a ⟨rfl, hB_⟩ hF; replace hS := hS.ext hB_; clear hB_
  refine wl_mvs (A := [_]) hF rfl ?_; clear hF a; intro a hF
  refine wl hF rfl rfl rfl (r_extract (hF.ev rfl) rfl) ?_; clear hF a; intro a hF
  refine wl hF rfl rfl rfl (r_extract (hF.ev rfl) rfl) ?_; clear hF a; intro a hF
  refine wl_mvs (A := [_, _]) hF rfl ?_; clear hF a; intro a hF
  refine wl_nil (hK3 _ _ ?_)
  refine ws fun K4 hK4 => ?_
  refine wl_mvs (A := [_, _, _, _]) hF rfl ?_; clear hF a; intro a hF
  refine wl_nil (hK4 _ _ ?_)
  refine wp_ret ?_
  try simp only [Exit.then, Exit.inBlock, ↓reduceIte]
  exact ret2 rfl hF rfl rfl ⟨rfl, hS.old⟩

set_option maxHeartbeats 4000000 in
set_option maxRecDepth 20000 in
theorem repeat_c {W : World} {va : Value} {x nn : Int} (ha : intEK.Rd W va [x]) (hn : nn = 1 ∨ nn = 2 ∨ nn = 3 ∨ nn = 4) : Calls Try.prog 81 #[va, vi nn] W (Ret (Mk W (fun s : Slv => sv s) (fun s => [Own intEK (sv s) (List.replicate nn.toNat x)]))) := by
  refine calls_fr Try.func81 rfl Try.ntmps81 rfl ?_
  intro a hF
  obtain ⟨n, rfl⟩ : ∃ n : Nat, nn = n := ⟨nn.toNat, by omega⟩
  rw [Int.toNat_natCast]
  have hS := Sep.refl W
  have ha0 := ha
  obtain ⟨g_a, o_a, m_a, q_a, rfl, hm_a, _, hc_a⟩ := Rd.idxF ha (i := 0) rfl
  obtain rfl : m_a = 1 := hm_a
  have hmul : (1 : Int) * n = n := by omega
  refine ws fun K1 hK1 => ?_
  refine wl_mvs (A := [_]) hF rfl ?_; clear hF a; intro a hF
  refine wl_nil (hK1 _ _ ?_)
  refine wp_seq_k fun K2 hK2 => ?_
  refine ws fun K3 hK3 => ?_
  refine wl_mvs (A := [_]) hF rfl ?_; clear hF a; intro a hF
  refine wl hF rfl rfl rfl (r_lss (hF.ev rfl) ec) ?_; clear hF a; intro a hF
  refine wl_nil (hK3 _ _ ?_)
  refine wc_fx (t := 10) hF rfl ?_ ?_ <;> clear hF <;> intro c10 hF <;> try simp only [zb1, zb2, zb3, zb4, zb5, zb6, zb7, zb8] at c10
  ·
    exfalso; first | omega | exact (c10 rfl).elim | (simp_all; done)
  refine wp_skip ?_
  refine hK2 _ _ ?_
  refine ws fun K4 hK4 => ?_
  refine wl_mvs (A := [_]) hF rfl ?_; clear hF a; intro a hF
  refine wl hF rfl rfl rfl (r_len ul24 (hF.ev rfl)) ?_; clear hF a; intro a hF
  refine wl hF rfl rfl rfl (r_conv iu3 iu111 (hF.ev rfl) (by first | exact wrap_u64 (by omega) (by omega) | exact w64_id (by omega) (by omega))) ?_; clear hF a; intro a hF
  refine wl_mvs (A := [_]) hF rfl ?_; clear hF a; intro a hF
  refine wl hF rfl rfl rfl (r_conv iu3 iu111 (hF.ev rfl) (by first | exact wrap_u64 (by omega) (by omega) | exact w64_id (by omega) (by omega))) ?_; clear hF a; intro a hF
  refine wl_call hF rfl rfl rfl (r_call2 en89 (hF.ev rfl) (hF.ev rfl)) (mul_c hn) ?_; clear hF a; rintro v w1 a ⟨rfl, hB_⟩ hF; replace hS := hS.ext hB_; clear hB_
  refine wl_mvs (A := [_]) hF rfl ?_; clear hF a; intro a hF
  refine wl hF rfl rfl rfl (r_extract (hF.ev rfl) rfl) ?_; clear hF a; intro a hF
  refine wl hF rfl rfl rfl (r_extract (hF.ev rfl) rfl) ?_; clear hF a; intro a hF
  refine wl_mvs (A := [_, _]) hF rfl ?_; clear hF a; intro a hF
  refine wl_nil (hK4 _ _ ?_)
  refine wp_seq_k fun K5 hK5 => ?_
  refine ws fun K6 hK6 => ?_
  refine wl_mvs (A := [_]) hF rfl ?_; clear hF a; intro a hF
  refine wl hF rfl rfl rfl (r_gtr (hF.ev rfl) ec) ?_; clear hF a; intro a hF
  refine wl_mvs (A := [_]) hF rfl ?_; clear hF a; intro a hF
  apply wl_or (A := [_, _, _]) (pk := 26) hF hS (tc := 23) rfl
  ·
    intro hg23 a hF; try simp only [zb1, zb2, zb3, zb4, zb5, zb6, zb7, zb8] at hg23
    refine wl_mvs (A := [_]) hF rfl ?_; clear hF a; intro a hF
    refine wl_take hF rfl rfl rfl rfl ?_
    refine wl hF rfl rfl rfl (r_gtr (hF.ev rfl) ec) ?_; clear hF a; intro a hF
    refine wl hF rfl rfl rfl (r_pick_f (hF.ev rfl) (hF.ev rfl)) ?_; clear hF a; intro a hF
    exact wl_nil ⟨rfl, (Fr.pre (A := [_, _, _]) hF rfl).keep hF (t := 26) rfl, hS⟩
  ·
    intro hg23 a hF; try simp only [zb1, zb2, zb3, zb4, zb5, zb6, zb7, zb8] at hg23
    refine wl_mvs (A := [_, _]) hF rfl ?_; clear hF a; intro a hF
    refine wl hF rfl rfl rfl (r_pick_t (hF.ev rfl) ec) ?_; clear hF a; intro a hF
    exact wl_nil ⟨rfl, (Fr.pre (A := [_, _, _]) hF rfl).keep hF (t := 26) rfl, hS⟩
  clear hF a hS; intro a w2 hF hS
  refine wl_nil (hK6 _ _ ?_)
  refine wc_fx (t := 26) hF rfl ?_ ?_ <;> clear hF <;> intro c26 hF <;> try simp only [zb1, zb2, zb3, zb4, zb5, zb6, zb7, zb8] at c26
  ·
    exfalso; first | omega | exact (c26 rfl).elim | (simp_all; done)
  refine wp_skip ?_
  refine hK5 _ _ ?_
  refine ws fun K7 hK7 => ?_
  refine wl_mvs (A := [_]) hF rfl ?_; clear hF a; intro a hF
  refine wl hF rfl rfl rfl (r_conv iu111 iu3 (hF.ev rfl) (by first | exact wrap_u64 (by omega) (by omega) | exact w64_id (by omega) (by omega))) ?_; clear hF a; intro a hF
  refine wl_make intEK 0 [] hF hS rfl mk24 rfl (fun _ => Sat.nil _ _) (hF.ev rfl) (by omega) (by unfold maxLen; omega) ?_; clear hF a; intro gm_30 w3 a hS_ hF; replace hS := hS_; clear hS_
  refine wl_mvs (A := [_]) hF rfl ?_; clear hF a; intro a hF
  refine wl_nil (hK7 _ _ ?_)
  refine ws fun K8 hK8 => ?_
  refine wl_mvs (A := [_, _]) hF rfl ?_; clear hF a; intro a hF
  obtain ⟨w4, hcp, hS_⟩ := run_copy_own (P := Try.prog) (ty := 3) (T' := 24) (q := 0) (i := 0) (m := 1) (ys := [x]) (dn := n) (dc := n) (B := some ⟨g_a, o_a, none⟩) (sn := 1) (sc := q_a) hS sl24 rfl  (by simp) (Nat.zero_le _) (by omega) (fun _ => ⟨_, _, rfl, Rd.cellsTake (hS.rd ha) rfl⟩) rfl
  refine wl (w' := w4) hF rfl rfl rfl (r_copy (hF.ev rfl) (hF.ev rfl) hcp) ?_; clear hF a hcp; intro a hF; replace hS := hS_; clear hS_; dsimp only [List.set] at hS
  refine wl_mvs (A := [_]) hF rfl ?_; clear hF a; intro a hF
  refine wl_nil (hK8 _ _ ?_)
  refine wp_seq_k fun K9 hK9 => ?_
  refine wp_block ?_
  rw [show (List.replicate n (0 : Int)).take 0 ++ [x].take 1 ++ (List.replicate n (0 : Int)).drop (0 + 1) = List.replicate 1 x ++ List.replicate (n - 1) 0 from by simp] at hS
  replace hS := hS.pull (p := 0) rfl; dsimp only [List.eraseIdx] at hS
  have hL_ := ((hF.nil.keep hF (t := 7) rfl).keep hF (t := 4) rfl)
  refine wp_loop_m (σ := Nat) (fun k L_ => (8, vi k) :: L_) (fun k l_ => (Own intEK (.slice (some ⟨gm_30, 0, none⟩) n n) (List.replicate k x ++ List.replicate (n - k) 0)) :: l_) (fun k => (1 ≤ k) ∧ (k ≤ n)) (fun k => n - k) 1 (hS) (hL_.keepE hF (t := 8) rfl rfl) ?_ ?_
  · exact ⟨Nat.le_refl _, by omega⟩
  clear hF hS hL_ a
  rintro k a w5 ⟨hk1, hkn⟩ hS hF; try dsimp only at hF; try dsimp only at hS
  refine wp_seq_k fun K10 hK10 => ?_
  refine ws fun K11 hK11 => ?_
  refine wl_mvs (A := [_, _]) hF rfl ?_; clear hF a; intro a hF
  refine wl hF rfl rfl rfl (r_len ul24 (hF.ev rfl)) ?_; clear hF a; intro a hF
  refine wl hF rfl rfl rfl (r_lss (hF.ev rfl) (hF.ev rfl)) ?_; clear hF a; intro a hF
  refine wl_nil (hK11 _ _ ?_)
  refine wc_fx (t := 37) hF rfl ?_ ?_ <;> clear hF <;> intro c37 hF <;> try simp only [zb1, zb2, zb3, zb4, zb5, zb6, zb7, zb8] at c37
  ·
    refine wp_skip ?_
    refine hK10 _ _ ?_
    refine wp_block ?_
    refine wp_region_todo (is := [0, 1, 2, 3, 4, 5, 6, 7, 8, 9]) [] [7, 8, 9] (by kernel_rfl) hF hS ⟨trivial, by decide, by decide, by decide⟩ (by kernel_rfl) ?_; clear hF; intro hl_ wd hSd
    refine todo_pure hl_ (by kernel_rfl) rfl (gw0 rfl) rfl rfl rfl (fun a w_ hF => r_move (hF.ev rfl)) ?_
    refine todo_pure hl_ (by kernel_rfl) rfl (gw0 rfl) rfl rfl rfl (fun a w_ hF => r_move (hF.ev rfl)) ?_
    refine todo_pure hl_ (by kernel_rfl) rfl (gw0 rfl) rfl rfl rfl (fun a w_ hF => r_move (hF.ev rfl)) ?_
    refine todo_pure hl_ (by kernel_rfl) rfl (gw0 rfl) rfl rfl rfl (fun a w_ hF => r_cutlo (i := k) sl24 (hF.ev rfl) ((hF.ev rfl).trans (by first | rfl | (congr 1; omega))) (by omega) (by omega)) ?_
    refine todo_pure hl_ (by kernel_rfl) rfl (gw0 rfl) rfl rfl rfl (fun a w_ hF => r_move (hF.ev rfl)) ?_
    refine todo_pure hl_ (by kernel_rfl) rfl (gw0 rfl) rfl rfl rfl (fun a w_ hF => r_move (hF.ev rfl)) ?_
    refine todo_pure hl_ (by kernel_rfl) rfl (gw0 rfl) rfl rfl rfl (fun a w_ hF => r_cuthi (j := k) sl24 (hF.ev rfl) ((hF.ev rfl).trans (by first | rfl | (congr 1; omega))) (by omega)) ?_
    refine todo_fin hl_ rfl (by kernel_rfl) (tl := [_, _, _]) rfl ?_; clear hS a; intro a w6 hF hA_
    have hS := hA_.sep; clear hA_
    clear hl_; try clear hSd
    try dsimp only [List.cons_append, List.nil_append, List.set] at hS
    try clear wd
    obtain ⟨w7, hcp, hS_⟩ := run_copy_own (P := Try.prog) (ty := 3) (T' := 24) (q := 0) (i := k) (m := (min k (n - k))) (ys := List.replicate k x) (dn := n - k) (dc := n - k) (B := some ⟨gm_30, 0, none⟩) (sn := k) (sc := n) hS sl24 rfl  (by simp <;> omega) (by simp <;> omega) rfl (fun _ => ⟨_, _, rfl, Rd.cellsTake (hS.own_rd (i := 0) rfl) (by rw [List.take_append_of_le_length (by simp; omega)])⟩) (by simp)
    refine wl (w' := w7) hF rfl rfl rfl (r_copy ((hF.ev rfl).trans (by rw [cutA, if_neg (show ¬ n = k by omega)]; simp [Addr.add_lit])) (hF.ev rfl) hcp) ?_; clear hF a hcp; intro a hF; replace hS := hS_; clear hS_; dsimp only [List.set] at hS
    refine wl hF rfl rfl rfl (r_add (hF.ev rfl) (hF.ev rfl)) ?_; clear hF a; intro a hF
    refine wl_mvs (A := [_]) hF rfl ?_; clear hF a; intro a hF
    refine wl_nil ⟨rfl, ?_⟩
    try simp only [Exit.then, Exit.inBlock, ↓reduceIte]
    rw [rep_copy (m := min k (n - k)) hkn rfl] at hS
    refine ⟨k + min k (n - k), ⟨by omega, by omega⟩, hS, (((hF.nil.keep hF (t := 7) rfl).keep hF (t := 4) rfl).keepE hF (t := 8) rfl (by rw [w64_id (by omega) (by omega)]; first | done | rfl)), by omega⟩
  refine wp_exit ?_
  simp only [Exit.then, Exit.inBlock, ↓reduceIte]
  refine hK9 _ _ ?_
  refine ws fun K12 hK12 => ?_
  refine wl_mvs (A := [_, _]) hF rfl ?_; clear hF a; intro a hF
  refine wl_nil (hK12 _ _ ?_)
  refine wp_ret ?_
  try simp only [Exit.then, Exit.inBlock, ↓reduceIte]
  obtain rfl : k = n := by omega
  refine ret1 rfl hF rfl ?_
  rw [Nat.sub_self, List.replicate_zero, List.append_nil] at hS; exact Sep.mkS (hS.pick [0] (by decide) rfl) rfl

set_option maxHeartbeats 4000000 in
set_option maxRecDepth 20000 in
theorem specNewModel_c {W : World} (c : Config) : Calls Try.prog 57 #[.agg c.enc.toArray] W (Ret (Mk W (fun vs => .agg (modelEK.cells (newModel c) vs).toArray) (fun vs => [Part modelEK (newModel c) vs]))) := by
  refine calls_fr Try.func57 rfl Try.ntmps57 rfl ?_
  intro a hF
  have hS := Sep.refl W
  refine ws fun K1 hK1 => ?_
  refine wl_box (cs := [_, _, _, _, _, _]) hF hS rfl (hF.ev rfl) rfl ?_; clear hF a; intro g1 w1 a hS_ hB_ hF; replace hS := hS_; clear hS_ hB_
  refine wl_alloc hF hS rfl zr35 ?_; clear hF a; intro g2 w2 a hS_ hB_ hF; replace hS := hS_; clear hS_ hB_
  refine wl_nil (hK1 _ _ ?_)
  refine ws fun K2 hK2 => ?_
  refine wl hF rfl rfl rfl (r_build (bd35) trivial) ?_; clear hF a; intro a hF
  refine wl_alloc hF hS rfl zr35 ?_; clear hF a; intro g3 w3 a hS_ hB_ hF; replace hS := hS_; clear hS_ hB_
  refine wl_storew hF hS (i := 0) rfl (hF.ev rfl) (hF.ev rfl) sz35 rfl rfl ?_; intro w4 hS_; replace hS := hS_; clear hS_; dsimp only [List.set, Nat.reduceAdd] at hS
  refine wl_nil (hK2 _ _ ?_)
  refine wp_seq_k fun K3 hK3 => ?_
  refine ws fun K4 hK4 => ?_
  refine wl_mvs (A := [_]) hF rfl ?_; clear hF a; intro a hF
  refine wl_nil (hK4 _ _ ?_)
  refine wp_block ?_
  replace hS := hS.own_nil intEK
  replace hS := hS.pull (p := 1) rfl; dsimp only [List.eraseIdx] at hS
  replace hS := hS.pull (p := 1) rfl; dsimp only [List.eraseIdx] at hS
  have hL_ := (((hF.nil.keep hF (t := 3) rfl).keep hF (t := 2) rfl).keep hF (t := 1) rfl)
  refine wp_loop_m (σ := Nat × Slv) (fun s L_ => (4, vi s.1) :: L_) (fun s l_ => (Own intEK (sv s.2) (List.replicate s.1 (-1))) :: (Box g3 [sv s.2, .slice none 0 0]) :: l_) (fun s => ((s.1 : Int) ≤ c.keys ∨ s.1 = 0) ∧ (c.ok ∨ s.1 = 0)) (fun s => c.keys.toNat - s.1) (0, (none, 0, 0)) (hS) (hL_.keepE hF (t := 4) rfl rfl) ?_ ?_
  · exact ⟨.inr rfl, .inr rfl⟩
  clear hF hS hL_ a
  rintro ⟨k, p⟩ a w5 ⟨hk, hz⟩ hS hF; try dsimp only at hF; try dsimp only at hS; try dsimp only at hk; try dsimp only at hz
  refine wp_seq_k fun K5 hK5 => ?_
  refine ws fun K6 hK6 => ?_
  refine wl_mvs (A := [_]) hF rfl ?_; clear hF a; intro a hF
  refine wl hF rfl rfl rfl (r_field fo38_1 (hF.ev rfl)) ?_; clear hF a; intro a hF
  refine wl hF rfl rfl rfl (r_load1 sc3 (hF.ev rfl) (hS.box (i := 3) rfl rfl)) ?_; clear hF a; intro a hF
  refine wl hF rfl rfl rfl (r_lss (hF.ev rfl) (hF.ev rfl)) ?_; clear hF a; intro a hF
  refine wl_mvs (A := [_]) hF rfl ?_; clear hF a; intro a hF
  apply wl_and (A := [_, _, _]) (pk := 14) hF hS (tc := 11) rfl
  ·
    intro hg11 a hF; try simp only [zb1, zb2, zb3, zb4, zb5, zb6, zb7, zb8] at hg11
    refine wl_take hF rfl rfl rfl rfl ?_
    refine wl hF rfl rfl rfl (r_loadn ag38 (hF.ev rfl) (hS.box_rd (i := 3) rfl) sz38) ?_; clear hF a; intro a hF
    refine wl_take hF rfl rfl rfl rfl ?_
    refine wl_call hF rfl rfl rfl (r_call1 en55 (hF.ev rfl)) (specIsConfig_c _) ?_; clear hF a; rintro v w6 a ⟨rfl, hB_⟩ hF; replace hS := hS.ext hB_; clear hB_
    refine wl hF rfl rfl rfl (r_pick_t (hF.ev rfl) (hF.ev rfl)) ?_; clear hF a; intro a hF
    exact wl_nil ⟨rfl, (Fr.pre (A := [_, _, _]) hF rfl).keep hF (t := 14) rfl, hS⟩
  ·
    intro hg11 a hF; try simp only [zb1, zb2, zb3, zb4, zb5, zb6, zb7, zb8] at hg11
    refine wl_mvs (A := [_, _]) hF rfl ?_; clear hF a; intro a hF
    refine wl hF rfl rfl rfl (r_pick_f (hF.ev rfl) ec) ?_; clear hF a; intro a hF
    exact wl_nil ⟨rfl, (Fr.pre (A := [_, _, _]) hF rfl).keep hF (t := 14) rfl, hS⟩
  clear hF a hS; intro a w7 hF hS
  refine wl_nil (hK6 _ _ ?_)
  refine wc_fx (t := 14) hF rfl ?_ ?_ <;> clear hF <;> intro c14 hF <;> try simp only [zb1, zb2, zb3, zb4, zb5, zb6, zb7, zb8] at c14
  ·
    have hb := c14.2; unfold Config.ok at hb
    refine wp_skip ?_
    refine hK5 _ _ ?_
    refine wp_seq_k fun K7 hK7 => ?_
    refine wp_block ?_
    refine wp_region_lit ?_
    refine wl hF rfl rfl rfl (r_field fo35_0 (hF.ev rfl)) ?_; clear hF a; intro a hF
    refine wl hF rfl rfl rfl (r_load1 sc24 (hF.ev rfl) (hS.box (i := 1) rfl rfl)) ?_; clear hF a; intro a hF
    refine wl_bslice intEK [vi (-1)] [-1] rfl hF hS rfl mk24 rfl ⟨rfl, ec, trivial⟩ rfl rfl rfl rfl ?_; clear hF a; intro gl_19 w8 a hS_ hF; replace hS := hS_; clear hS_
    refine wl_append (q := 1) hF hS rfl rfl (hS.own_rd (i := 0) rfl) mk24 rfl (hF.ev rfl) (hF.ev rfl) (by simp; omega) (by unfold maxLen; simp; omega) ?_; clear hF a; intro A_20 c_20 w9 a hS_ hF; replace hS := hS_; clear hS_; dsimp only [List.set, List.length_cons, List.length_nil] at hS hF
    refine wl hF rfl rfl rfl (r_field fo35_0 (hF.ev rfl)) ?_; clear hF a; intro a hF
    refine wl_store hF hS (i := 2) rfl sz24 (hF.ev rfl) (hF.ev rfl) rfl rfl ?_; intro w10 hS_; replace hS := hS_; clear hS_; dsimp only [List.set, Nat.reduceAdd] at hS
    refine wl_nil ?_
    simp only [Exit.then, Exit.inBlock, ↓reduceIte]
    refine hK7 _ _ ?_
    refine wp_region_lit ?_
    refine wl_mvs (A := [_]) hF rfl ?_; clear hF a; intro a hF
    refine wl hF rfl rfl rfl (r_add (hF.ev rfl) ec) ?_; clear hF a; intro a hF
    refine wl_mvs (A := [_]) hF rfl ?_; clear hF a; intro a hF
    refine wl_nil ?_
    try simp only [Exit.then, Exit.inBlock, ↓reduceIte]
    rw [rep_next] at hS
    refine ⟨(k + 1, (A_20, _, c_20)), ⟨.inl (by dsimp only; omega), .inl c14.2⟩, (hS.pick [1, 2, 3, 4] (by decide) rfl), ((((hF.nil.keep hF (t := 3) rfl).keep hF (t := 2) rfl).keep hF (t := 1) rfl).keepE hF (t := 4) rfl (wk (by omega))), by dsimp only; omega⟩
  refine wp_exit ?_
  simp only [Exit.then, Exit.inBlock, ↓reduceIte]
  refine hK3 _ _ ?_
  refine wp_seq_k fun K8 hK8 => ?_
  refine ws fun K9 hK9 => ?_
  refine wl_mvs (A := [_]) hF rfl ?_; clear hF a; intro a hF
  refine wl_nil (hK9 _ _ ?_)
  refine wp_block ?_
  replace hS := hS.own_nil (sliceEK intEK)
  replace hS := hS.pull (p := 2) rfl; dsimp only [List.eraseIdx] at hS
  replace hS := hS.pull (p := 1) rfl; dsimp only [List.eraseIdx] at hS
  have hL_ := (((hF.nil.keep hF (t := 3) rfl).keep hF (t := 2) rfl).keep hF (t := 1) rfl)
  refine wp_loop_m (σ := Nat × Slv) (fun s L_ => (5, vi s.1) :: L_) (fun s l_ => (Own (sliceEK intEK) (sv s.2) (List.replicate s.1 [])) :: (Box g3 [sv p, sv s.2]) :: l_) (fun s => ((s.1 : Int) ≤ c.threads ∨ s.1 = 0) ∧ (c.ok ∨ s.1 = 0)) (fun s => c.threads.toNat - s.1) (0, (none, 0, 0)) (hS) (hL_.keepE hF (t := 5) rfl rfl) ?_ ?_
  · exact ⟨.inr rfl, .inr rfl⟩
  clear hF hS hL_ a
  rintro ⟨j, q⟩ a w11 ⟨hj, hy⟩ hS hF; try dsimp only at hF; try dsimp only at hS; try dsimp only at hj; try dsimp only at hy
  refine wp_seq_k fun K10 hK10 => ?_
  refine ws fun K11 hK11 => ?_
  refine wl_mvs (A := [_]) hF rfl ?_; clear hF a; intro a hF
  refine wl hF rfl rfl rfl (r_field fo38_0 (hF.ev rfl)) ?_; clear hF a; intro a hF
  refine wl hF rfl rfl rfl (r_load1 sc3 (hF.ev rfl) (hS.box (i := 4) rfl rfl)) ?_; clear hF a; intro a hF
  refine wl hF rfl rfl rfl (r_lss (hF.ev rfl) (hF.ev rfl)) ?_; clear hF a; intro a hF
  refine wl_mvs (A := [_]) hF rfl ?_; clear hF a; intro a hF
  apply wl_and (A := [_, _, _]) (pk := 29) hF hS (tc := 26) rfl
  ·
    intro hg26 a hF; try simp only [zb1, zb2, zb3, zb4, zb5, zb6, zb7, zb8] at hg26
    refine wl_take hF rfl rfl rfl rfl ?_
    refine wl hF rfl rfl rfl (r_loadn ag38 (hF.ev rfl) (hS.box_rd (i := 4) rfl) sz38) ?_; clear hF a; intro a hF
    refine wl_take hF rfl rfl rfl rfl ?_
    refine wl_call hF rfl rfl rfl (r_call1 en55 (hF.ev rfl)) (specIsConfig_c _) ?_; clear hF a; rintro v w12 a ⟨rfl, hB_⟩ hF; replace hS := hS.ext hB_; clear hB_
    refine wl hF rfl rfl rfl (r_pick_t (hF.ev rfl) (hF.ev rfl)) ?_; clear hF a; intro a hF
    exact wl_nil ⟨rfl, (Fr.pre (A := [_, _, _]) hF rfl).keep hF (t := 29) rfl, hS⟩
  ·
    intro hg26 a hF; try simp only [zb1, zb2, zb3, zb4, zb5, zb6, zb7, zb8] at hg26
    refine wl_mvs (A := [_, _]) hF rfl ?_; clear hF a; intro a hF
    refine wl hF rfl rfl rfl (r_pick_f (hF.ev rfl) ec) ?_; clear hF a; intro a hF
    exact wl_nil ⟨rfl, (Fr.pre (A := [_, _, _]) hF rfl).keep hF (t := 29) rfl, hS⟩
  clear hF a hS; intro a w13 hF hS
  refine wl_nil (hK11 _ _ ?_)
  refine wc_fx (t := 29) hF rfl ?_ ?_ <;> clear hF <;> intro c29 hF <;> try simp only [zb1, zb2, zb3, zb4, zb5, zb6, zb7, zb8] at c29
  ·
    have hb := c29.2; unfold Config.ok at hb
    refine wp_skip ?_
    refine hK10 _ _ ?_
    refine wp_seq_k fun K12 hK12 => ?_
    refine wp_block ?_
    refine wp_region_lit ?_
    refine wl hF rfl rfl rfl (r_field fo35_1 (hF.ev rfl)) ?_; clear hF a; intro a hF
    refine wl hF rfl rfl rfl (r_load1 sc25 (hF.ev rfl) (hS.box (i := 1) rfl rfl)) ?_; clear hF a; intro a hF
    refine wl_bslice intEK [] [] rfl hF hS rfl mk24 rfl trivial rfl rfl rfl rfl ?_; clear hF a; intro gl_34 w14 a hS_ hF; replace hS := hS_; clear hS_
    refine wl_bslice (rawEK 1) [sv (some ⟨gl_34, 0, none⟩, 0, 0)] [raw (sliceEK intEK) ([]) [(some ⟨gl_34, 0, none⟩, 0, 0)]] rfl hF hS rfl mk25 rfl ⟨rfl, (hF.ev rfl), trivial⟩ rfl rfl rfl rfl ?_; clear hF a; intro gl_35 w15 a hS_ hF; replace hS := hS_; clear hS_
    have hu_ := hS.own_rd (i := 0) rfl
    replace hS := hS.pull (p := 1) rfl; dsimp only [List.eraseIdx] at hS
    replace hS := hS.own_part (s := (_, _, _))
    replace hS := hS.pull (p := 2) rfl; dsimp only [List.eraseIdx] at hS
    refine wl_appendn (ek := (sliceEK intEK)) hF hS rfl hu_ mk25 rfl (hF.ev rfl) (hF.ev rfl) (by simp; omega) (by unfold maxLen; simp; omega) ?_; clear hF a hu_; intro A_36 c_36 w16 a hS_ hF; replace hS := hS_; clear hS_
    refine wl hF rfl rfl rfl (r_field fo35_1 (hF.ev rfl)) ?_; clear hF a; intro a hF
    refine wl_store hF hS (i := 2) rfl sz25 (hF.ev rfl) (hF.ev rfl) rfl rfl ?_; intro w17 hS_; replace hS := hS_; clear hS_; dsimp only [List.set, Nat.reduceAdd] at hS
    refine wl_nil ?_
    simp only [Exit.then, Exit.inBlock, ↓reduceIte]
    refine hK12 _ _ ?_
    refine wp_region_lit ?_
    refine wl_mvs (A := [_]) hF rfl ?_; clear hF a; intro a hF
    refine wl hF rfl rfl rfl (r_add (hF.ev rfl) ec) ?_; clear hF a; intro a hF
    refine wl_mvs (A := [_]) hF rfl ?_; clear hF a; intro a hF
    refine wl_nil ?_
    try simp only [Exit.then, Exit.inBlock, ↓reduceIte]
    rw [rep_next] at hS
    refine ⟨(j + 1, (A_36, _, c_36)), ⟨.inl (by dsimp only; omega), .inl c29.2⟩, (hS.pick [0, 2, 3, 4, 5] (by decide) rfl), ((((hF.nil.keep hF (t := 3) rfl).keep hF (t := 2) rfl).keep hF (t := 1) rfl).keepE hF (t := 5) rfl (wk (by omega))), by dsimp only; omega⟩
  refine wp_exit ?_
  simp only [Exit.then, Exit.inBlock, ↓reduceIte]
  refine hK8 _ _ ?_
  refine ws fun K13 hK13 => ?_
  refine wl hF rfl rfl rfl (r_loadn ag35 (hF.ev rfl) (hS.box_rd (i := 1) rfl) sz35) ?_; clear hF a; intro a hF
  refine wl_storew hF hS (i := 3) rfl (hF.ev rfl) (hF.ev rfl) sz35 rfl rfl ?_; intro w18 hS_; replace hS := hS_; clear hS_; dsimp only [List.set, Nat.reduceAdd] at hS
  refine wl_nil (hK13 _ _ ?_)
  refine wp_ret ?_
  try simp only [Exit.then, Exit.inBlock, ↓reduceIte]
  have e := newModel_of hk hz c14 hj hy c29
  refine ret1c rfl ag35 hF hS (i := 3) rfl sz35 rfl ⟨[p, q], rfl, ?_⟩
  rw [e]; exact hS.part_of [2, 0] (by decide) rfl

set_option maxHeartbeats 4000000 in
set_option maxRecDepth 20000 in
theorem implNewModel_c {W : World} (c : Config) : Calls Try.prog 60 #[.agg c.enc.toArray] W (Ret (Mk W (fun vs => .agg (modelEK.cells (newModel c) vs).toArray) (fun vs => [Part modelEK (newModel c) vs]))) := by
  refine calls_fr Try.func60 rfl Try.ntmps60 rfl ?_
  intro a hF
  have hS := Sep.refl W
  refine ws fun K1 hK1 => ?_
  refine wl_box (cs := [_, _, _, _, _, _]) hF hS rfl (hF.ev rfl) rfl ?_; clear hF a; intro g1 w1 a hS_ hB_ hF; replace hS := hS_; clear hS_ hB_
  refine wl_alloc hF hS rfl zr35 ?_; clear hF a; intro g2 w2 a hS_ hB_ hF; replace hS := hS_; clear hS_ hB_
  refine wl_nil (hK1 _ _ ?_)
  refine wp_seq_k fun K2 hK2 => ?_
  refine ws fun K3 hK3 => ?_
  refine wl hF rfl rfl rfl (r_loadn ag38 (hF.ev rfl) (hS.box_rd (i := 1) rfl) sz38) ?_; clear hF a; intro a hF
  refine wl_call hF rfl rfl rfl (r_call1 en58 (hF.ev rfl)) (implIsConfig_c _) ?_; clear hF a; rintro v w3 a ⟨rfl, hB_⟩ hF; replace hS := hS.ext hB_; clear hB_
  refine wl hF rfl rfl rfl (r_not (hF.ev rfl)) ?_; clear hF a; intro a hF
  refine wl_nil (hK3 _ _ ?_)
  refine wc_fx (t := 5) hF rfl ?_ ?_ <;> clear hF <;> intro c5 hF <;> try simp only [zb1, zb2, zb3, zb4, zb5, zb6, zb7, zb8] at c5
  ·
    refine ws fun K4 hK4 => ?_
    refine wl hF rfl rfl rfl (r_build (bd35) trivial) ?_; clear hF a; intro a hF
    refine wl_storew hF hS (i := 0) rfl (hF.ev rfl) (hF.ev rfl) sz35 rfl rfl ?_; intro w4 hS_; replace hS := hS_; clear hS_; dsimp only [List.set, Nat.reduceAdd] at hS
    refine wl_nil (hK4 _ _ ?_)
    refine wp_ret ?_
    try simp only [Exit.then, Exit.inBlock, ↓reduceIte]
    first
      | (refine ret1c rfl ag35 hF hS (i := 0) rfl sz35 rfl ⟨[(none, 0, 0), (none, 0, 0)], rfl, ?_⟩; rw [show newModel c = ⟨[], []⟩ from by unfold newModel; rw [if_neg c5]]; exact ((hS.own_nil (sliceEK intEK)).own_nil intEK).part_of [0, 1] (by decide) rfl)
      | (refine ret1c rfl ag35 hF hS (i := 0) rfl sz35 rfl ⟨[s10, (some ⟨gm_13, 0, none⟩, _, _)], rfl, ?_⟩; rw [show newModel c = ⟨List.replicate c.keys.toNat (-1), List.replicate c.threads.toNat []⟩ from by unfold newModel; rw [if_pos c5]]; exact hS.part_of [99, 99] (by decide) rfl)
  have hb := c5; unfold Config.ok at hb
  refine wp_skip ?_
  refine hK2 _ _ ?_
  refine wp_seq_k fun K5 hK5 => ?_
  refine wp_region_todo (is := [1, 2, 4, 5, 0, 3, 6, 7, 8]) [] [8] (by kernel_rfl) hF hS ⟨trivial, by decide, by decide, by decide⟩ (by kernel_rfl) ?_; clear hF; intro hl_ wd hSd
  refine todo_pure hl_ (by kernel_rfl) rfl (gw0 rfl) rfl rfl rfl (fun a w_ hF => r_field fo38_1 (hF.ev rfl)) ?_
  refine todo_load [3, 7, 8] hl_ (by kernel_rfl) rfl (gw0 rfl) rfl rfl rfl (fun a w_ hF hB_ => r_load1 sc3 (hF.ev rfl) ((hSd.ext hB_).box (i := 1) rfl rfl)) ?_
  refine todo_pure hl_ (by kernel_rfl) rfl (gw0 rfl) rfl rfl rfl (fun a w_ hF => r_field fo38_0 (hF.ev rfl)) ?_
  refine todo_load [6, 7, 8] hl_ (by kernel_rfl) rfl (gw0 rfl) rfl rfl rfl (fun a w_ hF hB_ => r_load1 sc3 (hF.ev rfl) ((hSd.ext hB_).box (i := 1) rfl rfl)) ?_
  refine todo_fork [(0, [3, 6, 7, 8]), (6, [0, 3, 7, 8])] hl_ rfl (by kernel_rfl) (List.forall_mem_cons.2 ⟨?_, List.forall_mem_cons.2 ⟨?_, fun _ h_ => nomatch h_⟩⟩)
  ·
    refine op_op rfl rfl (gw0 rfl) rfl rfl rfl (fun a w_ hF hS => r_bslice intEK [vi (-1)] [-1] rfl mk24 rfl ⟨rfl, ec, trivial⟩ rfl rfl rfl rfl) ?_; intro gl_7
    refine todo_fork [(3, [6, 7, 8]), (6, [3, 7, 8])] hl_ rfl (by kernel_rfl) (List.forall_mem_cons.2 ⟨?_, List.forall_mem_cons.2 ⟨?_, fun _ h_ => nomatch h_⟩⟩)
    ·
      refine op_mk rfl rfl (gw0 rfl) rfl rfl rfl (fun a w_ hF => r_call2 en81 (hF.ev rfl) (hF.ev rfl)) (fun w_ hS => repeat_c (hS.own_rd (i := 0) rfl) (by omega)) ?_; rintro s10
      refine todo_op hl_ rfl (by kernel_rfl) rfl rfl rfl rfl rfl (fun a w_ hF hS => r_make0 (sliceEK intEK) [] [] mk25 rfl (nil_inner _) ((hF.ev rfl).trans (show vi c.threads = Value.int .i64 ((c.threads.toNat : Nat) : Int) from by rw [Int.toNat_of_nonneg (by omega)])) (by omega) (by unfold maxLen; omega)) ?_; intro gm_13
      refine todo_pure hl_ (by kernel_rfl) rfl (gw0 rfl) rfl rfl rfl (fun a w_ hF => r_build (bd35_0_1 _ _ _ _ _ _) ⟨rfl, (hF.ev rfl), rfl, (hF.ev rfl), trivial⟩) ?_
      refine todo_fin hl_ rfl (by kernel_rfl) (tl := [_]) rfl ?_; clear hS a; intro a w7 hF hA_
      have hS := hA_.sep; clear hA_
      clear hl_; try clear hSd
      try dsimp only [List.cons_append, List.nil_append, List.set] at hS
      try clear wd
      refine wl_storew hF hS (i := 3) rfl (hF.ev rfl) (hF.ev rfl) sz35 rfl rfl ?_; intro w8 hS_; replace hS := hS_; clear hS_; dsimp only [List.set, Nat.reduceAdd] at hS
      refine wl_nil ⟨rfl, ?_⟩
      refine hK5 _ _ ?_
      refine wp_ret ?_
      try simp only [Exit.then, Exit.inBlock, ↓reduceIte]
      first
        | (refine ret1c rfl ag35 hF hS (i := 3) rfl sz35 rfl ⟨[(none, 0, 0), (none, 0, 0)], rfl, ?_⟩; rw [show newModel c = ⟨[], []⟩ from by unfold newModel; rw [if_neg c5]]; exact ((hS.own_nil (sliceEK intEK)).own_nil intEK).part_of [0, 1] (by decide) rfl)
        | (refine ret1c rfl ag35 hF hS (i := 3) rfl sz35 rfl ⟨[s10, (some ⟨gm_13, 0, none⟩, _, _)], rfl, ?_⟩; rw [show newModel c = ⟨List.replicate c.keys.toNat (-1), List.replicate c.threads.toNat []⟩ from by unfold newModel; rw [if_pos c5]]; exact hS.part_of [1, 0] (by decide) rfl)
    ·
      refine op_op rfl rfl (gw0 rfl) rfl rfl rfl (fun a w_ hF hS => r_make0 (sliceEK intEK) [] [] mk25 rfl (nil_inner _) ((hF.ev rfl).trans (show vi c.threads = Value.int .i64 ((c.threads.toNat : Nat) : Int) from by rw [Int.toNat_of_nonneg (by omega)])) (by omega) (by unfold maxLen; omega)) ?_; intro gm_13
      refine todo_mk hl_ rfl (by kernel_rfl) rfl rfl rfl rfl rfl (fun a w_ hF => r_call2 en81 (hF.ev rfl) (hF.ev rfl)) (fun w_ hS => repeat_c (hS.own_rd (i := 1) rfl) (by omega)) ?_; rintro s10
      refine todo_pure hl_ (by kernel_rfl) rfl (gw0 rfl) rfl rfl rfl (fun a w_ hF => r_build (bd35_0_1 _ _ _ _ _ _) ⟨rfl, (hF.ev rfl), rfl, (hF.ev rfl), trivial⟩) ?_
      refine todo_fin hl_ rfl (by kernel_rfl) (tl := [_]) rfl ?_; clear hS a; intro a w10 hF hA_
      have hS := hA_.sep; clear hA_
      clear hl_; try clear hSd
      try dsimp only [List.cons_append, List.nil_append, List.set] at hS
      try clear wd
      refine wl_storew hF hS (i := 3) rfl (hF.ev rfl) (hF.ev rfl) sz35 rfl rfl ?_; intro w11 hS_; replace hS := hS_; clear hS_; dsimp only [List.set, Nat.reduceAdd] at hS
      refine wl_nil ⟨rfl, ?_⟩
      refine hK5 _ _ ?_
      refine wp_ret ?_
      try simp only [Exit.then, Exit.inBlock, ↓reduceIte]
      first
        | (refine ret1c rfl ag35 hF hS (i := 3) rfl sz35 rfl ⟨[(none, 0, 0), (none, 0, 0)], rfl, ?_⟩; rw [show newModel c = ⟨[], []⟩ from by unfold newModel; rw [if_neg c5]]; exact ((hS.own_nil (sliceEK intEK)).own_nil intEK).part_of [0, 1] (by decide) rfl)
        | (refine ret1c rfl ag35 hF hS (i := 3) rfl sz35 rfl ⟨[s10, (some ⟨gm_13, 0, none⟩, _, _)], rfl, ?_⟩; rw [show newModel c = ⟨List.replicate c.keys.toNat (-1), List.replicate c.threads.toNat []⟩ from by unfold newModel; rw [if_pos c5]]; exact hS.part_of [0, 1] (by decide) rfl)
  ·
    refine op_op rfl rfl (gw0 rfl) rfl rfl rfl (fun a w_ hF hS => r_make0 (sliceEK intEK) [] [] mk25 rfl (nil_inner _) ((hF.ev rfl).trans (show vi c.threads = Value.int .i64 ((c.threads.toNat : Nat) : Int) from by rw [Int.toNat_of_nonneg (by omega)])) (by omega) (by unfold maxLen; omega)) ?_; intro gm_13
    refine todo_op hl_ rfl (by kernel_rfl) rfl rfl rfl rfl rfl (fun a w_ hF hS => r_bslice intEK [vi (-1)] [-1] rfl mk24 rfl ⟨rfl, ec, trivial⟩ rfl rfl rfl rfl) ?_; intro gl_7
    refine todo_mk hl_ rfl (by kernel_rfl) rfl rfl rfl rfl rfl (fun a w_ hF => r_call2 en81 (hF.ev rfl) (hF.ev rfl)) (fun w_ hS => repeat_c (hS.own_rd (i := 0) rfl) (by omega)) ?_; rintro s10
    refine todo_pure hl_ (by kernel_rfl) rfl (gw0 rfl) rfl rfl rfl (fun a w_ hF => r_build (bd35_0_1 _ _ _ _ _ _) ⟨rfl, (hF.ev rfl), rfl, (hF.ev rfl), trivial⟩) ?_
    refine todo_fin hl_ rfl (by kernel_rfl) (tl := [_]) rfl ?_; clear hS a; intro a w14 hF hA_
    have hS := hA_.sep; clear hA_
    clear hl_; try clear hSd
    try dsimp only [List.cons_append, List.nil_append, List.set] at hS
    try clear wd
    refine wl_storew hF hS (i := 3) rfl (hF.ev rfl) (hF.ev rfl) sz35 rfl rfl ?_; intro w15 hS_; replace hS := hS_; clear hS_; dsimp only [List.set, Nat.reduceAdd] at hS
    refine wl_nil ⟨rfl, ?_⟩
    refine hK5 _ _ ?_
    refine wp_ret ?_
    try simp only [Exit.then, Exit.inBlock, ↓reduceIte]
    first
      | (refine ret1c rfl ag35 hF hS (i := 3) rfl sz35 rfl ⟨[(none, 0, 0), (none, 0, 0)], rfl, ?_⟩; rw [show newModel c = ⟨[], []⟩ from by unfold newModel; rw [if_neg c5]]; exact ((hS.own_nil (sliceEK intEK)).own_nil intEK).part_of [0, 1] (by decide) rfl)
      | (refine ret1c rfl ag35 hF hS (i := 3) rfl sz35 rfl ⟨[s10, (some ⟨gm_13, 0, none⟩, _, _)], rfl, ?_⟩; rw [show newModel c = ⟨List.replicate c.keys.toNat (-1), List.replicate c.threads.toNat []⟩ from by unfold newModel; rw [if_pos c5]]; exact hS.part_of [0, 2] (by decide) rfl)

end Go.Proofs.Yteldnoimmjihoaa.Wk
