/- Lemmas for the row of RwSs2. -/
import Derived.Test.YtgofolgogfmhgaaGreatCsvD
set_option maxHeartbeats 4000000
set_option maxRecDepth 20000
namespace Go.Proofs.YtgofolgogfmhgaaGreat.Wk
open Go Go.RowKit Sl
set_option linter.unusedVariables false
set_option linter.unusedSimpArgs false
set_option maxRecDepth 20000
def newCells (c : Config) : List Int := if c.ok then (List.replicate (cellCount c).toNat 0).set 0 1 else []
def zeroState : Sl.State := ⟨⟨0, 0, 0, 0, 0, 0⟩, [], [], [], 0, 0, 0, 0⟩
def newState (c : Config) : Sl.State := if c.ok then ⟨c, newCells c, List.replicate c.capacity.toNat 0, List.replicate c.threads.toNat default, 0, 0, 0, 0⟩ else zeroState
theorem _root_.Go.Proofs.YtgofolgogfmhgaaGreat.Sl.Sep.nilpart {α : Type} {ek : EK α} {x : α} {vs : List Slv} {w0 w : World} {l : List Res} (h : Sep w0 l w) (hin : Sat (ek.inner x vs) (fun _ => False) w) : Sep w0 (Part ek x vs :: l) w := h.new (Below.refl _ _) (hin.mono (fun k hk => hk.elim))
theorem nil_sat {α : Type} (ek : EK α) {l : List Res} {w : World} (h : Sat l (fun _ => False) w) : Sat (Own ek (sv (none, 0, 0)) [] :: l) (fun _ => False) w := Sat.cons (S1 := fun _ => False) (S' := fun _ => False) h (own_nil ek _ w) (fun k hk => hk) (fun k hk => hk) (fun k hk _ => hk)
theorem state_inner0 (w : World) : Sat (stateEK.inner zeroState []) (fun _ => False) w := nil_sat intEK (nil_sat intEK (nil_sat threadEK (Sat.nil _ _)))
theorem newCells_len {c : Config} (h : c.ok) : (newCells c).length = (cellCount c).toNat := by unfold newCells; rw [if_pos h]; simp
theorem rep_nx {α : Type} (k : Nat) (x : α) : List.replicate k x ++ [x] = List.replicate (k + 1) x := List.replicate_succ'.symm
theorem newState_size {c : Config} : (newState c).size ≤ 200 := by
 unfold newState
 split
 · rename_i hok
   have hc := newCells_len hok
   have hb := hok
   unfold Config.ok at hb
   have hcc := cellCount_eq hok
   have hz : ∀ n : Nat, crow Sl.Thread.size (List.replicate n default) = 0 := fun n => by
     induction n with
     | zero => rfl
     | succ n ih => rw [List.replicate_succ]; simp only [crow, ih]; rfl
   unfold Sl.State.size
   simp only [List.length_replicate, hz, hc]
   omega
 · unfold zeroState Sl.State.size; simp [crow]
theorem thread0_wf : (default : Sl.Thread).wf := ⟨int64_zero, ⟨int64_zero, int64_zero, int64_zero⟩, ⟨int64_zero, int64_zero⟩, int64_zero, int64_zero, int64_zero, int64_zero, int64_zero, int64_zero, int64_zero, int64_zero, (fun _ h => by cases h), (fun _ h => by cases h), (fun _ h => by cases h), (fun _ h => by cases h), (fun _ h => by cases h)⟩
theorem ok_cwf {c : Config} (h : c.ok) : c.wf := by
 unfold Config.ok at h; refine ⟨?_, ?_, ?_, ?_, ?_, ?_⟩ <;> (unfold int64; omega)
theorem newCells_wf {c : Config} : ∀ x ∈ newCells c, int64 x := by
 unfold newCells
 split
 · intro x hx
   rcases List.mem_or_eq_of_mem_set hx with h | h
   · rw [(List.mem_replicate.1 h).2]; exact int64_zero
   · subst h; unfold int64; omega
 · intro x hx; cases hx
theorem new_eq {c : Config} (h : c.ok) : newState c = ⟨c, newCells c, List.replicate c.capacity.toNat 0, List.replicate c.threads.toNat default, 0, 0, 0, 0⟩ := if_pos h
theorem good_new {c : Config} (h : c.ok) : Good (newState c) := by
 have hb := h; unfold Config.ok at hb
 have hcc := cellCount_eq h
 have hcl := newCells_len h
 have hz := newState_size (c := c)
 refine ⟨?_, ?_, by omega, ?_⟩ <;> rw [new_eq h] <;> try dsimp only
 · refine ⟨h, ?_, ?_, ?_⟩ <;> dsimp only
   · rw [hcl]; omega
   · rw [List.length_replicate]; omega
   · rw [List.length_replicate]; omega
 · refine ⟨ok_cwf h, newCells_wf, ?_, ?_, int64_zero, int64_zero, int64_zero, int64_zero⟩
   · intro x hx; rw [(List.mem_replicate.1 hx).2]; exact int64_zero
   · intro x hx; rw [(List.mem_replicate.1 hx).2]; exact thread0_wf
 · intro t ht; rw [(List.mem_replicate.1 ht).2]; intro h0; exact absurd h0 (by decide)
theorem specNewCells_c {W : World} (c : Config) : Calls Tryz.prog 188 #[.agg c.enc.toArray] W (Ret (Mk W (fun z : Slv => sv z) (fun z => [Own intEK (sv z) (newCells c)]))) := by
 refine cfr Tryz.func188 Tryz.ntmps188 fun a hF => ?_
 have hS := Sep.refl W
 refine ws fun K1 hK1 => wl_box (cs := [_, _, _, _, _, _]) hF hS rfl (hF.ev rfl) rfl fun g1 w1 a hS _ hF => ge hK1 hF rfl fun a hF => wp_seq_k fun K2 hK2 => ws fun K3 hK3 => gb 1 0 hF hS rfl rfl rfl fun a hF => ckr hF hS rfl (specIsConfig_c _) fun w2 a hS hF => ?_
 refine ge hK3 hF rfl fun a hF => cx 6 hF rfl (fun c6 hF => ?_) fun c6 hF => ?_
 ·
  refine ws fun K4 hK4 => wl_bslice intEK [] [] rfl hF hS rfl mk26 rfl trivial rfl rfl rfl rfl fun gl_7 w3 a hS hF => ge hK4 hF rfl fun a hF => ?_
  refine xr ?_
  first
    | (refine ret1 rfl hF rfl ⟨(_, _, _), rfl, ?_⟩; rw [show newCells c = [] from if_neg c6]; exact hS.pick [0] (by decide) rfl)
    | (refine ret1 rfl hF rfl ⟨(_, _, _), rfl, ?_⟩; rw [show newCells c = _ from if_pos c6]; exact hS.pick [99] (by decide) rfl)
 have hb := c6; unfold Config.ok at hb
 have hcc := cellCount_eq c6
 refine wp_skip <| hK2 _ _ <| ws fun K5 hK5 => gb 1 0 hF hS rfl rfl rfl fun a hF => ckr hF hS rfl (specCellCount_c _) fun w4 a hS hF => ?_
 refine wl_make intEK 0 [] hF hS rfl mk26 rfl (fun _ => Sat.nil _ _) ((hF.ev rfl).trans (show vi (cellCount c) = Value.int .i64 ((Int.toNat (cellCount c) : Nat) : Int) from by rw [Int.toNat_of_nonneg (by omega)])) (by omega) (by unfold maxLen; omega) fun gm_10 w5 a hS hF => ?_
 refine ge hK5 hF rfl fun a hF => ws fun K6 hK6 => ga 1 hF rfl fun a hF => ?_
 refine wl_call hF rfl rfl rfl (r_call0 en203 ) (specClockCell_c) ?_; rintro v w6 a ⟨rfl, hB_⟩ hF; have hS := hS.ext hB_
 obtain ⟨g13, o13, m13, q13, hv13, hm13, hl13, hc13⟩ := Rd.atF ((hS.own_rd (i := 0) rfl)) (a := a) (X := .tmp 12) (hF.ev rfl) (by omega) (by simp; omega)
 refine wl hF rfl rfl rfl (r_index sl26 ((hF.ev rfl).trans hv13) (hF.ev rfl) (by omega) (by first | omega | (simp at hm13; omega))) fun a hF => ?_
 refine wl_istore (q := 0) hF hS rfl hv13 (by omega) (by omega) sz3 (hF.ev rfl) rfl ec fun w7 hS => ?_; dsimp only [List.set] at hS
 refine wl_nil <| hK6 _ _ <| rg hF rfl fun a hF => ?_
 refine xr ?_
 first
   | (refine ret1 rfl hF rfl ⟨(_, _, _), rfl, ?_⟩; rw [show newCells c = [] from if_neg c6]; exact hS.pick [99] (by decide) rfl)
   | (refine ret1 rfl hF rfl ⟨(_, _, _), rfl, ?_⟩; rw [show newCells c = _ from if_pos c6]; exact hS.pick [0] (by decide) rfl)
theorem specNewState_c {W : World} (c : Config) : Calls Tryz.prog 158 #[.agg c.enc.toArray] W (Ret (Mk W (fun vs => .agg (stateEK.cells (newState c) vs).toArray) (fun vs => [Part stateEK (newState c) vs]))) := by
 refine cfr Tryz.func158 Tryz.ntmps158 fun a hF => ?_
 have hS := Sep.refl W
 refine ws fun K1 hK1 => wl_box (cs := [_, _, _, _, _, _]) hF hS rfl (hF.ev rfl) rfl fun g1 w1 a hS _ hF => wl_alloc hF hS rfl zr29 fun g2 w2 a hS _ hF => wl_nil <| hK1 _ _ <| wp_seq_k fun K2 hK2 => ws fun K3 hK3 => gb 1 1 hF hS rfl rfl rfl fun a hF => ?_
 refine ckr hF hS rfl (specIsConfig_c _) fun w3 a hS hF => ge hK3 hF rfl fun a hF => cx 7 hF rfl (fun c7 hF => ?_) fun c7 hF => ?_
 ·
  refine ws fun K4 hK4 => wl hF rfl rfl rfl (r_build (bd29) trivial) fun a hF => ww 0 hF hS rfl rfl rfl rfl rfl rfl fun w4 hS => wl_nil (hK4 _ _ ?_)
  refine xr ?_
  first
    | (refine ret1c rfl ag29 hF hS (i := 0) rfl sz29 rfl ⟨[], ?_, ?_⟩
       · rw [show newState c = zeroState from if_neg c7]; rfl
       · rw [show newState c = zeroState from if_neg c7]; exact (Sep.nilpart (hS.pick [] (by decide) rfl) (state_inner0 _)))
    | (obtain rfl : k = c.threads.toNat := by omega
       have e : newState c = ⟨c, newCells c, List.replicate c.capacity.toNat 0, List.replicate c.threads.toNat default, 0, 0, 0, 0⟩ := if_pos c7
       refine ret1c rfl ag29 hF hS (i := 0) rfl sz29 rfl ⟨[s11, (some ⟨gm_14, 0, none⟩, c.capacity.toNat, c.capacity.toNat), q], ?_, ?_⟩
       · rw [e]; rfl
       · rw [e]; exact hS.part_of [99, 99, 99] (by decide) rfl)
 have hb := c7; unfold Config.ok at hb
 refine wp_skip <| hK2 _ _ <| wp_seq_k fun K5 hK5 => ?_
 refine wp_region_todo (is := [0, 1, 3, 4, 2, 5, 6, 8]) [(7, 3, [.int .i64 0, .int .i64 0, .int .i64 0, .int .i64 0, .int .i64 0, .int .i64 0, .slice none 0 0, .slice none 0 0, .slice none 0 0, .int .i64 0, .int .i64 0, .int .i64 0, .int .i64 0])] [8] (by kernel_rfl) hF hS ⟨⟨⟨_, _, _, rfl, zr29⟩, trivial⟩, by decide, by decide, by decide⟩ (by kernel_rfl) ?_; intro hl_ wd hSd
 refine todo_load [6, 8] hl_ (by kernel_rfl) rfl (gw0 rfl) rfl rfl rfl (fun a w_ hF hB_ => r_loadn ag25 (hF.ev rfl) ((hSd.ext hB_).box_rd (i := 1) rfl) sz25) <| todo_load [2, 6, 8] hl_ (by kernel_rfl) rfl (gw0 rfl) rfl rfl rfl (fun a w_ hF hB_ => r_loadn ag25 (hF.ev rfl) ((hSd.ext hB_).box_rd (i := 1) rfl) sz25) <| tp 1 hl_ rfl <| todo_load [5, 6, 8] hl_ (by kernel_rfl) rfl (gw0 rfl) rfl rfl rfl (fun a w_ hF hB_ => r_load1 sc3 (hF.ev rfl) ((hSd.ext hB_).box (i := 1) rfl rfl)) <| todo_fork [(2, [5, 6, 8]), (5, [2, 6, 8])] hl_ rfl (by kernel_rfl) (List.forall_mem_cons.2 ⟨?_, List.forall_mem_cons.2 ⟨?_, fun _ h_ => nomatch h_⟩⟩)
 ·
  refine op_mk rfl rfl (gw0 rfl) rfl rfl rfl (fun a w_ hF => r_call1 en188 (hF.ev rfl)) (fun w_ hS => specNewCells_c _) ?_; rintro s11
  refine todo_op hl_ rfl (by kernel_rfl) rfl rfl rfl rfl rfl (fun a w_ hF hS => r_make0 intEK 0 [] mk26 rfl (fun _ => Sat.nil _ _) ((hF.ev rfl).trans (show vi (c.capacity) = Value.int .i64 ((Int.toNat (c.capacity) : Nat) : Int) from by rw [Int.toNat_of_nonneg (by omega)])) (by omega) (by unfold maxLen; omega)) ?_; intro gm_14
  refine todo_pure hl_ (by kernel_rfl) rfl (gw0 rfl) rfl rfl rfl (fun a w_ hF => r_build (bd29_0_1_2 _ _ _ _ _ _ _ _ _ _ _ _) ⟨rfl, (hF.ev rfl), rfl, (hF.ev rfl), rfl, (hF.ev rfl), trivial⟩) ?_
  refine todo_fin hl_ rfl (by kernel_rfl) (tl := [_]) rfl ?_; intro a w6 hF hA_
  obtain ⟨g3, hS, he_0⟩ := hA_.open1; clear hA_
  replace hF := hF.more he_0; clear he_0
  clear hl_; try clear hSd
  try dsimp only [List.cons_append, List.nil_append, List.set] at hS
  try clear wd
  refine ww 0 hF hS rfl rfl rfl rfl rfl rfl fun w7 hS => wl_nil ⟨rfl, ?_⟩
  refine hK5 _ _ <| wp_seq_k fun K6 hK6 => rg hF rfl fun a hF => wp_block ?_
  replace hS := hS.own_nil threadEK
  replace hS := hS.pull (p := 1) rfl; dsimp only [List.eraseIdx] at hS
  replace hS := hS.pull (p := 1) rfl; dsimp only [List.eraseIdx] at hS
  have hL_ := (((hF.nil.keep hF (t := 3) rfl).keep hF (t := 2) rfl).keep hF (t := 1) rfl)
  refine wp_loop_m (σ := Nat × Slv) (fun z L_ => (4, vi z.1) :: L_) (fun z l_ => (Own threadEK (sv z.2) (List.replicate z.1 default)) :: (Box g3 [vi c.threads, vi c.keys, vi c.capacity, vi c.batch, vi c.policy, vi c.clockMax, sv s11, .slice (some ⟨gm_14, 0, none⟩) c.capacity.toNat c.capacity.toNat, sv z.2, vi 0, vi 0, vi 0, vi 0]) :: l_) (fun z => ((z.1 : Int) ≤ c.threads)) (fun z => c.threads.toNat - z.1) (0, (none, 0, 0)) (hS) (hL_.keepE hF (t := 4) rfl rfl) ?_ ?_
  · exact by dsimp only; omega
  rintro ⟨k, q⟩ a w8 hk hS hF; try dsimp only at hF; try dsimp only at hS; try dsimp only at hk
  refine wp_seq_k fun K8 hK8 => rh 5 hF hS rfl rfl rfl fun a hF => cx 19 hF rfl (fun c19 hF => ?_) fun c19 hF => ?_
  ·
   refine wp_skip <| hK8 _ _ <| wp_seq_k fun K10 hK10 => wp_block <| wp_region_lit <| gb 2 1 hF hS rfl rfl rfl fun a hF => wl hF rfl rfl rfl (r_build (bd42) trivial) fun a hF => ?_
   replace hS := hS.nilpart (ek := threadEK) (x := default) (vs := []) (thread_inner0 _)
   refine wl_bslice (rawEK threadEK.sz) [.agg (threadEK.cells (default) []).toArray] [raw threadEK (default) []] rfl hF hS rfl mk27 rfl ⟨rfl, (hF.ev rfl), trivial⟩ rfl rfl rfl rfl fun gl_25 w9 a hS hF => ?_
   have hu_ := hS.own_rd (i := 0) rfl
   replace hS := hS.pull (p := 1) rfl; dsimp only [List.eraseIdx] at hS
   replace hS := hS.pull (p := 2) rfl; dsimp only [List.eraseIdx] at hS
   refine wl_appendn (ek := threadEK) hF hS rfl hu_ mk27 rfl (hF.ev rfl) (hF.ev rfl) (by simp; omega) (by unfold maxLen; simp; omega) ?_; clear hF a hu_; intro A_26 c_26 w10 a hS_ hF; replace hS := hS_; clear hS_
   refine ga 1 hF rfl fun a hF => wv 2 hF hS rfl rfl rfl rfl rfl rfl fun w11 hS => wl_nil ?_
   refine xt ?_
   refine hK10 _ _ <| rl hF rfl fun a hF => ?_
   refine xt ?_
   rw [rep_nx] at hS
   refine ⟨(k + 1, (_, _, _)), (by dsimp only; omega), (hS.pick [0, 2, 3, 4, 5, 6] (by decide) rfl), ((((hF.nil.keep hF (t := 3) rfl).keep hF (t := 2) rfl).keep hF (t := 1) rfl).keepE hF (t := 4) rfl (wk (by omega))), by dsimp only; omega⟩
  refine wp_exit ?_
  refine xt ?_
  refine hK6 _ _ <| ws fun K11 hK11 => gb 1 1 hF hS rfl rfl rfl fun a hF => ww 4 hF hS rfl rfl rfl rfl rfl rfl fun w12 hS => wl_nil (hK11 _ _ ?_)
  refine xr ?_
  first
    | (refine ret1c rfl ag29 hF hS (i := 4) rfl sz29 rfl ⟨[], ?_, ?_⟩
       · rw [show newState c = zeroState from if_neg c7]; rfl
       · rw [show newState c = zeroState from if_neg c7]; exact (Sep.nilpart (hS.pick [] (by decide) rfl) (state_inner0 _)))
    | (obtain rfl : k = c.threads.toNat := by omega
       have e : newState c = ⟨c, newCells c, List.replicate c.capacity.toNat 0, List.replicate c.threads.toNat default, 0, 0, 0, 0⟩ := if_pos c7
       refine ret1c rfl ag29 hF hS (i := 4) rfl sz29 rfl ⟨[s11, (some ⟨gm_14, 0, none⟩, c.capacity.toNat, c.capacity.toNat), q], ?_, ?_⟩
       · rw [e]; rfl
       · rw [e]; exact hS.part_of [3, 2, 0] (by decide) rfl)
 ·
  refine op_op rfl rfl (gw0 rfl) rfl rfl rfl (fun a w_ hF hS => r_make0 intEK 0 [] mk26 rfl (fun _ => Sat.nil _ _) ((hF.ev rfl).trans (show vi (c.capacity) = Value.int .i64 ((Int.toNat (c.capacity) : Nat) : Int) from by rw [Int.toNat_of_nonneg (by omega)])) (by omega) (by unfold maxLen; omega)) ?_; intro gm_14
  refine todo_mk hl_ rfl (by kernel_rfl) rfl rfl rfl rfl rfl (fun a w_ hF => r_call1 en188 (hF.ev rfl)) (fun w_ hS => specNewCells_c _) ?_; rintro s11
  refine todo_pure hl_ (by kernel_rfl) rfl (gw0 rfl) rfl rfl rfl (fun a w_ hF => r_build (bd29_0_1_2 _ _ _ _ _ _ _ _ _ _ _ _) ⟨rfl, (hF.ev rfl), rfl, (hF.ev rfl), rfl, (hF.ev rfl), trivial⟩) ?_
  refine todo_fin hl_ rfl (by kernel_rfl) (tl := [_]) rfl ?_; intro a w14 hF hA_
  obtain ⟨g3, hS, he_0⟩ := hA_.open1; clear hA_
  replace hF := hF.more he_0; clear he_0
  clear hl_; try clear hSd
  try dsimp only [List.cons_append, List.nil_append, List.set] at hS
  try clear wd
  refine ww 0 hF hS rfl rfl rfl rfl rfl rfl fun w15 hS => wl_nil ⟨rfl, ?_⟩
  refine hK5 _ _ <| wp_seq_k fun K12 hK12 => rg hF rfl fun a hF => wp_block ?_
  replace hS := hS.own_nil threadEK
  replace hS := hS.pull (p := 1) rfl; dsimp only [List.eraseIdx] at hS
  replace hS := hS.pull (p := 1) rfl; dsimp only [List.eraseIdx] at hS
  have hL_ := (((hF.nil.keep hF (t := 3) rfl).keep hF (t := 2) rfl).keep hF (t := 1) rfl)
  refine wp_loop_m (σ := Nat × Slv) (fun z L_ => (4, vi z.1) :: L_) (fun z l_ => (Own threadEK (sv z.2) (List.replicate z.1 default)) :: (Box g3 [vi c.threads, vi c.keys, vi c.capacity, vi c.batch, vi c.policy, vi c.clockMax, sv s11, .slice (some ⟨gm_14, 0, none⟩) c.capacity.toNat c.capacity.toNat, sv z.2, vi 0, vi 0, vi 0, vi 0]) :: l_) (fun z => ((z.1 : Int) ≤ c.threads)) (fun z => c.threads.toNat - z.1) (0, (none, 0, 0)) (hS) (hL_.keepE hF (t := 4) rfl rfl) ?_ ?_
  · exact by dsimp only; omega
  rintro ⟨k, q⟩ a w16 hk hS hF; try dsimp only at hF; try dsimp only at hS; try dsimp only at hk
  refine wp_seq_k fun K14 hK14 => rh 5 hF hS rfl rfl rfl fun a hF => cx 19 hF rfl (fun c19 hF => ?_) fun c19 hF => ?_
  ·
   refine wp_skip <| hK14 _ _ <| wp_seq_k fun K16 hK16 => wp_block <| wp_region_lit <| gb 2 1 hF hS rfl rfl rfl fun a hF => wl hF rfl rfl rfl (r_build (bd42) trivial) fun a hF => ?_
   replace hS := hS.nilpart (ek := threadEK) (x := default) (vs := []) (thread_inner0 _)
   refine wl_bslice (rawEK threadEK.sz) [.agg (threadEK.cells (default) []).toArray] [raw threadEK (default) []] rfl hF hS rfl mk27 rfl ⟨rfl, (hF.ev rfl), trivial⟩ rfl rfl rfl rfl fun gl_25 w17 a hS hF => ?_
   have hu_ := hS.own_rd (i := 0) rfl
   replace hS := hS.pull (p := 1) rfl; dsimp only [List.eraseIdx] at hS
   replace hS := hS.pull (p := 2) rfl; dsimp only [List.eraseIdx] at hS
   refine wl_appendn (ek := threadEK) hF hS rfl hu_ mk27 rfl (hF.ev rfl) (hF.ev rfl) (by simp; omega) (by unfold maxLen; simp; omega) ?_; clear hF a hu_; intro A_26 c_26 w18 a hS_ hF; replace hS := hS_; clear hS_
   refine ga 1 hF rfl fun a hF => wv 2 hF hS rfl rfl rfl rfl rfl rfl fun w19 hS => wl_nil ?_
   refine xt ?_
   refine hK16 _ _ <| rl hF rfl fun a hF => ?_
   refine xt ?_
   rw [rep_nx] at hS
   refine ⟨(k + 1, (_, _, _)), (by dsimp only; omega), (hS.pick [0, 2, 3, 4, 5, 6] (by decide) rfl), ((((hF.nil.keep hF (t := 3) rfl).keep hF (t := 2) rfl).keep hF (t := 1) rfl).keepE hF (t := 4) rfl (wk (by omega))), by dsimp only; omega⟩
  refine wp_exit ?_
  refine xt ?_
  refine hK12 _ _ <| ws fun K17 hK17 => gb 1 1 hF hS rfl rfl rfl fun a hF => ww 4 hF hS rfl rfl rfl rfl rfl rfl fun w20 hS => wl_nil (hK17 _ _ ?_)
  refine xr ?_
  first
    | (refine ret1c rfl ag29 hF hS (i := 4) rfl sz29 rfl ⟨[], ?_, ?_⟩
       · rw [show newState c = zeroState from if_neg c7]; rfl
       · rw [show newState c = zeroState from if_neg c7]; exact (Sep.nilpart (hS.pick [] (by decide) rfl) (state_inner0 _)))
    | (obtain rfl : k = c.threads.toNat := by omega
       have e : newState c = ⟨c, newCells c, List.replicate c.capacity.toNat 0, List.replicate c.threads.toNat default, 0, 0, 0, 0⟩ := if_pos c7
       refine ret1c rfl ag29 hF hS (i := 4) rfl sz29 rfl ⟨[s11, (some ⟨gm_14, 0, none⟩, c.capacity.toNat, c.capacity.toNat), q], ?_, ?_⟩
       · rw [e]; rfl
       · rw [e]; exact hS.part_of [2, 3, 0] (by decide) rfl)
set_option maxRecDepth 20000
theorem pcs_int {x : Int} (h : x ∈ pcs) : int64 x := by
 unfold pcs at h; simp only [List.mem_cons, List.not_mem_nil, or_false] at h; unfold int64; omega
theorem ok_opwf {o : Sl.Op} (h : o.ok) : o.wf := by
 unfold Sl.Op.ok at h; refine ⟨?_, ?_, ?_⟩ <;> (unfold int64; omega)
theorem l7Thread_h {W : World} {g : Nat} {vb : Value} {bs : List Int} (hbs : byteEK.Rd W vb bs) {l : List Res} {w : World} (hS : Sep W (Cur g vb bs.length :: l) w) : Calls Tryz.prog 179 #[.pointer (some ⟨g, 0, none⟩)] w (Ret fun v w' => ∃ z : Sl.Thread × List Slv, (v = .agg (threadEK.cells z.1 z.2).toArray ∧ z.1.wf ∧ z.1.size ≤ 60 ∧ 0 ≤ z.1.seen) ∧ Sep W (Part threadEK z.1 z.2 :: Cur g vb bs.length :: l) w') := by
 refine cfr Tryz.func179 Tryz.ntmps179 fun a hF => ?_
 refine ws fun K1 hK1 => wl_alloc hF hS rfl zr42 fun g1 w1 a hS _ hF => wl_nil <| hK1 _ _ <| ws fun K2 hK2 => ga 1 hF rfl fun a hF => ?_
 refine wl_mk hF hS rfl rfl rfl (r_call0 en196 ) (l7Pcs_c) ?_; rintro s5 w2 a hS_ hF; replace hS := hS_; clear hS_; dsimp only [List.cons_append, List.nil_append] at hS
 have hln5 := hS.own_len (q := 0) rfl
 refine ck hF rfl (l1PickInt_c hbs (q := 2) (fun w_ hS => (hS.own_rd (i := 0) rfl)) (by decide) hS rfl) ?_; rintro v w3 a ⟨⟨x6, rfl, h6⟩, hS⟩ hF
 refine ga 1 hF rfl fun a hF => ?_
 refine ck hF rfl (l5Op_c hbs (q := 2) (by omega) hS rfl) ?_; rintro v w4 a ⟨⟨o8, rfl, h8⟩, hS⟩ hF
 refine ga 1 hF rfl fun a hF => ?_
 refine ck hF rfl (l1Below_c hbs (q := 2) _ hS rfl) ?_; rintro v w5 a ⟨⟨x10, rfl, h10⟩, hS⟩ hF
 refine ga 1 hF rfl fun a hF => ?_
 refine ck hF rfl (l2Handle_c hbs (q := 2) hS rfl) ?_; rintro v w6 a ⟨⟨x12, rfl, h12⟩, hS⟩ hF
 refine ga 1 hF rfl fun a hF => ?_
 refine ck hF rfl (l1Below_c hbs (q := 2) _ hS rfl) ?_; rintro v w7 a ⟨⟨x14, rfl, h14⟩, hS⟩ hF
 refine wl hF rfl rfl rfl (r_build (bd42_0_1_3_6_8 _ _ _ _ _ _ _) ⟨rfl, (hF.ev rfl), rfl, (hF.ev rfl), rfl, (hF.ev rfl), rfl, (hF.ev rfl), rfl, (hF.ev rfl), trivial⟩) fun a hF => wl_alloc hF hS rfl zr42 fun g2 w8 a hS _ hF => ww 0 hF hS rfl rfl rfl rfl rfl rfl fun w9 hS => wl_nil <| hK2 _ _ <| wp_cut (fun a w => ∃ (bu : List Entry) (qb : Slv), ((∀ x ∈ bu, x.wf) ∧ bu.length ≤ 10) ∧ Sep W (Own entryEK (sv qb) bu :: Box g2 [vi x6, vi o8.kind, vi o8.key, vi o8.value, vi 0, vi 0, vi x10, vi 0, vi 0, vi x12, vi 0, vi x14, vi 0, vi 0, .slice none 0 0, .slice none 0 0, sv qb, .slice none 0 0, .slice none 0 0] :: Box g1 [vi 0, vi 0, vi 0, vi 0, vi 0, vi 0, vi 0, vi 0, vi 0, vi 0, vi 0, vi 0, vi 0, vi 0, .slice none 0 0, .slice none 0 0, .slice none 0 0, .slice none 0 0, .slice none 0 0] :: Cur g vb bs.length :: l) w ∧ Fr 58 [(0, .pointer (some ⟨g, 0, none⟩)), (2, .pointer (some ⟨g1, 0, none⟩)), (3, .pointer (some ⟨g2, 0, none⟩))] a) ?_ ?_
 ·
  refine ws fun K3 hK3 => ga 1 hF rfl fun a hF => ?_
  refine ck hF rfl (l1Once_c hbs (q := 3) _ hS rfl) ?_; rintro v w10 a ⟨⟨b17, rfl⟩, hS⟩ hF
  refine wl_nil <| hK3 _ _ <| cx 17 hF rfl (fun c17 hF => ?_) fun c17 hF => ?_
  ·
   refine wp_region_lit <| ga 1 hF rfl fun a hF => ?_
   replace hS := hS.pull (p := 3) rfl; dsimp only [List.eraseIdx] at hS
   refine ck hF rfl (l6Entries_h hbs hS) ?_; rintro v w11 a ⟨⟨xs19, q19⟩, ⟨rfl, hx19, hn19⟩, hS⟩ hF
   try dsimp only at hz19
   refine ga 1 hF rfl fun a hF => wv 2 hF hS rfl rfl rfl rfl rfl rfl fun w12 hS => wl_nil ?_
   refine xt ?_
   dsimp only at hx19 hn19
   exact ⟨xs19, q19, ⟨hx19, hn19⟩, hS.pm 5 [0, 2, 4, 1] rfl, (((hF.nil.keepE hF (t := 3) rfl rfl).keepE hF (t := 2) rfl rfl).keepE hF (t := 0) rfl rfl)⟩
  refine wp_skip ?_
  refine xt ?_
  replace hS := hS.own_nil entryEK
  exact ⟨[], (none, 0, 0), ⟨(fun _ h => by cases h), by simp⟩, hS.pm 5 [0, 1, 3, 4] rfl, (((hF.nil.keepE hF (t := 3) rfl rfl).keepE hF (t := 2) rfl rfl).keepE hF (t := 0) rfl rfl)⟩
 rintro a w13 ⟨bu, qb, ⟨hxb, hnb⟩, hS, hF⟩
 refine wp_cut (fun a w => ∃ (fr : List Int) (qf : Slv), ((∀ x ∈ fr, int64 x) ∧ fr.length ≤ 10) ∧ Sep W (Own intEK (sv qf) fr :: Own entryEK (sv qb) bu :: Box g2 [vi x6, vi o8.kind, vi o8.key, vi o8.value, vi 0, vi 0, vi x10, vi 0, vi 0, vi x12, vi 0, vi x14, vi 0, vi 0, .slice none 0 0, sv qf, sv qb, .slice none 0 0, .slice none 0 0] :: Box g1 [vi 0, vi 0, vi 0, vi 0, vi 0, vi 0, vi 0, vi 0, vi 0, vi 0, vi 0, vi 0, vi 0, vi 0, .slice none 0 0, .slice none 0 0, .slice none 0 0, .slice none 0 0, .slice none 0 0] :: Cur g vb bs.length :: l) w ∧ Fr 58 [(0, .pointer (some ⟨g, 0, none⟩)), (2, .pointer (some ⟨g1, 0, none⟩)), (3, .pointer (some ⟨g2, 0, none⟩))] a) ?_ ?_
 ·
  refine ws fun K4 hK4 => ga 1 hF rfl fun a hF => ?_
  refine ck hF rfl (l1Once_c hbs (q := 3) _ hS rfl) ?_; rintro v w14 a ⟨⟨b22, rfl⟩, hS⟩ hF
  refine wl_nil <| hK4 _ _ <| cx 22 hF rfl (fun c22 hF => ?_) fun c22 hF => ?_
  ·
   refine wp_region_lit <| ga 1 hF rfl fun a hF => ?_
   replace hS := hS.pull (p := 3) rfl; dsimp only [List.eraseIdx] at hS
   refine ck hF rfl (l6Stamps_h hbs hS) ?_; rintro v w15 a ⟨⟨xs24, q24⟩, ⟨rfl, hx24, hn24⟩, hS⟩ hF
   try dsimp only at hz24
   refine ga 1 hF rfl fun a hF => wv 3 hF hS rfl rfl rfl rfl rfl rfl fun w16 hS => wl_nil ?_
   refine xt ?_
   dsimp only at hx24 hn24
   exact ⟨xs24, q24, ⟨hx24, hn24⟩, hS.pm 5 [0, 2, 3, 4, 1] rfl, (((hF.nil.keepE hF (t := 3) rfl rfl).keepE hF (t := 2) rfl rfl).keepE hF (t := 0) rfl rfl)⟩
  refine wp_skip ?_
  refine xt ?_
  replace hS := hS.own_nil intEK
  exact ⟨[], (none, 0, 0), ⟨(fun _ h => by cases h), by simp⟩, hS.pm 5 [0, 1, 2, 3, 4] rfl, (((hF.nil.keepE hF (t := 3) rfl rfl).keepE hF (t := 2) rfl rfl).keepE hF (t := 0) rfl rfl)⟩
 rintro a w17 ⟨fr, qf, ⟨hxf, hnf⟩, hS, hF⟩
 refine wp_cut (fun a w => ∃ (li : List Int) (qm : Slv), ((∀ x ∈ li, int64 x) ∧ li.length ≤ 10) ∧ Sep W (Own intEK (sv qm) li :: Own intEK (sv qf) fr :: Own entryEK (sv qb) bu :: Box g2 [vi x6, vi o8.kind, vi o8.key, vi o8.value, vi 0, vi 0, vi x10, vi 0, vi 0, vi x12, vi 0, vi x14, vi 0, vi 0, .slice none 0 0, sv qf, sv qb, .slice none 0 0, sv qm] :: Box g1 [vi 0, vi 0, vi 0, vi 0, vi 0, vi 0, vi 0, vi 0, vi 0, vi 0, vi 0, vi 0, vi 0, vi 0, .slice none 0 0, .slice none 0 0, .slice none 0 0, .slice none 0 0, .slice none 0 0] :: Cur g vb bs.length :: l) w ∧ Fr 58 [(0, .pointer (some ⟨g, 0, none⟩)), (2, .pointer (some ⟨g1, 0, none⟩)), (3, .pointer (some ⟨g2, 0, none⟩))] a) ?_ ?_
 ·
  refine ws fun K5 hK5 => ga 1 hF rfl fun a hF => ?_
  refine ck hF rfl (l1Once_c hbs (q := 4) _ hS rfl) ?_; rintro v w18 a ⟨⟨b27, rfl⟩, hS⟩ hF
  refine wl_nil <| hK5 _ _ <| cx 27 hF rfl (fun c27 hF => ?_) fun c27 hF => ?_
  ·
   refine wp_region_lit <| ga 1 hF rfl fun a hF => ?_
   replace hS := hS.pull (p := 4) rfl; dsimp only [List.eraseIdx] at hS
   refine ck hF rfl (l6Stamps_h hbs hS) ?_; rintro v w19 a ⟨⟨xs29, q29⟩, ⟨rfl, hx29, hn29⟩, hS⟩ hF
   try dsimp only at hz29
   refine ga 1 hF rfl fun a hF => wv 4 hF hS rfl rfl rfl rfl rfl rfl fun w20 hS => wl_nil ?_
   refine xt ?_
   dsimp only at hx29 hn29
   exact ⟨xs29, q29, ⟨hx29, hn29⟩, hS.pm 6 [0, 2, 3, 4, 5, 1] rfl, (((hF.nil.keepE hF (t := 3) rfl rfl).keepE hF (t := 2) rfl rfl).keepE hF (t := 0) rfl rfl)⟩
  refine wp_skip ?_
  refine xt ?_
  replace hS := hS.own_nil intEK
  exact ⟨[], (none, 0, 0), ⟨(fun _ h => by cases h), by simp⟩, hS.pm 6 [0, 1, 2, 3, 4, 5] rfl, (((hF.nil.keepE hF (t := 3) rfl rfl).keepE hF (t := 2) rfl rfl).keepE hF (t := 0) rfl rfl)⟩
 rintro a w21 ⟨li, qm, ⟨hxm, hnm⟩, hS, hF⟩
 refine wp_seq_k fun K6 hK6 => ws fun K7 hK7 => ga 1 hF rfl fun a hF => ?_
 refine ck hF rfl (l1Below_c hbs (q := 5) _ hS rfl) ?_; rintro v w22 a ⟨⟨x32, rfl, h32⟩, hS⟩ hF
 refine wl_nil <| hK7 _ _ <| wp_block <| rg hF rfl fun a hF => cx 33 hF rfl (fun c33 hF => ?_) fun c33 hF => ?_
 ·
  refine wp_region_lit <| ga 1 hF rfl fun a hF => wl_bslice intEK [vi (-1), vi 6, vi 22, vi 81] [-1, 6, 22, 81] rfl hF hS rfl mk26 rfl ⟨rfl, ec, rfl, ec, rfl, ec, rfl, ec, trivial⟩ rfl rfl rfl rfl fun gl_36 w23 a hS hF => ?_
  refine ck hF rfl (l1PickInt_c hbs (q := 6) (fun w_ hS => (hS.own_rd (i := 0) rfl)) (by decide) hS rfl) ?_; rintro v w24 a ⟨⟨x37, rfl, h37⟩, hS⟩ hF
  refine ga 1 hF rfl fun a hF => wv 4 hF hS rfl rfl rfl rfl rfl rfl fun w25 hS => wl_nil ?_
  refine xt ?_
  refine hK6 _ _ <| ws fun K9 hK9 => gb 1 4 hF hS rfl rfl rfl fun a hF => ww 5 hF hS rfl rfl rfl rfl rfl rfl fun w26 hS => wl_nil (hK9 _ _ ?_)
  refine xr ?_
  simp only [List.mem_cons, List.not_mem_nil, or_false] at h37
  have hT := hS
  replace hT := hT.own_nil entryEK
  replace hT := hT.own_nil intEK
  replace hT := hT.pm 9 [0, 4, 5, 1, 3, 8] rfl
  refine ret1c rfl ag42 hF hS (i := 5) rfl sz42 rfl ⟨((⟨x37, o8, ⟨0, 0⟩, x10, 0, 0, x12, 0, x14, 0, 0, [], fr, bu, [], li⟩ : Sl.Thread), [(none, 0, 0), qf, qb, (none, 0, 0), qm]), ⟨rfl, ⟨(by unfold int64; dsimp only; omega), ok_opwf h8, ⟨int64_zero, int64_zero⟩, (by unfold int64; dsimp only; omega), int64_zero, int64_zero, h12, int64_zero, (by unfold int64; dsimp only; omega), int64_zero, int64_zero, (fun _ h => by cases h), hxf, hxb, (fun _ h => by cases h), hxm⟩, ?_, by dsimp only; omega⟩, ?_⟩
  · unfold Sl.Thread.size; simp only [List.length_nil]; omega
  · exact Sep.part_mk (ek := threadEK) (x := (⟨x37, o8, ⟨0, 0⟩, x10, 0, 0, x12, 0, x14, 0, 0, [], fr, bu, [], li⟩ : Sl.Thread)) (vs := [(none, 0, 0), qf, qb, (none, 0, 0), qm]) hT rfl
 refine rg hF rfl fun a hF => cx 39 hF rfl (fun c39 hF => ?_) fun c39 hF => ?_
 ·
  refine wp_region_lit <| ga 1 hF rfl fun a hF => ?_
  replace hS := hS.pull (p := 5) rfl; dsimp only [List.eraseIdx] at hS
  refine ck hF rfl (l6Stamps_h hbs hS) ?_; rintro v w27 a ⟨⟨xs42, q42⟩, ⟨rfl, hx42, hn42⟩, hS⟩ hF
  try dsimp only at hz42
  refine ga 1 hF rfl fun a hF => wv 5 hF hS rfl rfl rfl rfl rfl rfl fun w28 hS => wl_nil ?_
  refine xt ?_
  refine hK6 _ _ <| ws fun K11 hK11 => gb 1 5 hF hS rfl rfl rfl fun a hF => ww 6 hF hS rfl rfl rfl rfl rfl rfl fun w29 hS => wl_nil (hK11 _ _ ?_)
  refine xr ?_
  dsimp only at hx42 hn42
  have hT := hS
  replace hT := hT.own_nil entryEK
  replace hT := hT.pm 8 [1, 4, 5, 0, 3, 2] rfl
  refine ret1c rfl ag42 hF hS (i := 6) rfl sz42 rfl ⟨((⟨x6, o8, ⟨0, 0⟩, x10, 0, 0, x12, 0, x14, 0, 0, xs42, fr, bu, [], li⟩ : Sl.Thread), [q42, qf, qb, (none, 0, 0), qm]), ⟨rfl, ⟨(pcs_int h6), ok_opwf h8, ⟨int64_zero, int64_zero⟩, (by unfold int64; dsimp only; omega), int64_zero, int64_zero, h12, int64_zero, (by unfold int64; dsimp only; omega), int64_zero, int64_zero, hx42, hxf, hxb, (fun _ h => by cases h), hxm⟩, ?_, by dsimp only; omega⟩, ?_⟩
  · unfold Sl.Thread.size; simp only [List.length_nil]; omega
  · exact Sep.part_mk (ek := threadEK) (x := (⟨x6, o8, ⟨0, 0⟩, x10, 0, 0, x12, 0, x14, 0, 0, xs42, fr, bu, [], li⟩ : Sl.Thread)) (vs := [q42, qf, qb, (none, 0, 0), qm]) hT rfl
 refine rg hF rfl fun a hF => cx 44 hF rfl (fun c44 hF => ?_) fun c44 hF => ?_
 ·
  refine wp_region_lit <| ga 1 hF rfl fun a hF => ?_
  replace hS := hS.pull (p := 5) rfl; dsimp only [List.eraseIdx] at hS
  refine ck hF rfl (l6Entries_h hbs hS) ?_; rintro v w30 a ⟨⟨xs47, q47⟩, ⟨rfl, hx47, hn47⟩, hS⟩ hF
  try dsimp only at hz47
  refine ga 1 hF rfl fun a hF => wv 5 hF hS rfl rfl rfl rfl rfl rfl fun w31 hS => wl_nil ?_
  refine xt ?_
  refine hK6 _ _ <| ws fun K13 hK13 => gb 1 5 hF hS rfl rfl rfl fun a hF => ww 6 hF hS rfl rfl rfl rfl rfl rfl fun w32 hS => wl_nil (hK13 _ _ ?_)
  refine xr ?_
  dsimp only at hx47 hn47
  have hT := hS
  replace hT := hT.own_nil intEK
  replace hT := hT.pm 8 [0, 4, 5, 1, 3, 2] rfl
  refine ret1c rfl ag42 hF hS (i := 6) rfl sz42 rfl ⟨((⟨x6, o8, ⟨0, 0⟩, x10, 0, 0, x12, 0, x14, 0, 0, [], fr, bu, xs47, li⟩ : Sl.Thread), [(none, 0, 0), qf, qb, q47, qm]), ⟨rfl, ⟨(pcs_int h6), ok_opwf h8, ⟨int64_zero, int64_zero⟩, (by unfold int64; dsimp only; omega), int64_zero, int64_zero, h12, int64_zero, (by unfold int64; dsimp only; omega), int64_zero, int64_zero, (fun _ h => by cases h), hxf, hxb, hx47, hxm⟩, ?_, by dsimp only; omega⟩, ?_⟩
  · unfold Sl.Thread.size; simp only [List.length_nil]; omega
  · exact Sep.part_mk (ek := threadEK) (x := (⟨x6, o8, ⟨0, 0⟩, x10, 0, 0, x12, 0, x14, 0, 0, [], fr, bu, xs47, li⟩ : Sl.Thread)) (vs := [(none, 0, 0), qf, qb, q47, qm]) hT rfl
 refine rg hF rfl fun a hF => cx 49 hF rfl (fun c49 hF => ?_) fun c49 hF => ?_
 ·
  refine wp_region_lit <| ga 1 hF rfl fun a hF => ?_
  refine ck hF rfl (l1Below_c hbs (q := 5) _ hS rfl) ?_; rintro v w33 a ⟨⟨x52, rfl, h52⟩, hS⟩ hF
  refine ga 1 hF rfl fun a hF => ?_
  refine ck hF rfl (l1Below_c hbs (q := 5) _ hS rfl) ?_; rintro v w34 a ⟨⟨x54, rfl, h54⟩, hS⟩ hF
  refine wl hF rfl rfl rfl (r_build (bd39_0_1 _ _) ⟨rfl, (hF.ev rfl), rfl, (hF.ev rfl), trivial⟩) fun a hF => ga 1 hF rfl fun a hF => ?_
  refine wl_storen (cs' := [_, _, _, _, _, _, _, _, _, _, _, _, _, _, _, _, _, _, _]) hF hS (i := 3) rfl (hF.ev rfl) (hF.ev rfl) sz39 ⟨rfl, rfl⟩ rfl rfl fun w35 hS => ?_; dsimp only [List.set] at hS
  refine wl_nil ?_
  refine xt ?_
  refine hK6 _ _ <| ws fun K15 hK15 => gb 1 3 hF hS rfl rfl rfl fun a hF => ww 4 hF hS rfl rfl rfl rfl rfl rfl fun w36 hS => wl_nil (hK15 _ _ ?_)
  refine xr ?_
  have hT := hS
  replace hT := hT.own_nil entryEK
  replace hT := hT.own_nil intEK
  replace hT := hT.pm 8 [0, 3, 4, 1, 2, 7] rfl
  refine ret1c rfl ag42 hF hS (i := 4) rfl sz42 rfl ⟨((⟨x6, o8, ⟨x52, x54⟩, x10, 0, 0, x12, 0, x14, 0, 0, [], fr, bu, [], li⟩ : Sl.Thread), [(none, 0, 0), qf, qb, (none, 0, 0), qm]), ⟨rfl, ⟨(pcs_int h6), ok_opwf h8, ⟨by unfold int64; dsimp only; omega, by unfold int64; dsimp only; omega⟩, (by unfold int64; dsimp only; omega), int64_zero, int64_zero, h12, int64_zero, (by unfold int64; dsimp only; omega), int64_zero, int64_zero, (fun _ h => by cases h), hxf, hxb, (fun _ h => by cases h), hxm⟩, ?_, by dsimp only; omega⟩, ?_⟩
  · unfold Sl.Thread.size; simp only [List.length_nil]; omega
  · exact Sep.part_mk (ek := threadEK) (x := (⟨x6, o8, ⟨x52, x54⟩, x10, 0, 0, x12, 0, x14, 0, 0, [], fr, bu, [], li⟩ : Sl.Thread)) (vs := [(none, 0, 0), qf, qb, (none, 0, 0), qm]) hT rfl
 refine wp_skip ?_
 refine xt ?_
 refine hK6 _ _ <| ws fun K16 hK16 => gb 1 3 hF hS rfl rfl rfl fun a hF => ww 4 hF hS rfl rfl rfl rfl rfl rfl fun w37 hS => wl_nil (hK16 _ _ ?_)
 refine xr ?_
 have hT := hS
 replace hT := hT.own_nil entryEK
 replace hT := hT.own_nil intEK
 replace hT := hT.pm 8 [0, 3, 4, 1, 2, 7] rfl
 refine ret1c rfl ag42 hF hS (i := 4) rfl sz42 rfl ⟨((⟨x6, o8, ⟨0, 0⟩, x10, 0, 0, x12, 0, x14, 0, 0, [], fr, bu, [], li⟩ : Sl.Thread), [(none, 0, 0), qf, qb, (none, 0, 0), qm]), ⟨rfl, ⟨(pcs_int h6), ok_opwf h8, ⟨int64_zero, int64_zero⟩, (by unfold int64; dsimp only; omega), int64_zero, int64_zero, h12, int64_zero, (by unfold int64; dsimp only; omega), int64_zero, int64_zero, (fun _ h => by cases h), hxf, hxb, (fun _ h => by cases h), hxm⟩, ?_, by dsimp only; omega⟩, ?_⟩
 · unfold Sl.Thread.size; simp only [List.length_nil]; omega
 · exact Sep.part_mk (ek := threadEK) (x := (⟨x6, o8, ⟨0, 0⟩, x10, 0, 0, x12, 0, x14, 0, 0, [], fr, bu, [], li⟩ : Sl.Thread)) (vs := [(none, 0, 0), qf, qb, (none, 0, 0), qm]) hT rfl
set_option maxRecDepth 20000
theorem stateK_of {w : World} {s : Sl.State} {v0 v1 v2 : Value} (h0 : intEK.Rd w v0 s.cells) (h1 : intEK.Rd w v1 s.generations) (h2 : threadEK.Rd w v2 s.threads) : stateEK.K w s (s.encv v0 v1 v2) := ⟨_, _, _, rfl, h0, h1, h2⟩
theorem l18Run_h {W : World} {g : Nat} {vb : Value} {bs : List Int} (hbs : byteEK.Rd W vb bs) {l : List Res} {w : World} {most : Int} (hm : most ≤ 1000) (hS : Sep W (Cur g vb bs.length :: l) w) : Calls Tryz.prog 100 #[.pointer (some ⟨g, 0, none⟩), vi most] w (Ret fun v w' => ∃ z : Sl.State × List Slv, (v = .agg (stateEK.cells z.1 z.2).toArray ∧ Good z.1) ∧ Sep W (Part stateEK z.1 z.2 :: Cur g vb bs.length :: l) w') := by
 refine cfr Tryz.func100 Tryz.ntmps100 fun a hF => ?_
 refine ws fun K1 hK1 => wl_alloc hF hS rfl zr29 fun g1 w1 a hS _ hF => wl_nil <| hK1 _ _ <| ws fun K2 hK2 => ga 1 hF rfl fun a hF => ?_
 refine ck hF rfl (l3Config_c hbs (q := 1) hS rfl) ?_; rintro v w2 a ⟨⟨c13, rfl, h13⟩, hS⟩ hF
 refine wl_mk hF hS rfl rfl rfl (r_call1 en158 (hF.ev rfl)) (specNewState_c _) ?_; rintro vs14 w3 a hS_ hF; replace hS := hS_; clear hS_; dsimp only [List.cons_append, List.nil_append] at hS
 refine wl_alloc hF hS rfl zr29 fun g2 w4 a hS _ hF => ww 0 hF hS rfl rfl rfl rfl rfl rfl fun w5 hS => wl_nil <| hK2 _ _ <| wp_seq_k fun K3 hK3 => ws fun K4 hK4 => ga 2 hF rfl fun a hF => ?_
 refine ck hF rfl (l1Below_c hbs (q := 3) _ hS rfl) ?_; rintro v w6 a ⟨⟨x17, rfl, h17⟩, hS⟩ hF
 refine ge hK4 hF rfl fun a hF => wp_block ?_
 replace hS := hS.pull (p := 1) rfl; dsimp only [List.eraseIdx] at hS
 replace hS := hS.pull (p := 1) rfl; dsimp only [List.eraseIdx] at hS
 have hL_ := (((hF.nil.keep hF (t := 5) rfl).keep hF (t := 4) rfl).keep hF (t := 0) rfl)
 refine wp_loop_m (σ := Int × Sl.State × List Slv) (fun z L_ => (6, vi z.1) :: L_) (fun z l_ => (Box g2 (stateEK.cells z.2.1 z.2.2)) :: (Part stateEK z.2.1 z.2.2) :: l_) (fun z => (Good z.2.1) ∧ (0 ≤ z.1 ∧ z.1 ≤ 1000)) (fun z => z.1.toNat) (x17, newState c13, vs14) (hS) (hL_.keepE hF (t := 6) rfl rfl) ?_ ?_
 · exact ⟨good_new h13, by dsimp only; omega⟩
 rintro ⟨n, x, vs⟩ a w7 ⟨hgx, hn⟩ hS hF; try dsimp only at hF; try dsimp only at hS; try dsimp only at hgx; try dsimp only at hn
 refine wp_seq_k fun K5 hK5 => rg hF rfl fun a hF => cx 19 hF rfl (fun c19 hF => ?_) fun c19 hF => ?_
 ·
  obtain ⟨ho_, hc_, hgl_, ht_⟩ := hgx.sh
  have hb_ := ho_; unfold Config.ok at hb_
  have hz_ := hgx.sz
  replace hS := hS.pull (p := 1) rfl; dsimp only [List.eraseIdx] at hS
  replace hS : Sep W (Own intEK (sv (vs.getD 0 (none, 0, 0))) (x).cells :: Own intEK (sv (vs.getD 1 (none, 0, 0))) (x).generations :: Own threadEK (sv (vs.getD 2 (none, 0, 0))) (x).threads :: _) _ := hS.part_open
  dsimp only [stateEK] at hS
  generalize vs.getD 0 (none, 0, 0) = z0 at hS
  generalize vs.getD 1 (none, 0, 0) = z1 at hS
  generalize vs.getD 2 (none, 0, 0) = z2 at hS
  have hl0_ := hS.own_len (q := 0) rfl
  have hl1_ := hS.own_len (q := 1) rfl
  have hl2_ := hS.own_len (q := 2) rfl
  refine wp_skip <| hK5 _ _ <| wp_seq_k fun K7 hK7 => wp_block <| ws fun K8 hK8 => gb 4 3 hF hS rfl rfl rfl fun a hF => ?_
  refine ck hF rfl (l1Below_c hbs (q := 5) _ hS rfl) ?_; rintro v w8 a ⟨⟨x26, rfl, h26⟩, hS⟩ hF
  refine ge hK8 hF rfl fun a hF => wp_seq_k fun K9 hK9 => ws fun K10 hK10 => gb 3 3 hF hS rfl rfl rfl fun a hF => ?_
  obtain ⟨g30, o30, m30, q30, cs30, hv30, hm30, hl30, hk30, hz30, hc30⟩ := Rd.at ((hS.own_rd (i := 2) rfl)) (a := a) (X := .tmp 29) (hF.ev rfl) (by omega) (by omega)
  have hkk30 := hk30; obtain ⟨v30_0, v30_1, v30_2, v30_3, v30_4, rfl, r30_0, r30_1, r30_2, r30_3, r30_4⟩ := hk30
  refine wl hF rfl rfl rfl (r_index sl27 ((hF.ev rfl).trans hv30) (hF.ev rfl) (by omega) (by first | omega | (simp at hm30; omega))) fun a hF => ?_
  refine ga 1 hF rfl fun a hF => wl hF rfl rfl rfl (r_load1 sc3 (hF.ev rfl) (hc30 0 _ rfl)) fun a hF => ge hK10 hF rfl fun a hF => cx 33 hF rfl (fun c33 hF => ?_) fun c33 hF => ?_
  ·
   refine wp_seq_k fun K11 hK11 => ?_
   refine wp_region_todo (is := [1, 2, 3, 4, 5, 6, 0, 7, 8, 9, 10, 12, 13]) [(11, 8, [.int .i64 0, .int .i64 0, .int .i64 0, .int .i64 0, .int .i64 0, .int .i64 0, .slice none 0 0, .slice none 0 0, .slice none 0 0, .int .i64 0, .int .i64 0, .int .i64 0, .int .i64 0])] [6, 12, 13] (by kernel_rfl) hF hS ⟨⟨⟨_, _, _, rfl, zr29⟩, trivial⟩, by decide, by decide, by decide⟩ (by kernel_rfl) ?_; intro hl_ wd hSd
   refine tp 4 hl_ rfl <| todo_load [6, 7, 8, 9, 10, 12, 13] hl_ (by kernel_rfl) rfl (gw0 rfl) rfl rfl rfl (fun a w_ hF hB_ => r_load1 sc3 (hF.ev rfl) ((hSd.ext hB_).box (i := 3) rfl rfl)) <| todo_fork [(6, [0, 7, 8, 9, 10, 12, 13]), (0, [6, 7, 8, 9, 10, 12, 13])] hl_ rfl (by kernel_rfl) (List.forall_mem_cons.2 ⟨?_, List.forall_mem_cons.2 ⟨?_, fun _ h_ => nomatch h_⟩⟩)
   ·
    refine op_dw (m' := [12, 13]) (val := fun o : Sl.Op => .agg o.enc.toArray) (R := fun o => o.ok) rfl rfl (gw0 rfl) rfl rfl rfl rfl (fun a w_ hF => r_call2 en84 (hF.ev rfl) (hF.ev rfl)) (fun M_ w_ hS => l5Op_c hbs (q := 6) (by omega) hS rfl) ?_; intro o41 h41; try clear hSd; try clear wd; intro wd hSd
    refine todo_load [7, 8, 9, 10, 12, 13] hl_ (by kernel_rfl) rfl (gw0 rfl) rfl rfl rfl (fun a w_ hF hB_ => r_loadn ag29 (hF.ev rfl) ((hSd.ext hB_).box_rd (i := 3) rfl) sz29) ?_
    refine todo_mk hl_ rfl (by kernel_rfl) rfl rfl rfl rfl rfl (fun a w_ hF => r_call3 en10 (hF.ev rfl) (hF.ev rfl) (hF.ev rfl)) (fun w_ hS => specStartOp_c (stateK_of (hS.own_rd (i := 0) rfl) (hS.own_rd (i := 1) rfl) (hS.own_rd (i := 2) rfl)) hgx.wf (by omega) (by unfold int64; omega)) ?_; rintro vs42
    refine tp 3 hl_ rfl ?_
    refine todo_fin hl_ rfl (by kernel_rfl) (tl := [_, _]) rfl ?_; intro a w9 hF hA_
    obtain ⟨g3, hS, he_0⟩ := hA_.open1; clear hA_
    replace hF := hF.more he_0; clear he_0
    clear hl_; try clear hSd
    try dsimp only [List.cons_append, List.nil_append, List.set] at hS
    try clear wd
    refine ww 0 hF hS rfl rfl rfl rfl rfl rfl fun w10 hS => ga 1 hF rfl fun a hF => wl_nil ⟨rfl, ?_⟩
    refine hK11 _ _ <| wp_region_lit <| gb 1 0 hF hS rfl rfl rfl fun a hF => ww 5 hF hS rfl rfl rfl rfl rfl rfl fun w11 hS => wl_nil <| hK9 _ _ <| wp_seq_k fun K12 hK12 => ?_
    refine wp_region_todo (is := [1, 2, 3, 0, 4, 5, 6, 7, 8, 10, 11]) [(9, 10, [.int .i64 0, .int .i64 0, .int .i64 0, .int .i64 0, .int .i64 0, .int .i64 0, .slice none 0 0, .slice none 0 0, .slice none 0 0, .int .i64 0, .int .i64 0, .int .i64 0, .int .i64 0])] [3, 10, 11] (by kernel_rfl) hF hS ⟨⟨⟨_, _, _, rfl, zr29⟩, trivial⟩, by decide, by decide, by decide⟩ (by kernel_rfl) ?_; intro hl_ wd hSd
    refine tp 2 hl_ rfl <| todo_fork [(3, [0, 4, 5, 6, 7, 8, 10, 11]), (0, [3, 4, 5, 6, 7, 8, 10, 11])] hl_ rfl (by kernel_rfl) (List.forall_mem_cons.2 ⟨?_, List.forall_mem_cons.2 ⟨?_, fun _ h_ => nomatch h_⟩⟩)
    ·
     refine op_dw (m' := [10, 11]) (val := fun x : Int => vi x) (R := fun x => 0 ≤ x ∧ (x < 12 ∨ (12 ≤ 0 ∧ x = 0))) rfl rfl (gw0 rfl) rfl rfl rfl rfl (fun a w_ hF => r_call2 en83 (hF.ev rfl) ec) (fun M_ w_ hS => l1Below_c hbs (q := 8) _ hS rfl) ?_; intro x50 h50; try clear hSd; try clear wd; intro wd hSd
     refine todo_load [5, 6, 7, 8, 10, 11] hl_ (by kernel_rfl) rfl (gw0 rfl) rfl rfl rfl (fun a w_ hF hB_ => r_loadn ag29 (hF.ev rfl) ((hSd.ext hB_).box_rd (i := 5) rfl) sz29) <| tp 1 hl_ rfl ?_
     refine todo_mk hl_ rfl (by kernel_rfl) rfl rfl rfl rfl rfl (fun a w_ hF => r_call3 en160 (hF.ev rfl) (hF.ev rfl) (hF.ev rfl)) (fun w_ hS => specStepMany_c (hS.part_k (i := 1) rfl) (by first | exact good_start hgx (ok_opwf h41) | exact hgx) (by unfold int64; omega)) ?_; rintro ⟨⟨x52, vs52, k52⟩, hg52⟩
     refine tp 3 hl_ rfl ?_
     refine todo_fin hl_ rfl (by kernel_rfl) (tl := [_, _]) rfl ?_; intro a w12 hF hA_
     obtain ⟨g4, hS, he_0⟩ := hA_.open1; clear hA_
     replace hF := hF.more he_0; clear he_0
     clear hl_; try clear hSd
     try dsimp only [List.cons_append, List.nil_append, List.set] at hS
     try clear wd
     refine ww 0 hF hS rfl rfl rfl rfl rfl rfl fun w13 hS => ga 1 hF rfl fun a hF => wl_nil ⟨rfl, ?_⟩
     refine hK12 _ _ <| wp_region_lit <| gb 1 0 hF hS rfl rfl rfl fun a hF => ww 7 hF hS rfl rfl rfl rfl rfl rfl fun w14 hS => wl_nil ?_
     refine xt ?_
     refine hK7 _ _ <| rl hF rfl fun a hF => ?_
     refine xt ?_
     refine ⟨(n - 1, _, _), ⟨hg52, by dsimp only; omega⟩, (hS.pm 10 [7, 1, 8, 9] rfl), ((((hF.nil.keep hF (t := 5) rfl).keep hF (t := 4) rfl).keep hF (t := 0) rfl).keepE hF (t := 6) rfl (congrArg vi (w64_id (by omega) (by omega)))), by dsimp only; omega⟩
    ·
     refine op_ld rfl rfl (gw0 rfl) rfl rfl rfl (fun a w_ hF hS => r_loadn ag29 (hF.ev rfl) (hS.box_rd (i := 5) rfl) sz29) <| todo_fork [(3, [4, 5, 6, 7, 8, 10, 11])] hl_ rfl (by kernel_rfl) (List.forall_mem_cons.2 ⟨?_, fun _ h_ => nomatch h_⟩)
     ·
      refine op_dw (m' := [10, 11]) (val := fun x : Int => vi x) (R := fun x => 0 ≤ x ∧ (x < 12 ∨ (12 ≤ 0 ∧ x = 0))) rfl rfl (gw0 rfl) rfl rfl rfl rfl (fun a w_ hF => r_call2 en83 (hF.ev rfl) ec) (fun M_ w_ hS => l1Below_c hbs (q := 8) _ hS rfl) ?_; intro x50 h50; try clear hSd; try clear wd; intro wd hSd
      refine tp 1 hl_ rfl ?_
      refine todo_mk hl_ rfl (by kernel_rfl) rfl rfl rfl rfl rfl (fun a w_ hF => r_call3 en160 (hF.ev rfl) (hF.ev rfl) (hF.ev rfl)) (fun w_ hS => specStepMany_c (hS.part_k (i := 1) rfl) (by first | exact good_start hgx (ok_opwf h41) | exact hgx) (by unfold int64; omega)) ?_; rintro ⟨⟨x52, vs52, k52⟩, hg52⟩
      refine tp 3 hl_ rfl ?_
      refine todo_fin hl_ rfl (by kernel_rfl) (tl := [_, _]) rfl ?_; intro a w15 hF hA_
      obtain ⟨g4, hS, he_0⟩ := hA_.open1; clear hA_
      replace hF := hF.more he_0; clear he_0
      clear hl_; try clear hSd
      try dsimp only [List.cons_append, List.nil_append, List.set] at hS
      try clear wd
      refine ww 0 hF hS rfl rfl rfl rfl rfl rfl fun w16 hS => ga 1 hF rfl fun a hF => wl_nil ⟨rfl, ?_⟩
      refine hK12 _ _ <| wp_region_lit <| gb 1 0 hF hS rfl rfl rfl fun a hF => ww 7 hF hS rfl rfl rfl rfl rfl rfl fun w17 hS => wl_nil ?_
      refine xt ?_
      refine hK7 _ _ <| rl hF rfl fun a hF => ?_
      refine xt ?_
      refine ⟨(n - 1, _, _), ⟨hg52, by dsimp only; omega⟩, (hS.pm 10 [7, 1, 8, 9] rfl), ((((hF.nil.keep hF (t := 5) rfl).keep hF (t := 4) rfl).keep hF (t := 0) rfl).keepE hF (t := 6) rfl (congrArg vi (w64_id (by omega) (by omega)))), by dsimp only; omega⟩
   ·
    refine op_ld rfl rfl (gw0 rfl) rfl rfl rfl (fun a w_ hF hS => r_loadn ag29 (hF.ev rfl) (hS.box_rd (i := 3) rfl) sz29) <| todo_fork [(6, [7, 8, 9, 10, 12, 13])] hl_ rfl (by kernel_rfl) (List.forall_mem_cons.2 ⟨?_, fun _ h_ => nomatch h_⟩)
    ·
     refine op_dw (m' := [12, 13]) (val := fun o : Sl.Op => .agg o.enc.toArray) (R := fun o => o.ok) rfl rfl (gw0 rfl) rfl rfl rfl rfl (fun a w_ hF => r_call2 en84 (hF.ev rfl) (hF.ev rfl)) (fun M_ w_ hS => l5Op_c hbs (q := 6) (by omega) hS rfl) ?_; intro o41 h41; try clear hSd; try clear wd; intro wd hSd
     refine todo_mk hl_ rfl (by kernel_rfl) rfl rfl rfl rfl rfl (fun a w_ hF => r_call3 en10 (hF.ev rfl) (hF.ev rfl) (hF.ev rfl)) (fun w_ hS => specStartOp_c (stateK_of (hS.own_rd (i := 0) rfl) (hS.own_rd (i := 1) rfl) (hS.own_rd (i := 2) rfl)) hgx.wf (by omega) (by unfold int64; omega)) ?_; rintro vs42
     refine tp 3 hl_ rfl ?_
     refine todo_fin hl_ rfl (by kernel_rfl) (tl := [_, _]) rfl ?_; intro a w18 hF hA_
     obtain ⟨g3, hS, he_0⟩ := hA_.open1; clear hA_
     replace hF := hF.more he_0; clear he_0
     clear hl_; try clear hSd
     try dsimp only [List.cons_append, List.nil_append, List.set] at hS
     try clear wd
     refine ww 0 hF hS rfl rfl rfl rfl rfl rfl fun w19 hS => ga 1 hF rfl fun a hF => wl_nil ⟨rfl, ?_⟩
     refine hK11 _ _ <| wp_region_lit <| gb 1 0 hF hS rfl rfl rfl fun a hF => ww 5 hF hS rfl rfl rfl rfl rfl rfl fun w20 hS => wl_nil <| hK9 _ _ <| wp_seq_k fun K13 hK13 => ?_
     refine wp_region_todo (is := [1, 2, 3, 0, 4, 5, 6, 7, 8, 10, 11]) [(9, 10, [.int .i64 0, .int .i64 0, .int .i64 0, .int .i64 0, .int .i64 0, .int .i64 0, .slice none 0 0, .slice none 0 0, .slice none 0 0, .int .i64 0, .int .i64 0, .int .i64 0, .int .i64 0])] [3, 10, 11] (by kernel_rfl) hF hS ⟨⟨⟨_, _, _, rfl, zr29⟩, trivial⟩, by decide, by decide, by decide⟩ (by kernel_rfl) ?_; intro hl_ wd hSd
     refine tp 2 hl_ rfl <| todo_fork [(3, [0, 4, 5, 6, 7, 8, 10, 11]), (0, [3, 4, 5, 6, 7, 8, 10, 11])] hl_ rfl (by kernel_rfl) (List.forall_mem_cons.2 ⟨?_, List.forall_mem_cons.2 ⟨?_, fun _ h_ => nomatch h_⟩⟩)
     ·
      refine op_dw (m' := [10, 11]) (val := fun x : Int => vi x) (R := fun x => 0 ≤ x ∧ (x < 12 ∨ (12 ≤ 0 ∧ x = 0))) rfl rfl (gw0 rfl) rfl rfl rfl rfl (fun a w_ hF => r_call2 en83 (hF.ev rfl) ec) (fun M_ w_ hS => l1Below_c hbs (q := 8) _ hS rfl) ?_; intro x50 h50; try clear hSd; try clear wd; intro wd hSd
      refine todo_load [5, 6, 7, 8, 10, 11] hl_ (by kernel_rfl) rfl (gw0 rfl) rfl rfl rfl (fun a w_ hF hB_ => r_loadn ag29 (hF.ev rfl) ((hSd.ext hB_).box_rd (i := 5) rfl) sz29) <| tp 1 hl_ rfl ?_
      refine todo_mk hl_ rfl (by kernel_rfl) rfl rfl rfl rfl rfl (fun a w_ hF => r_call3 en160 (hF.ev rfl) (hF.ev rfl) (hF.ev rfl)) (fun w_ hS => specStepMany_c (hS.part_k (i := 1) rfl) (by first | exact good_start hgx (ok_opwf h41) | exact hgx) (by unfold int64; omega)) ?_; rintro ⟨⟨x52, vs52, k52⟩, hg52⟩
      refine tp 3 hl_ rfl ?_
      refine todo_fin hl_ rfl (by kernel_rfl) (tl := [_, _]) rfl ?_; intro a w21 hF hA_
      obtain ⟨g4, hS, he_0⟩ := hA_.open1; clear hA_
      replace hF := hF.more he_0; clear he_0
      clear hl_; try clear hSd
      try dsimp only [List.cons_append, List.nil_append, List.set] at hS
      try clear wd
      refine ww 0 hF hS rfl rfl rfl rfl rfl rfl fun w22 hS => ga 1 hF rfl fun a hF => wl_nil ⟨rfl, ?_⟩
      refine hK13 _ _ <| wp_region_lit <| gb 1 0 hF hS rfl rfl rfl fun a hF => ww 7 hF hS rfl rfl rfl rfl rfl rfl fun w23 hS => wl_nil ?_
      refine xt ?_
      refine hK7 _ _ <| rl hF rfl fun a hF => ?_
      refine xt ?_
      refine ⟨(n - 1, _, _), ⟨hg52, by dsimp only; omega⟩, (hS.pm 10 [7, 1, 8, 9] rfl), ((((hF.nil.keep hF (t := 5) rfl).keep hF (t := 4) rfl).keep hF (t := 0) rfl).keepE hF (t := 6) rfl (congrArg vi (w64_id (by omega) (by omega)))), by dsimp only; omega⟩
     ·
      refine op_ld rfl rfl (gw0 rfl) rfl rfl rfl (fun a w_ hF hS => r_loadn ag29 (hF.ev rfl) (hS.box_rd (i := 5) rfl) sz29) <| todo_fork [(3, [4, 5, 6, 7, 8, 10, 11])] hl_ rfl (by kernel_rfl) (List.forall_mem_cons.2 ⟨?_, fun _ h_ => nomatch h_⟩)
      ·
       refine op_dw (m' := [10, 11]) (val := fun x : Int => vi x) (R := fun x => 0 ≤ x ∧ (x < 12 ∨ (12 ≤ 0 ∧ x = 0))) rfl rfl (gw0 rfl) rfl rfl rfl rfl (fun a w_ hF => r_call2 en83 (hF.ev rfl) ec) (fun M_ w_ hS => l1Below_c hbs (q := 8) _ hS rfl) ?_; intro x50 h50; try clear hSd; try clear wd; intro wd hSd
       refine tp 1 hl_ rfl ?_
       refine todo_mk hl_ rfl (by kernel_rfl) rfl rfl rfl rfl rfl (fun a w_ hF => r_call3 en160 (hF.ev rfl) (hF.ev rfl) (hF.ev rfl)) (fun w_ hS => specStepMany_c (hS.part_k (i := 1) rfl) (by first | exact good_start hgx (ok_opwf h41) | exact hgx) (by unfold int64; omega)) ?_; rintro ⟨⟨x52, vs52, k52⟩, hg52⟩
       refine tp 3 hl_ rfl ?_
       refine todo_fin hl_ rfl (by kernel_rfl) (tl := [_, _]) rfl ?_; intro a w24 hF hA_
       obtain ⟨g4, hS, he_0⟩ := hA_.open1; clear hA_
       replace hF := hF.more he_0; clear he_0
       clear hl_; try clear hSd
       try dsimp only [List.cons_append, List.nil_append, List.set] at hS
       try clear wd
       refine ww 0 hF hS rfl rfl rfl rfl rfl rfl fun w25 hS => ga 1 hF rfl fun a hF => wl_nil ⟨rfl, ?_⟩
       refine hK13 _ _ <| wp_region_lit <| gb 1 0 hF hS rfl rfl rfl fun a hF => ww 7 hF hS rfl rfl rfl rfl rfl rfl fun w26 hS => wl_nil ?_
       refine xt ?_
       refine hK7 _ _ <| rl hF rfl fun a hF => ?_
       refine xt ?_
       refine ⟨(n - 1, _, _), ⟨hg52, by dsimp only; omega⟩, (hS.pm 10 [7, 1, 8, 9] rfl), ((((hF.nil.keep hF (t := 5) rfl).keep hF (t := 4) rfl).keep hF (t := 0) rfl).keepE hF (t := 6) rfl (congrArg vi (w64_id (by omega) (by omega)))), by dsimp only; omega⟩
  refine wp_skip <| hK9 _ _ <| wp_seq_k fun K14 hK14 => ?_
  refine wp_region_todo (is := [1, 2, 3, 0, 4, 5, 6, 7, 8, 10, 11]) [(9, 10, [.int .i64 0, .int .i64 0, .int .i64 0, .int .i64 0, .int .i64 0, .int .i64 0, .slice none 0 0, .slice none 0 0, .slice none 0 0, .int .i64 0, .int .i64 0, .int .i64 0, .int .i64 0])] [3, 10, 11] (by kernel_rfl) hF hS ⟨⟨⟨_, _, _, rfl, zr29⟩, trivial⟩, by decide, by decide, by decide⟩ (by kernel_rfl) ?_; intro hl_ wd hSd
  refine tp 2 hl_ rfl <| todo_fork [(3, [0, 4, 5, 6, 7, 8, 10, 11]), (0, [3, 4, 5, 6, 7, 8, 10, 11])] hl_ rfl (by kernel_rfl) (List.forall_mem_cons.2 ⟨?_, List.forall_mem_cons.2 ⟨?_, fun _ h_ => nomatch h_⟩⟩)
  ·
   refine op_dw (m' := [10, 11]) (val := fun x : Int => vi x) (R := fun x => 0 ≤ x ∧ (x < 12 ∨ (12 ≤ 0 ∧ x = 0))) rfl rfl (gw0 rfl) rfl rfl rfl rfl (fun a w_ hF => r_call2 en83 (hF.ev rfl) ec) (fun M_ w_ hS => l1Below_c hbs (q := 6) _ hS rfl) ?_; intro x50 h50; try clear hSd; try clear wd; intro wd hSd
   refine todo_load [5, 6, 7, 8, 10, 11] hl_ (by kernel_rfl) rfl (gw0 rfl) rfl rfl rfl (fun a w_ hF hB_ => r_loadn ag29 (hF.ev rfl) ((hSd.ext hB_).box_rd (i := 3) rfl) sz29) <| tp 1 hl_ rfl ?_
   refine todo_mk hl_ rfl (by kernel_rfl) rfl rfl rfl rfl rfl (fun a w_ hF => r_call3 en160 (hF.ev rfl) (hF.ev rfl) (hF.ev rfl)) (fun w_ hS => specStepMany_c (stateK_of (hS.own_rd (i := 0) rfl) (hS.own_rd (i := 1) rfl) (hS.own_rd (i := 2) rfl)) (by first | exact good_start hgx (ok_opwf h41) | exact hgx) (by unfold int64; omega)) ?_; rintro ⟨⟨x52, vs52, k52⟩, hg52⟩
   refine tp 3 hl_ rfl ?_
   refine todo_fin hl_ rfl (by kernel_rfl) (tl := [_, _]) rfl ?_; intro a w27 hF hA_
   obtain ⟨g5, hS, he_0⟩ := hA_.open1; clear hA_
   replace hF := hF.more he_0; clear he_0
   clear hl_; try clear hSd
   try dsimp only [List.cons_append, List.nil_append, List.set] at hS
   try clear wd
   refine ww 0 hF hS rfl rfl rfl rfl rfl rfl fun w28 hS => ga 1 hF rfl fun a hF => wl_nil ⟨rfl, ?_⟩
   refine hK14 _ _ <| wp_region_lit <| gb 1 0 hF hS rfl rfl rfl fun a hF => ww 5 hF hS rfl rfl rfl rfl rfl rfl fun w29 hS => wl_nil ?_
   refine xt ?_
   refine hK7 _ _ <| rl hF rfl fun a hF => ?_
   refine xt ?_
   refine ⟨(n - 1, _, _), ⟨hg52, by dsimp only; omega⟩, (hS.pm 8 [5, 1, 6, 7] rfl), ((((hF.nil.keep hF (t := 5) rfl).keep hF (t := 4) rfl).keep hF (t := 0) rfl).keepE hF (t := 6) rfl (congrArg vi (w64_id (by omega) (by omega)))), by dsimp only; omega⟩
  ·
   refine op_ld rfl rfl (gw0 rfl) rfl rfl rfl (fun a w_ hF hS => r_loadn ag29 (hF.ev rfl) (hS.box_rd (i := 3) rfl) sz29) <| todo_fork [(3, [4, 5, 6, 7, 8, 10, 11])] hl_ rfl (by kernel_rfl) (List.forall_mem_cons.2 ⟨?_, fun _ h_ => nomatch h_⟩)
   ·
    refine op_dw (m' := [10, 11]) (val := fun x : Int => vi x) (R := fun x => 0 ≤ x ∧ (x < 12 ∨ (12 ≤ 0 ∧ x = 0))) rfl rfl (gw0 rfl) rfl rfl rfl rfl (fun a w_ hF => r_call2 en83 (hF.ev rfl) ec) (fun M_ w_ hS => l1Below_c hbs (q := 6) _ hS rfl) ?_; intro x50 h50; try clear hSd; try clear wd; intro wd hSd
    refine tp 1 hl_ rfl ?_
    refine todo_mk hl_ rfl (by kernel_rfl) rfl rfl rfl rfl rfl (fun a w_ hF => r_call3 en160 (hF.ev rfl) (hF.ev rfl) (hF.ev rfl)) (fun w_ hS => specStepMany_c (stateK_of (hS.own_rd (i := 0) rfl) (hS.own_rd (i := 1) rfl) (hS.own_rd (i := 2) rfl)) (by first | exact good_start hgx (ok_opwf h41) | exact hgx) (by unfold int64; omega)) ?_; rintro ⟨⟨x52, vs52, k52⟩, hg52⟩
    refine tp 3 hl_ rfl ?_
    refine todo_fin hl_ rfl (by kernel_rfl) (tl := [_, _]) rfl ?_; intro a w30 hF hA_
    obtain ⟨g5, hS, he_0⟩ := hA_.open1; clear hA_
    replace hF := hF.more he_0; clear he_0
    clear hl_; try clear hSd
    try dsimp only [List.cons_append, List.nil_append, List.set] at hS
    try clear wd
    refine ww 0 hF hS rfl rfl rfl rfl rfl rfl fun w31 hS => ga 1 hF rfl fun a hF => wl_nil ⟨rfl, ?_⟩
    refine hK14 _ _ <| wp_region_lit <| gb 1 0 hF hS rfl rfl rfl fun a hF => ww 5 hF hS rfl rfl rfl rfl rfl rfl fun w32 hS => wl_nil ?_
    refine xt ?_
    refine hK7 _ _ <| rl hF rfl fun a hF => ?_
    refine xt ?_
    refine ⟨(n - 1, _, _), ⟨hg52, by dsimp only; omega⟩, (hS.pm 8 [5, 1, 6, 7] rfl), ((((hF.nil.keep hF (t := 5) rfl).keep hF (t := 4) rfl).keep hF (t := 0) rfl).keepE hF (t := 6) rfl (congrArg vi (w64_id (by omega) (by omega)))), by dsimp only; omega⟩
 refine wp_exit ?_
 refine xt ?_
 refine hK3 _ _ <| ws fun K15 hK15 => gb 1 0 hF hS rfl rfl rfl fun a hF => ww 2 hF hS rfl rfl rfl rfl rfl rfl fun w33 hS => wl_nil (hK15 _ _ ?_)
 refine xr ?_
 exact ret1c rfl ag29 hF hS (i := 2) rfl sz29 rfl ⟨(x, vs), ⟨rfl, hgx⟩, (hS.pm 4 [1, 3] rfl)⟩
set_option maxRecDepth 20000
/-- a state that is drawn -/
structure Drawn (s : Sl.State) : Prop where
  wf : s.wf
  sz : s.size ≤ 2300
  p31 : ∀ t ∈ s.threads, t.pc = 31 → (0 ≤ t.seen ∧ t.seen < s.config.capacity) ∨ ¬ at0 s.cells 1 = t.seen
section
variable {s : Sl.State} {i : Nat} {v : Int} {t : Sl.Thread} {c : Config}
theorem set_wf {xs : List Int} (h : ∀ x ∈ xs, int64 x) (hv : int64 v) : ∀ x ∈ xs.set i v, int64 x := fun x hx => (List.mem_or_eq_of_mem_set hx).elim (h x) (fun e => e ▸ hv)
theorem Good.drawn (h : Good s) : Drawn s := ⟨h.wf, by have := h.sz; omega, fun t ht h0 => .inl (h.p31 t ht h0)⟩
theorem Good.cells (h : Good s) (hv : int64 v) : Drawn { s with cells := s.cells.set i v } :=
  ⟨⟨h.wf.1, set_wf h.wf.2.1 hv, h.wf.2.2⟩, by have := h.sz; unfold Sl.State.size at *; simp only [List.length_set]; omega, fun t ht h0 => .inl (h.p31 t ht h0)⟩
theorem Good.gens (h : Good s) (hv : int64 v) : Drawn { s with generations := s.generations.set i v } :=
  ⟨⟨h.wf.1, h.wf.2.1, set_wf h.wf.2.2.1 hv, h.wf.2.2.2⟩, by have := h.sz; unfold Sl.State.size at *; simp only [List.length_set]; omega, fun t ht h0 => .inl (h.p31 t ht h0)⟩
theorem Good.fewer (h : Good s) : Drawn { s with cells := s.cells.drop 1 } :=
  ⟨⟨h.wf.1, (fun x hx => h.wf.2.1 x (List.mem_of_mem_drop hx)), h.wf.2.2⟩, by have := h.sz; unfold Sl.State.size at *; simp only [List.length_drop]; omega, fun t ht h0 => .inl (h.p31 t ht h0)⟩
theorem Good.faults (h : Good s) (hv : int64 v) : Drawn { s with faults := v } :=
  ⟨⟨h.wf.1, h.wf.2.1, h.wf.2.2.1, h.wf.2.2.2.1, h.wf.2.2.2.2.1, h.wf.2.2.2.2.2.1, h.wf.2.2.2.2.2.2.1, hv⟩, by have := h.sz; unfold Sl.State.size at *; dsimp only; omega, fun t ht h0 => .inl (h.p31 t ht h0)⟩
theorem new_cell {c : Config} (h : c.ok) : at0 (newState c).cells 1 = 0 := by
 have hb := h; unfold Config.ok at hb
 have hcc := cellCount_eq h
 rw [new_eq h]
 show at0 (newCells c) 1 = 0
 unfold newCells at0; rw [if_pos h, show (1 : Int).toNat = 1 from rfl, List.getElem?_set_ne (by decide), List.getElem?_replicate]
 rw [if_pos (by omega)]; rfl
theorem new_thread (hc : c.ok) (hw : t.wf) (hz : t.size ≤ 60) (hs : 0 ≤ t.seen) : Drawn { newState c with threads := (newState c).threads.set 0 t } := by
 have h := good_new hc
 have hb := hc; unfold Config.ok at hb
 obtain ⟨_, _, _, ht⟩ := h.sh
 rw [show (newState c).config = c from by rw [new_eq hc]] at ht
 have hx : (newState c).threads[0]? = some (at0 (newState c).threads ((0 : Nat) : Int)) := at0_nat (by omega)
 have h4 := crow_set_le (c := Sl.Thread.size) (x := t) (k := 60) hx (by omega)
 have h5 := newState_size (c := c)
 refine ⟨⟨h.wf.1, h.wf.2.1, h.wf.2.2.1, fun x hx => (List.mem_or_eq_of_mem_set hx).elim (h.wf.2.2.2.1 x) (fun e => e ▸ hw), h.wf.2.2.2.2⟩, ?_, ?_⟩
 · unfold Sl.State.size at *; simp only [List.length_set]; omega
 · intro x hx h0
   rcases List.mem_or_eq_of_mem_set hx with hm | rfl
   · exact .inl (h.p31 x hm h0)
   · dsimp only
     rw [new_cell hc, show (newState c).config = c from by rw [new_eq hc]]
     omega
end
theorem new_threadX {x : Sl.State} {c : Config} {t : Sl.Thread} (hx : x = newState c) (hc : c.ok) (hw : t.wf) (hz : t.size ≤ 60) (hs : 0 ≤ t.seen) : Drawn { x with threads := x.threads.set 0 t } := by
 subst hx; exact new_thread hc hw hz hs
theorem calls_sub {α : Type} {P : Program} {f : FuncId} {args : Array Value} {w W : World} {R : α → Prop} {val : α → Value} {l2 : α → List Res} (h : Calls P f args w (Ret fun v w' => ∃ z : α, (v = val z ∧ R z) ∧ Sep W (l2 z) w')) : Calls P f args w (Ret fun v w' => ∃ γ : {z : α // R z}, v = val γ.1 ∧ Sep W (l2 γ.1) w') := by
 refine h.mono ?_
 rintro e w' ⟨v, rfl, z, ⟨rfl, hR⟩, hS⟩
 exact ⟨_, rfl, ⟨z, hR⟩, rfl, hS⟩
theorem l9State_h {W : World} {g : Nat} {vb : Value} {bs : List Int} (hbs : byteEK.Rd W vb bs) {l : List Res} {w : World} (hS : Sep W (Cur g vb bs.length :: l) w) : Calls Tryz.prog 144 #[.pointer (some ⟨g, 0, none⟩)] w (Ret fun v w' => ∃ z : Sl.State × List Slv, (v = .agg (stateEK.cells z.1 z.2).toArray ∧ Drawn z.1) ∧ Sep W (Part stateEK z.1 z.2 :: Cur g vb bs.length :: l) w') := by
 refine cfr Tryz.func144 Tryz.ntmps144 fun a hF => ?_
 refine ws fun K1 hK1 => wl_alloc hF hS rfl zr29 fun g1 w1 a hS _ hF => wl_nil <| hK1 _ _ <| ws fun K2 hK2 => ga 1 hF rfl fun a hF => ?_
 refine ck hF rfl (l3Config_c hbs (q := 1) hS rfl) ?_; rintro v w2 a ⟨⟨c5, rfl, h5⟩, hS⟩ hF
 refine wl_mk hF hS rfl rfl rfl (r_call1 en158 (hF.ev rfl)) (specNewState_c _) ?_; rintro vs6 w3 a hS_ hF; replace hS := hS_; clear hS_; dsimp only [List.cons_append, List.nil_append] at hS
 refine wl_alloc hF hS rfl zr29 fun g2 w4 a hS _ hF => ww 0 hF hS rfl rfl rfl rfl rfl rfl fun w5 hS => wl_nil <| hK2 _ _ <| wp_seq_k fun K3 hK3 => ws fun K4 hK4 => ga 1 hF rfl fun a hF => ?_
 refine ck hF rfl (l1Below_c hbs (q := 3) _ hS rfl) ?_; rintro v w6 a ⟨⟨x8, rfl, h8⟩, hS⟩ hF
 refine wl_nil <| hK4 _ _ <| wp_block <| rg hF rfl fun a hF => cx 9 hF rfl (fun c9 hF => ?_) fun c9 hF => ?_
 ·
  obtain ⟨x, hx_⟩ : ∃ x, x = newState c5 := ⟨_, rfl⟩
  rw [← hx_] at hS
  try rw [← hx_] at hF
  have hgx : Good x := hx_ ▸ good_new h5
  obtain ⟨ho_, hc_, hgl_, ht_⟩ := hgx.sh
  have hb_ := ho_; unfold Config.ok at hb_
  have hz_ := hgx.sz
  have hcc_ := cellCount_eq ho_
  replace hS := hS.pull (p := 1) rfl; dsimp only [List.eraseIdx] at hS
  replace hS : Sep W (Own intEK (sv (vs6.getD 0 (none, 0, 0))) (x).cells :: Own intEK (sv (vs6.getD 1 (none, 0, 0))) (x).generations :: Own threadEK (sv (vs6.getD 2 (none, 0, 0))) (x).threads :: _) _ := hS.part_open
  dsimp only [stateEK] at hS
  generalize vs6.getD 0 (none, 0, 0) = z0 at hS
  generalize vs6.getD 1 (none, 0, 0) = z1 at hS
  generalize vs6.getD 2 (none, 0, 0) = z2 at hS
  have hcap_ : (x).cells.length ≤ z0.2.2 := by
    obtain ⟨A_, c_, e_, h1_, _⟩ := (hS.own_rd (i := 0) rfl).sl
    have e2_ : z0.2.2 = c_ := by injection e_
    rw [e2_]; exact h1_
  have hl0_ := hS.own_len (q := 0) rfl
  have hl1_ := hS.own_len (q := 1) rfl
  have hl2_ := hS.own_len (q := 2) rfl
  refine wp_region_todo (is := [0, 2, 3, 4, 5, 7, 6, 8, 9, 1, 10, 11]) [] [6, 9, 11] (by kernel_rfl) hF hS ⟨trivial, by decide, by decide, by decide⟩ (by kernel_rfl) ?_; intro hl_ wd hSd
  refine tp 3 hl_ rfl <| todo_load [5, 6, 9, 10, 11] hl_ (by kernel_rfl) rfl (gw0 rfl) rfl rfl rfl (fun a w_ hF hB_ => r_load1 sc26 (hF.ev rfl) ((hSd.ext hB_).box (i := 3) rfl rfl)) <| tp 2 hl_ rfl <| todo_fork [(6, [8, 9, 1, 10, 11]), (8, [6, 9, 1, 10, 11]), (1, [6, 8, 9, 10, 11])] hl_ rfl (by kernel_rfl) (List.forall_mem_cons.2 ⟨?_, List.forall_mem_cons.2 ⟨?_, List.forall_mem_cons.2 ⟨?_, fun _ h_ => nomatch h_⟩⟩⟩)
  ·
   refine op_dw (m' := [9, 11]) (val := fun x : Int => vi x) (R := fun x => 0 ≤ x ∧ (x < (z0.2.1 : Int) ∨ ((z0.2.1 : Int) ≤ 0 ∧ x = 0))) rfl rfl (gw0 rfl) rfl rfl rfl rfl (fun a w_ hF => r_call2 en83 (hF.ev rfl) (hF.ev rfl)) (fun M_ w_ hS => l1Below_c hbs (q := 6) _ hS rfl) ?_; intro x17 h17; try clear hSd; try clear wd; intro wd hSd
   refine todo_fork [(8, [9, 1, 10, 11]), (1, [8, 9, 10, 11])] hl_ rfl (by kernel_rfl) (List.forall_mem_cons.2 ⟨?_, List.forall_mem_cons.2 ⟨?_, fun _ h_ => nomatch h_⟩⟩)
   ·
    refine op_op rfl rfl (gw0 rfl) rfl rfl rfl (fun a w_ hF hS => r_bslice intEK [vi (-1), vi 0, vi 1, vi 2, vi 3, vi 130, vi 131] [-1, 0, 1, 2, 3, 130, 131] rfl mk26 rfl ⟨rfl, ec, rfl, ec, rfl, ec, rfl, ec, rfl, ec, rfl, ec, rfl, ec, trivial⟩ rfl rfl rfl rfl) ?_; intro gl_19
    refine todo_fork [(9, [1, 10, 11]), (1, [9, 10, 11])] hl_ rfl (by kernel_rfl) (List.forall_mem_cons.2 ⟨?_, List.forall_mem_cons.2 ⟨?_, fun _ h_ => nomatch h_⟩⟩)
    ·
     refine op_dw (m' := [11]) (val := fun x : Int => vi x) (R := fun x => x ∈ ([-1, 0, 1, 2, 3, 130, 131] : List Int)) rfl rfl (gw0 rfl) rfl rfl rfl rfl (fun a w_ hF => r_call2 en85 (hF.ev rfl) (hF.ev rfl)) (fun M_ w_ hS => l1PickInt_c hbs (q := 7) (fun w_ hS => (hS.own_rd (i := 1) rfl)) (by decide) hS rfl) ?_; intro x20 h20; try clear hSd; try clear wd; intro wd hSd
     refine todo_load [10, 11] hl_ (by kernel_rfl) rfl (gw0 rfl) rfl rfl rfl (fun a w_ hF hB_ => r_load1 sc26 (hF.ev rfl) ((hSd.ext hB_).box (i := 4) rfl rfl)) ?_
     obtain ⟨g21, o21, m21, q21, hv21, hm21, hl21, hc21⟩ := Rd.idxF ((hSd.own_rd (i := 1) rfl)) (at0_get (i := x17) (by omega) (by omega))
     refine todo_pure hl_ (by kernel_rfl) rfl (gw0 rfl) rfl rfl rfl (fun a w_ hF => r_index sl26 ((hF.ev rfl).trans hv21) (hF.ev rfl) (by omega) (by first | omega | (simp at hm21; omega))) ?_
     refine todo_fin hl_ rfl (by kernel_rfl) (tl := [_]) rfl ?_; intro a w8 hF hA_
     have hS := hA_.sep; clear hA_
     clear hl_; try clear hSd
     try dsimp only [List.cons_append, List.nil_append, List.set] at hS
     try clear wd
     refine wl_istore (q := 1) hF hS rfl hv21 (by omega) (by omega) sz3 (hF.ev rfl) rfl (hF.ev rfl) fun w9 hS => ?_; dsimp only [List.set] at hS
     refine wl_nil ⟨rfl, ?_⟩
     refine xt ?_
     refine hK3 _ _ <| ws fun K6 hK6 => gb 1 4 hF hS rfl rfl rfl fun a hF => ww 5 hF hS rfl rfl rfl rfl rfl rfl fun w10 hS => wl_nil (hK6 _ _ ?_)
     refine xr ?_
     simp only [List.mem_cons, List.not_mem_nil, or_false] at h20
     exact ret1c rfl ag29 hF hS (i := 5) rfl sz29 rfl ⟨({ x with cells := x.cells.set x17.toNat x20 }, [z0, z1, z2]), ⟨rfl, hgx.cells (by unfold int64; omega)⟩, Sep.part_mk (ek := stateEK) (x := { x with cells := x.cells.set x17.toNat x20 }) (vs := [z0, z1, z2]) (hS.pm 7 [1, 2, 3, 6] rfl) rfl⟩
    ·
     refine op_ld rfl rfl (gw0 rfl) rfl rfl rfl (fun a w_ hF hS => r_load1 sc26 (hF.ev rfl) (hS.box (i := 4) rfl rfl)) <| todo_fork [(9, [10, 11])] hl_ rfl (by kernel_rfl) (List.forall_mem_cons.2 ⟨?_, fun _ h_ => nomatch h_⟩)
     ·
      refine op_dw (m' := [11]) (val := fun x : Int => vi x) (R := fun x => x ∈ ([-1, 0, 1, 2, 3, 130, 131] : List Int)) rfl rfl (gw0 rfl) rfl rfl rfl rfl (fun a w_ hF => r_call2 en85 (hF.ev rfl) (hF.ev rfl)) (fun M_ w_ hS => l1PickInt_c hbs (q := 7) (fun w_ hS => (hS.own_rd (i := 1) rfl)) (by decide) hS rfl) ?_; intro x20 h20; try clear hSd; try clear wd; intro wd hSd
      obtain ⟨g21, o21, m21, q21, hv21, hm21, hl21, hc21⟩ := Rd.idxF ((hSd.own_rd (i := 1) rfl)) (at0_get (i := x17) (by omega) (by omega))
      refine todo_pure hl_ (by kernel_rfl) rfl (gw0 rfl) rfl rfl rfl (fun a w_ hF => r_index sl26 ((hF.ev rfl).trans hv21) (hF.ev rfl) (by omega) (by first | omega | (simp at hm21; omega))) ?_
      refine todo_fin hl_ rfl (by kernel_rfl) (tl := [_]) rfl ?_; intro a w11 hF hA_
      have hS := hA_.sep; clear hA_
      clear hl_; try clear hSd
      try dsimp only [List.cons_append, List.nil_append, List.set] at hS
      try clear wd
      refine wl_istore (q := 1) hF hS rfl hv21 (by omega) (by omega) sz3 (hF.ev rfl) rfl (hF.ev rfl) fun w12 hS => ?_; dsimp only [List.set] at hS
      refine wl_nil ⟨rfl, ?_⟩
      refine xt ?_
      refine hK3 _ _ <| ws fun K7 hK7 => gb 1 4 hF hS rfl rfl rfl fun a hF => ww 5 hF hS rfl rfl rfl rfl rfl rfl fun w13 hS => wl_nil (hK7 _ _ ?_)
      refine xr ?_
      simp only [List.mem_cons, List.not_mem_nil, or_false] at h20
      exact ret1c rfl ag29 hF hS (i := 5) rfl sz29 rfl ⟨({ x with cells := x.cells.set x17.toNat x20 }, [z0, z1, z2]), ⟨rfl, hgx.cells (by unfold int64; omega)⟩, Sep.part_mk (ek := stateEK) (x := { x with cells := x.cells.set x17.toNat x20 }) (vs := [z0, z1, z2]) (hS.pm 7 [1, 2, 3, 6] rfl) rfl⟩
   ·
    refine op_ld rfl rfl (gw0 rfl) rfl rfl rfl (fun a w_ hF hS => r_load1 sc26 (hF.ev rfl) (hS.box (i := 3) rfl rfl)) ?_
    refine todo_op hl_ rfl (by kernel_rfl) rfl rfl rfl rfl rfl (fun a w_ hF hS => r_bslice intEK [vi (-1), vi 0, vi 1, vi 2, vi 3, vi 130, vi 131] [-1, 0, 1, 2, 3, 130, 131] rfl mk26 rfl ⟨rfl, ec, rfl, ec, rfl, ec, rfl, ec, rfl, ec, rfl, ec, rfl, ec, trivial⟩ rfl rfl rfl rfl) ?_; intro gl_19
    refine todo_fork [(9, [10, 11])] hl_ rfl (by kernel_rfl) (List.forall_mem_cons.2 ⟨?_, fun _ h_ => nomatch h_⟩)
    ·
     refine op_dw (m' := [11]) (val := fun x : Int => vi x) (R := fun x => x ∈ ([-1, 0, 1, 2, 3, 130, 131] : List Int)) rfl rfl (gw0 rfl) rfl rfl rfl rfl (fun a w_ hF => r_call2 en85 (hF.ev rfl) (hF.ev rfl)) (fun M_ w_ hS => l1PickInt_c hbs (q := 7) (fun w_ hS => (hS.own_rd (i := 1) rfl)) (by decide) hS rfl) ?_; intro x20 h20; try clear hSd; try clear wd; intro wd hSd
     obtain ⟨g21, o21, m21, q21, hv21, hm21, hl21, hc21⟩ := Rd.idxF ((hSd.own_rd (i := 1) rfl)) (at0_get (i := x17) (by omega) (by omega))
     refine todo_pure hl_ (by kernel_rfl) rfl (gw0 rfl) rfl rfl rfl (fun a w_ hF => r_index sl26 ((hF.ev rfl).trans hv21) (hF.ev rfl) (by omega) (by first | omega | (simp at hm21; omega))) ?_
     refine todo_fin hl_ rfl (by kernel_rfl) (tl := [_]) rfl ?_; intro a w15 hF hA_
     have hS := hA_.sep; clear hA_
     clear hl_; try clear hSd
     try dsimp only [List.cons_append, List.nil_append, List.set] at hS
     try clear wd
     refine wl_istore (q := 1) hF hS rfl hv21 (by omega) (by omega) sz3 (hF.ev rfl) rfl (hF.ev rfl) fun w16 hS => ?_; dsimp only [List.set] at hS
     refine wl_nil ⟨rfl, ?_⟩
     refine xt ?_
     refine hK3 _ _ <| ws fun K8 hK8 => gb 1 4 hF hS rfl rfl rfl fun a hF => ww 5 hF hS rfl rfl rfl rfl rfl rfl fun w17 hS => wl_nil (hK8 _ _ ?_)
     refine xr ?_
     simp only [List.mem_cons, List.not_mem_nil, or_false] at h20
     exact ret1c rfl ag29 hF hS (i := 5) rfl sz29 rfl ⟨({ x with cells := x.cells.set x17.toNat x20 }, [z0, z1, z2]), ⟨rfl, hgx.cells (by unfold int64; omega)⟩, Sep.part_mk (ek := stateEK) (x := { x with cells := x.cells.set x17.toNat x20 }) (vs := [z0, z1, z2]) (hS.pm 7 [1, 2, 3, 6] rfl) rfl⟩
  ·
   refine op_op rfl rfl (gw0 rfl) rfl rfl rfl (fun a w_ hF hS => r_bslice intEK [vi (-1), vi 0, vi 1, vi 2, vi 3, vi 130, vi 131] [-1, 0, 1, 2, 3, 130, 131] rfl mk26 rfl ⟨rfl, ec, rfl, ec, rfl, ec, rfl, ec, rfl, ec, rfl, ec, rfl, ec, trivial⟩ rfl rfl rfl rfl) ?_; intro gl_19
   refine todo_fork [(6, [9, 1, 10, 11]), (1, [6, 9, 10, 11])] hl_ rfl (by kernel_rfl) (List.forall_mem_cons.2 ⟨?_, List.forall_mem_cons.2 ⟨?_, fun _ h_ => nomatch h_⟩⟩)
   ·
    refine op_dw (m' := [9, 11]) (val := fun x : Int => vi x) (R := fun x => 0 ≤ x ∧ (x < (z0.2.1 : Int) ∨ ((z0.2.1 : Int) ≤ 0 ∧ x = 0))) rfl rfl (gw0 rfl) rfl rfl rfl rfl (fun a w_ hF => r_call2 en83 (hF.ev rfl) (hF.ev rfl)) (fun M_ w_ hS => l1Below_c hbs (q := 7) _ hS rfl) ?_; intro x17 h17; try clear hSd; try clear wd; intro wd hSd
    refine todo_fork [(9, [1, 10, 11]), (1, [9, 10, 11])] hl_ rfl (by kernel_rfl) (List.forall_mem_cons.2 ⟨?_, List.forall_mem_cons.2 ⟨?_, fun _ h_ => nomatch h_⟩⟩)
    ·
     refine op_dw (m' := [11]) (val := fun x : Int => vi x) (R := fun x => x ∈ ([-1, 0, 1, 2, 3, 130, 131] : List Int)) rfl rfl (gw0 rfl) rfl rfl rfl rfl (fun a w_ hF => r_call2 en85 (hF.ev rfl) (hF.ev rfl)) (fun M_ w_ hS => l1PickInt_c hbs (q := 7) (fun w_ hS => (hS.own_rd (i := 1) rfl)) (by decide) hS rfl) ?_; intro x20 h20; try clear hSd; try clear wd; intro wd hSd
     refine todo_load [10, 11] hl_ (by kernel_rfl) rfl (gw0 rfl) rfl rfl rfl (fun a w_ hF hB_ => r_load1 sc26 (hF.ev rfl) ((hSd.ext hB_).box (i := 4) rfl rfl)) ?_
     obtain ⟨g21, o21, m21, q21, hv21, hm21, hl21, hc21⟩ := Rd.idxF ((hSd.own_rd (i := 1) rfl)) (at0_get (i := x17) (by omega) (by omega))
     refine todo_pure hl_ (by kernel_rfl) rfl (gw0 rfl) rfl rfl rfl (fun a w_ hF => r_index sl26 ((hF.ev rfl).trans hv21) (hF.ev rfl) (by omega) (by first | omega | (simp at hm21; omega))) ?_
     refine todo_fin hl_ rfl (by kernel_rfl) (tl := [_]) rfl ?_; intro a w19 hF hA_
     have hS := hA_.sep; clear hA_
     clear hl_; try clear hSd
     try dsimp only [List.cons_append, List.nil_append, List.set] at hS
     try clear wd
     refine wl_istore (q := 1) hF hS rfl hv21 (by omega) (by omega) sz3 (hF.ev rfl) rfl (hF.ev rfl) fun w20 hS => ?_; dsimp only [List.set] at hS
     refine wl_nil ⟨rfl, ?_⟩
     refine xt ?_
     refine hK3 _ _ <| ws fun K9 hK9 => gb 1 4 hF hS rfl rfl rfl fun a hF => ww 5 hF hS rfl rfl rfl rfl rfl rfl fun w21 hS => wl_nil (hK9 _ _ ?_)
     refine xr ?_
     simp only [List.mem_cons, List.not_mem_nil, or_false] at h20
     exact ret1c rfl ag29 hF hS (i := 5) rfl sz29 rfl ⟨({ x with cells := x.cells.set x17.toNat x20 }, [z0, z1, z2]), ⟨rfl, hgx.cells (by unfold int64; omega)⟩, Sep.part_mk (ek := stateEK) (x := { x with cells := x.cells.set x17.toNat x20 }) (vs := [z0, z1, z2]) (hS.pm 7 [1, 2, 3, 6] rfl) rfl⟩
    ·
     refine op_ld rfl rfl (gw0 rfl) rfl rfl rfl (fun a w_ hF hS => r_load1 sc26 (hF.ev rfl) (hS.box (i := 4) rfl rfl)) <| todo_fork [(9, [10, 11])] hl_ rfl (by kernel_rfl) (List.forall_mem_cons.2 ⟨?_, fun _ h_ => nomatch h_⟩)
     ·
      refine op_dw (m' := [11]) (val := fun x : Int => vi x) (R := fun x => x ∈ ([-1, 0, 1, 2, 3, 130, 131] : List Int)) rfl rfl (gw0 rfl) rfl rfl rfl rfl (fun a w_ hF => r_call2 en85 (hF.ev rfl) (hF.ev rfl)) (fun M_ w_ hS => l1PickInt_c hbs (q := 7) (fun w_ hS => (hS.own_rd (i := 1) rfl)) (by decide) hS rfl) ?_; intro x20 h20; try clear hSd; try clear wd; intro wd hSd
      obtain ⟨g21, o21, m21, q21, hv21, hm21, hl21, hc21⟩ := Rd.idxF ((hSd.own_rd (i := 1) rfl)) (at0_get (i := x17) (by omega) (by omega))
      refine todo_pure hl_ (by kernel_rfl) rfl (gw0 rfl) rfl rfl rfl (fun a w_ hF => r_index sl26 ((hF.ev rfl).trans hv21) (hF.ev rfl) (by omega) (by first | omega | (simp at hm21; omega))) ?_
      refine todo_fin hl_ rfl (by kernel_rfl) (tl := [_]) rfl ?_; intro a w22 hF hA_
      have hS := hA_.sep; clear hA_
      clear hl_; try clear hSd
      try dsimp only [List.cons_append, List.nil_append, List.set] at hS
      try clear wd
      refine wl_istore (q := 1) hF hS rfl hv21 (by omega) (by omega) sz3 (hF.ev rfl) rfl (hF.ev rfl) fun w23 hS => ?_; dsimp only [List.set] at hS
      refine wl_nil ⟨rfl, ?_⟩
      refine xt ?_
      refine hK3 _ _ <| ws fun K10 hK10 => gb 1 4 hF hS rfl rfl rfl fun a hF => ww 5 hF hS rfl rfl rfl rfl rfl rfl fun w24 hS => wl_nil (hK10 _ _ ?_)
      refine xr ?_
      simp only [List.mem_cons, List.not_mem_nil, or_false] at h20
      exact ret1c rfl ag29 hF hS (i := 5) rfl sz29 rfl ⟨({ x with cells := x.cells.set x17.toNat x20 }, [z0, z1, z2]), ⟨rfl, hgx.cells (by unfold int64; omega)⟩, Sep.part_mk (ek := stateEK) (x := { x with cells := x.cells.set x17.toNat x20 }) (vs := [z0, z1, z2]) (hS.pm 7 [1, 2, 3, 6] rfl) rfl⟩
   ·
    refine op_ld rfl rfl (gw0 rfl) rfl rfl rfl (fun a w_ hF hS => r_load1 sc26 (hF.ev rfl) (hS.box (i := 4) rfl rfl)) <| todo_fork [(6, [9, 10, 11])] hl_ rfl (by kernel_rfl) (List.forall_mem_cons.2 ⟨?_, fun _ h_ => nomatch h_⟩)
    ·
     refine op_dw (m' := [9, 11]) (val := fun x : Int => vi x) (R := fun x => 0 ≤ x ∧ (x < (z0.2.1 : Int) ∨ ((z0.2.1 : Int) ≤ 0 ∧ x = 0))) rfl rfl (gw0 rfl) rfl rfl rfl rfl (fun a w_ hF => r_call2 en83 (hF.ev rfl) (hF.ev rfl)) (fun M_ w_ hS => l1Below_c hbs (q := 7) _ hS rfl) ?_; intro x17 h17; try clear hSd; try clear wd; intro wd hSd
     refine todo_fork [(9, [10, 11])] hl_ rfl (by kernel_rfl) (List.forall_mem_cons.2 ⟨?_, fun _ h_ => nomatch h_⟩)
     ·
      refine op_dw (m' := [11]) (val := fun x : Int => vi x) (R := fun x => x ∈ ([-1, 0, 1, 2, 3, 130, 131] : List Int)) rfl rfl (gw0 rfl) rfl rfl rfl rfl (fun a w_ hF => r_call2 en85 (hF.ev rfl) (hF.ev rfl)) (fun M_ w_ hS => l1PickInt_c hbs (q := 7) (fun w_ hS => (hS.own_rd (i := 1) rfl)) (by decide) hS rfl) ?_; intro x20 h20; try clear hSd; try clear wd; intro wd hSd
      obtain ⟨g21, o21, m21, q21, hv21, hm21, hl21, hc21⟩ := Rd.idxF ((hSd.own_rd (i := 1) rfl)) (at0_get (i := x17) (by omega) (by omega))
      refine todo_pure hl_ (by kernel_rfl) rfl (gw0 rfl) rfl rfl rfl (fun a w_ hF => r_index sl26 ((hF.ev rfl).trans hv21) (hF.ev rfl) (by omega) (by first | omega | (simp at hm21; omega))) ?_
      refine todo_fin hl_ rfl (by kernel_rfl) (tl := [_]) rfl ?_; intro a w25 hF hA_
      have hS := hA_.sep; clear hA_
      clear hl_; try clear hSd
      try dsimp only [List.cons_append, List.nil_append, List.set] at hS
      try clear wd
      refine wl_istore (q := 1) hF hS rfl hv21 (by omega) (by omega) sz3 (hF.ev rfl) rfl (hF.ev rfl) fun w26 hS => ?_; dsimp only [List.set] at hS
      refine wl_nil ⟨rfl, ?_⟩
      refine xt ?_
      refine hK3 _ _ <| ws fun K11 hK11 => gb 1 4 hF hS rfl rfl rfl fun a hF => ww 5 hF hS rfl rfl rfl rfl rfl rfl fun w27 hS => wl_nil (hK11 _ _ ?_)
      refine xr ?_
      simp only [List.mem_cons, List.not_mem_nil, or_false] at h20
      exact ret1c rfl ag29 hF hS (i := 5) rfl sz29 rfl ⟨({ x with cells := x.cells.set x17.toNat x20 }, [z0, z1, z2]), ⟨rfl, hgx.cells (by unfold int64; omega)⟩, Sep.part_mk (ek := stateEK) (x := { x with cells := x.cells.set x17.toNat x20 }) (vs := [z0, z1, z2]) (hS.pm 7 [1, 2, 3, 6] rfl) rfl⟩
  ·
   refine op_ld rfl rfl (gw0 rfl) rfl rfl rfl (fun a w_ hF hS => r_load1 sc26 (hF.ev rfl) (hS.box (i := 3) rfl rfl)) <| todo_fork [(6, [8, 9, 10, 11]), (8, [6, 9, 10, 11])] hl_ rfl (by kernel_rfl) (List.forall_mem_cons.2 ⟨?_, List.forall_mem_cons.2 ⟨?_, fun _ h_ => nomatch h_⟩⟩)
   ·
    refine op_dw (m' := [9, 11]) (val := fun x : Int => vi x) (R := fun x => 0 ≤ x ∧ (x < (z0.2.1 : Int) ∨ ((z0.2.1 : Int) ≤ 0 ∧ x = 0))) rfl rfl (gw0 rfl) rfl rfl rfl rfl (fun a w_ hF => r_call2 en83 (hF.ev rfl) (hF.ev rfl)) (fun M_ w_ hS => l1Below_c hbs (q := 6) _ hS rfl) ?_; intro x17 h17; try clear hSd; try clear wd; intro wd hSd
    refine todo_op hl_ rfl (by kernel_rfl) rfl rfl rfl rfl rfl (fun a w_ hF hS => r_bslice intEK [vi (-1), vi 0, vi 1, vi 2, vi 3, vi 130, vi 131] [-1, 0, 1, 2, 3, 130, 131] rfl mk26 rfl ⟨rfl, ec, rfl, ec, rfl, ec, rfl, ec, rfl, ec, rfl, ec, rfl, ec, trivial⟩ rfl rfl rfl rfl) ?_; intro gl_19
    refine todo_fork [(9, [10, 11])] hl_ rfl (by kernel_rfl) (List.forall_mem_cons.2 ⟨?_, fun _ h_ => nomatch h_⟩)
    ·
     refine op_dw (m' := [11]) (val := fun x : Int => vi x) (R := fun x => x ∈ ([-1, 0, 1, 2, 3, 130, 131] : List Int)) rfl rfl (gw0 rfl) rfl rfl rfl rfl (fun a w_ hF => r_call2 en85 (hF.ev rfl) (hF.ev rfl)) (fun M_ w_ hS => l1PickInt_c hbs (q := 7) (fun w_ hS => (hS.own_rd (i := 1) rfl)) (by decide) hS rfl) ?_; intro x20 h20; try clear hSd; try clear wd; intro wd hSd
     obtain ⟨g21, o21, m21, q21, hv21, hm21, hl21, hc21⟩ := Rd.idxF ((hSd.own_rd (i := 1) rfl)) (at0_get (i := x17) (by omega) (by omega))
     refine todo_pure hl_ (by kernel_rfl) rfl (gw0 rfl) rfl rfl rfl (fun a w_ hF => r_index sl26 ((hF.ev rfl).trans hv21) (hF.ev rfl) (by omega) (by first | omega | (simp at hm21; omega))) ?_
     refine todo_fin hl_ rfl (by kernel_rfl) (tl := [_]) rfl ?_; intro a w29 hF hA_
     have hS := hA_.sep; clear hA_
     clear hl_; try clear hSd
     try dsimp only [List.cons_append, List.nil_append, List.set] at hS
     try clear wd
     refine wl_istore (q := 1) hF hS rfl hv21 (by omega) (by omega) sz3 (hF.ev rfl) rfl (hF.ev rfl) fun w30 hS => ?_; dsimp only [List.set] at hS
     refine wl_nil ⟨rfl, ?_⟩
     refine xt ?_
     refine hK3 _ _ <| ws fun K12 hK12 => gb 1 4 hF hS rfl rfl rfl fun a hF => ww 5 hF hS rfl rfl rfl rfl rfl rfl fun w31 hS => wl_nil (hK12 _ _ ?_)
     refine xr ?_
     simp only [List.mem_cons, List.not_mem_nil, or_false] at h20
     exact ret1c rfl ag29 hF hS (i := 5) rfl sz29 rfl ⟨({ x with cells := x.cells.set x17.toNat x20 }, [z0, z1, z2]), ⟨rfl, hgx.cells (by unfold int64; omega)⟩, Sep.part_mk (ek := stateEK) (x := { x with cells := x.cells.set x17.toNat x20 }) (vs := [z0, z1, z2]) (hS.pm 7 [1, 2, 3, 6] rfl) rfl⟩
   ·
    refine op_op rfl rfl (gw0 rfl) rfl rfl rfl (fun a w_ hF hS => r_bslice intEK [vi (-1), vi 0, vi 1, vi 2, vi 3, vi 130, vi 131] [-1, 0, 1, 2, 3, 130, 131] rfl mk26 rfl ⟨rfl, ec, rfl, ec, rfl, ec, rfl, ec, rfl, ec, rfl, ec, rfl, ec, trivial⟩ rfl rfl rfl rfl) ?_; intro gl_19
    refine todo_fork [(6, [9, 10, 11])] hl_ rfl (by kernel_rfl) (List.forall_mem_cons.2 ⟨?_, fun _ h_ => nomatch h_⟩)
    ·
     refine op_dw (m' := [9, 11]) (val := fun x : Int => vi x) (R := fun x => 0 ≤ x ∧ (x < (z0.2.1 : Int) ∨ ((z0.2.1 : Int) ≤ 0 ∧ x = 0))) rfl rfl (gw0 rfl) rfl rfl rfl rfl (fun a w_ hF => r_call2 en83 (hF.ev rfl) (hF.ev rfl)) (fun M_ w_ hS => l1Below_c hbs (q := 7) _ hS rfl) ?_; intro x17 h17; try clear hSd; try clear wd; intro wd hSd
     refine todo_fork [(9, [10, 11])] hl_ rfl (by kernel_rfl) (List.forall_mem_cons.2 ⟨?_, fun _ h_ => nomatch h_⟩)
     ·
      refine op_dw (m' := [11]) (val := fun x : Int => vi x) (R := fun x => x ∈ ([-1, 0, 1, 2, 3, 130, 131] : List Int)) rfl rfl (gw0 rfl) rfl rfl rfl rfl (fun a w_ hF => r_call2 en85 (hF.ev rfl) (hF.ev rfl)) (fun M_ w_ hS => l1PickInt_c hbs (q := 7) (fun w_ hS => (hS.own_rd (i := 1) rfl)) (by decide) hS rfl) ?_; intro x20 h20; try clear hSd; try clear wd; intro wd hSd
      obtain ⟨g21, o21, m21, q21, hv21, hm21, hl21, hc21⟩ := Rd.idxF ((hSd.own_rd (i := 1) rfl)) (at0_get (i := x17) (by omega) (by omega))
      refine todo_pure hl_ (by kernel_rfl) rfl (gw0 rfl) rfl rfl rfl (fun a w_ hF => r_index sl26 ((hF.ev rfl).trans hv21) (hF.ev rfl) (by omega) (by first | omega | (simp at hm21; omega))) ?_
      refine todo_fin hl_ rfl (by kernel_rfl) (tl := [_]) rfl ?_; intro a w33 hF hA_
      have hS := hA_.sep; clear hA_
      clear hl_; try clear hSd
      try dsimp only [List.cons_append, List.nil_append, List.set] at hS
      try clear wd
      refine wl_istore (q := 1) hF hS rfl hv21 (by omega) (by omega) sz3 (hF.ev rfl) rfl (hF.ev rfl) fun w34 hS => ?_; dsimp only [List.set] at hS
      refine wl_nil ⟨rfl, ?_⟩
      refine xt ?_
      refine hK3 _ _ <| ws fun K13 hK13 => gb 1 4 hF hS rfl rfl rfl fun a hF => ww 5 hF hS rfl rfl rfl rfl rfl rfl fun w35 hS => wl_nil (hK13 _ _ ?_)
      refine xr ?_
      simp only [List.mem_cons, List.not_mem_nil, or_false] at h20
      exact ret1c rfl ag29 hF hS (i := 5) rfl sz29 rfl ⟨({ x with cells := x.cells.set x17.toNat x20 }, [z0, z1, z2]), ⟨rfl, hgx.cells (by unfold int64; omega)⟩, Sep.part_mk (ek := stateEK) (x := { x with cells := x.cells.set x17.toNat x20 }) (vs := [z0, z1, z2]) (hS.pm 7 [1, 2, 3, 6] rfl) rfl⟩
 obtain ⟨x, hx_⟩ : ∃ x, x = newState c5 := ⟨_, rfl⟩
 rw [← hx_] at hS
 try rw [← hx_] at hF
 have hgx : Good x := hx_ ▸ good_new h5
 obtain ⟨ho_, hc_, hgl_, ht_⟩ := hgx.sh
 have hb_ := ho_; unfold Config.ok at hb_
 have hz_ := hgx.sz
 have hcc_ := cellCount_eq ho_
 replace hS := hS.pull (p := 1) rfl; dsimp only [List.eraseIdx] at hS
 replace hS : Sep W (Own intEK (sv (vs6.getD 0 (none, 0, 0))) (x).cells :: Own intEK (sv (vs6.getD 1 (none, 0, 0))) (x).generations :: Own threadEK (sv (vs6.getD 2 (none, 0, 0))) (x).threads :: _) _ := hS.part_open
 dsimp only [stateEK] at hS
 generalize vs6.getD 0 (none, 0, 0) = z0 at hS
 generalize vs6.getD 1 (none, 0, 0) = z1 at hS
 generalize vs6.getD 2 (none, 0, 0) = z2 at hS
 have hcap_ : (x).cells.length ≤ z0.2.2 := by
   obtain ⟨A_, c_, e_, h1_, _⟩ := (hS.own_rd (i := 0) rfl).sl
   have e2_ : z0.2.2 = c_ := by injection e_
   rw [e2_]; exact h1_
 have hl0_ := hS.own_len (q := 0) rfl
 have hl1_ := hS.own_len (q := 1) rfl
 have hl2_ := hS.own_len (q := 2) rfl
 refine rg hF rfl fun a hF => cx 22 hF rfl (fun c22 hF => ?_) fun c22 hF => ?_
 ·
  refine wp_region_todo (is := [0, 2, 3, 4, 1, 5, 6]) [] [4, 6] (by kernel_rfl) hF hS ⟨trivial, by decide, by decide, by decide⟩ (by kernel_rfl) ?_; intro hl_ wd hSd
  refine tp 2 hl_ rfl <| todo_fork [(3, [4, 1, 5, 6]), (1, [3, 4, 5, 6])] hl_ rfl (by kernel_rfl) (List.forall_mem_cons.2 ⟨?_, List.forall_mem_cons.2 ⟨?_, fun _ h_ => nomatch h_⟩⟩)
  ·
   refine op_op rfl rfl (gw0 rfl) rfl rfl rfl (fun a w_ hF hS => r_bslice intEK [vi (-1), vi 1, vi 9998, vi 9999] [-1, 1, 9998, 9999] rfl mk26 rfl ⟨rfl, ec, rfl, ec, rfl, ec, rfl, ec, trivial⟩ rfl rfl rfl rfl) ?_; intro gl_27
   refine todo_fork [(4, [1, 5, 6]), (1, [4, 5, 6])] hl_ rfl (by kernel_rfl) (List.forall_mem_cons.2 ⟨?_, List.forall_mem_cons.2 ⟨?_, fun _ h_ => nomatch h_⟩⟩)
   ·
    refine op_dw (m' := [6]) (val := fun x : Int => vi x) (R := fun x => x ∈ ([-1, 1, 9998, 9999] : List Int)) rfl rfl (gw0 rfl) rfl rfl rfl rfl (fun a w_ hF => r_call2 en85 (hF.ev rfl) (hF.ev rfl)) (fun M_ w_ hS => l1PickInt_c hbs (q := 7) (fun w_ hS => (hS.own_rd (i := 1) rfl)) (by decide) hS rfl) ?_; intro x28 h28; try clear hSd; try clear wd; intro wd hSd
    refine todo_load [5, 6] hl_ (by kernel_rfl) rfl (gw0 rfl) rfl rfl rfl (fun a w_ hF hB_ => r_load1 sc26 (hF.ev rfl) ((hSd.ext hB_).box (i := 4) rfl rfl)) ?_
    obtain ⟨g29, o29, m29, q29, hv29, hm29, hl29, hc29⟩ := Rd.idxF ((hSd.own_rd (i := 2) rfl)) (at0_get (i := (0 : Int)) (by omega) (by omega))
    refine todo_pure hl_ (by kernel_rfl) rfl (gw0 rfl) rfl rfl rfl (fun a w_ hF => r_index sl26 ((hF.ev rfl).trans hv29) ec (by omega) (by first | omega | (simp at hm29; omega))) ?_
    refine todo_fin hl_ rfl (by kernel_rfl) (tl := [_]) rfl ?_; intro a w37 hF hA_
    have hS := hA_.sep; clear hA_
    clear hl_; try clear hSd
    try dsimp only [List.cons_append, List.nil_append, List.set] at hS
    try clear wd
    refine wl_istore (q := 2) hF hS rfl hv29 (by omega) (by omega) sz3 (hF.ev rfl) rfl (hF.ev rfl) fun w38 hS => ?_; dsimp only [List.set] at hS
    refine wl_nil ⟨rfl, ?_⟩
    refine xt ?_
    refine hK3 _ _ <| ws fun K15 hK15 => gb 1 4 hF hS rfl rfl rfl fun a hF => ww 5 hF hS rfl rfl rfl rfl rfl rfl fun w39 hS => wl_nil (hK15 _ _ ?_)
    refine xr ?_
    simp only [List.mem_cons, List.not_mem_nil, or_false] at h28
    exact ret1c rfl ag29 hF hS (i := 5) rfl sz29 rfl ⟨({ x with generations := x.generations.set 0 x28 }, [z0, z1, z2]), ⟨rfl, hgx.gens (by unfold int64; omega)⟩, Sep.part_mk (ek := stateEK) (x := { x with generations := x.generations.set 0 x28 }) (vs := [z0, z1, z2]) (hS.pm 7 [1, 2, 3, 6] rfl) rfl⟩
   ·
    refine op_ld rfl rfl (gw0 rfl) rfl rfl rfl (fun a w_ hF hS => r_load1 sc26 (hF.ev rfl) (hS.box (i := 4) rfl rfl)) <| todo_fork [(4, [5, 6])] hl_ rfl (by kernel_rfl) (List.forall_mem_cons.2 ⟨?_, fun _ h_ => nomatch h_⟩)
    ·
     refine op_dw (m' := [6]) (val := fun x : Int => vi x) (R := fun x => x ∈ ([-1, 1, 9998, 9999] : List Int)) rfl rfl (gw0 rfl) rfl rfl rfl rfl (fun a w_ hF => r_call2 en85 (hF.ev rfl) (hF.ev rfl)) (fun M_ w_ hS => l1PickInt_c hbs (q := 7) (fun w_ hS => (hS.own_rd (i := 1) rfl)) (by decide) hS rfl) ?_; intro x28 h28; try clear hSd; try clear wd; intro wd hSd
     obtain ⟨g29, o29, m29, q29, hv29, hm29, hl29, hc29⟩ := Rd.idxF ((hSd.own_rd (i := 2) rfl)) (at0_get (i := (0 : Int)) (by omega) (by omega))
     refine todo_pure hl_ (by kernel_rfl) rfl (gw0 rfl) rfl rfl rfl (fun a w_ hF => r_index sl26 ((hF.ev rfl).trans hv29) ec (by omega) (by first | omega | (simp at hm29; omega))) ?_
     refine todo_fin hl_ rfl (by kernel_rfl) (tl := [_]) rfl ?_; intro a w40 hF hA_
     have hS := hA_.sep; clear hA_
     clear hl_; try clear hSd
     try dsimp only [List.cons_append, List.nil_append, List.set] at hS
     try clear wd
     refine wl_istore (q := 2) hF hS rfl hv29 (by omega) (by omega) sz3 (hF.ev rfl) rfl (hF.ev rfl) fun w41 hS => ?_; dsimp only [List.set] at hS
     refine wl_nil ⟨rfl, ?_⟩
     refine xt ?_
     refine hK3 _ _ <| ws fun K16 hK16 => gb 1 4 hF hS rfl rfl rfl fun a hF => ww 5 hF hS rfl rfl rfl rfl rfl rfl fun w42 hS => wl_nil (hK16 _ _ ?_)
     refine xr ?_
     simp only [List.mem_cons, List.not_mem_nil, or_false] at h28
     exact ret1c rfl ag29 hF hS (i := 5) rfl sz29 rfl ⟨({ x with generations := x.generations.set 0 x28 }, [z0, z1, z2]), ⟨rfl, hgx.gens (by unfold int64; omega)⟩, Sep.part_mk (ek := stateEK) (x := { x with generations := x.generations.set 0 x28 }) (vs := [z0, z1, z2]) (hS.pm 7 [1, 2, 3, 6] rfl) rfl⟩
  ·
   refine op_ld rfl rfl (gw0 rfl) rfl rfl rfl (fun a w_ hF hS => r_load1 sc26 (hF.ev rfl) (hS.box (i := 3) rfl rfl)) ?_
   refine todo_op hl_ rfl (by kernel_rfl) rfl rfl rfl rfl rfl (fun a w_ hF hS => r_bslice intEK [vi (-1), vi 1, vi 9998, vi 9999] [-1, 1, 9998, 9999] rfl mk26 rfl ⟨rfl, ec, rfl, ec, rfl, ec, rfl, ec, trivial⟩ rfl rfl rfl rfl) ?_; intro gl_27
   refine todo_fork [(4, [5, 6])] hl_ rfl (by kernel_rfl) (List.forall_mem_cons.2 ⟨?_, fun _ h_ => nomatch h_⟩)
   ·
    refine op_dw (m' := [6]) (val := fun x : Int => vi x) (R := fun x => x ∈ ([-1, 1, 9998, 9999] : List Int)) rfl rfl (gw0 rfl) rfl rfl rfl rfl (fun a w_ hF => r_call2 en85 (hF.ev rfl) (hF.ev rfl)) (fun M_ w_ hS => l1PickInt_c hbs (q := 7) (fun w_ hS => (hS.own_rd (i := 1) rfl)) (by decide) hS rfl) ?_; intro x28 h28; try clear hSd; try clear wd; intro wd hSd
    obtain ⟨g29, o29, m29, q29, hv29, hm29, hl29, hc29⟩ := Rd.idxF ((hSd.own_rd (i := 2) rfl)) (at0_get (i := (0 : Int)) (by omega) (by omega))
    refine todo_pure hl_ (by kernel_rfl) rfl (gw0 rfl) rfl rfl rfl (fun a w_ hF => r_index sl26 ((hF.ev rfl).trans hv29) ec (by omega) (by first | omega | (simp at hm29; omega))) ?_
    refine todo_fin hl_ rfl (by kernel_rfl) (tl := [_]) rfl ?_; intro a w44 hF hA_
    have hS := hA_.sep; clear hA_
    clear hl_; try clear hSd
    try dsimp only [List.cons_append, List.nil_append, List.set] at hS
    try clear wd
    refine wl_istore (q := 2) hF hS rfl hv29 (by omega) (by omega) sz3 (hF.ev rfl) rfl (hF.ev rfl) fun w45 hS => ?_; dsimp only [List.set] at hS
    refine wl_nil ⟨rfl, ?_⟩
    refine xt ?_
    refine hK3 _ _ <| ws fun K17 hK17 => gb 1 4 hF hS rfl rfl rfl fun a hF => ww 5 hF hS rfl rfl rfl rfl rfl rfl fun w46 hS => wl_nil (hK17 _ _ ?_)
    refine xr ?_
    simp only [List.mem_cons, List.not_mem_nil, or_false] at h28
    exact ret1c rfl ag29 hF hS (i := 5) rfl sz29 rfl ⟨({ x with generations := x.generations.set 0 x28 }, [z0, z1, z2]), ⟨rfl, hgx.gens (by unfold int64; omega)⟩, Sep.part_mk (ek := stateEK) (x := { x with generations := x.generations.set 0 x28 }) (vs := [z0, z1, z2]) (hS.pm 7 [1, 2, 3, 6] rfl) rfl⟩
 refine rg hF rfl fun a hF => cx 30 hF rfl (fun c30 hF => ?_) fun c30 hF => ?_
 ·
  refine wp_region_todo (is := [0, 2, 3, 1, 4, 5]) [] [3, 5] (by kernel_rfl) hF hS ⟨trivial, by decide, by decide, by decide⟩ (by kernel_rfl) ?_; intro hl_ wd hSd
  refine tp 2 hl_ rfl <| todo_fork [(3, [1, 4, 5]), (1, [3, 4, 5])] hl_ rfl (by kernel_rfl) (List.forall_mem_cons.2 ⟨?_, List.forall_mem_cons.2 ⟨?_, fun _ h_ => nomatch h_⟩⟩)
  ·
   refine op_mc (Γ := {z : Sl.Thread × List Slv // z.1.wf ∧ z.1.size ≤ 60 ∧ 0 ≤ z.1.seen}) (m' := [5]) rfl (gw0 rfl) rfl rfl rfl (fun a w_ hF => r_call1 en179 (hF.ev rfl)) (fun w_ hS => calls_sub (l7Thread_h hbs (hS.pm 6 [5, 0, 1, 2, 3, 4] rfl))) ?_; intro ⟨⟨t35, vs35⟩, hw35, hz35, hs35⟩; try clear hSd; try clear wd; intro wd hSd
   refine todo_load [4, 5] hl_ (by kernel_rfl) rfl (gw0 rfl) rfl rfl rfl (fun a w_ hF hB_ => r_load1 sc27 (hF.ev rfl) ((hSd.ext hB_).box (i := 5) rfl rfl)) ?_
   obtain ⟨g36, o36, m36, q36, cs36, hv36, hm36, hl36, hk36, hz36, hc36⟩ := Rd.idx ((hSd.own_rd (i := 4) rfl)) (at0_get (i := (0 : Int)) (by omega) (by omega))
   have hkk36 := hk36; obtain ⟨v36_0, v36_1, v36_2, v36_3, v36_4, rfl, r36_0, r36_1, r36_2, r36_3, r36_4⟩ := hk36
   refine todo_pure hl_ (by kernel_rfl) rfl (gw0 rfl) rfl rfl rfl (fun a w_ hF => r_index sl27 ((hF.ev rfl).trans hv36) ec (by omega) (by first | omega | (simp at hm36; omega))) ?_
   refine todo_fin hl_ rfl (by kernel_rfl) (tl := [_]) rfl ?_; intro a w47 hF hA_
   have hS := hA_.sep; clear hA_
   clear hl_; try clear hSd
   try dsimp only [List.cons_append, List.nil_append, List.set] at hS
   try clear wd
   replace hS := hS.pull (p := 0) rfl; dsimp only [List.eraseIdx] at hS
   refine wl_oput (q := 3) hF hS rfl hv36 (at0_get (by omega) (by first | omega | (simp; omega))) sz42 (hF.ev rfl) rfl (hF.ev rfl) rfl fun w48 hS => ?_; dsimp only [List.set] at hS
   refine wl_nil ⟨rfl, ?_⟩
   refine xt ?_
   refine hK3 _ _ <| ws fun K19 hK19 => gb 1 4 hF hS rfl rfl rfl fun a hF => ww 5 hF hS rfl rfl rfl rfl rfl rfl fun w49 hS => wl_nil (hK19 _ _ ?_)
   refine xr ?_
   exact ret1c rfl ag29 hF hS (i := 5) rfl sz29 rfl ⟨({ x with threads := x.threads.set 0 t35 }, [z0, z1, z2]), ⟨rfl, new_threadX hx_ h5 hw35 hz35 hs35⟩, Sep.part_mk (ek := stateEK) (x := { x with threads := x.threads.set 0 t35 }) (vs := [z0, z1, z2]) (hS.pm 6 [1, 2, 3, 0] rfl) rfl⟩
  ·
   refine op_ld rfl rfl (gw0 rfl) rfl rfl rfl (fun a w_ hF hS => r_load1 sc27 (hF.ev rfl) (hS.box (i := 3) rfl rfl)) <| todo_fork [(3, [4, 5])] hl_ rfl (by kernel_rfl) (List.forall_mem_cons.2 ⟨?_, fun _ h_ => nomatch h_⟩)
   ·
    refine op_mc (Γ := {z : Sl.Thread × List Slv // z.1.wf ∧ z.1.size ≤ 60 ∧ 0 ≤ z.1.seen}) (m' := [5]) rfl (gw0 rfl) rfl rfl rfl (fun a w_ hF => r_call1 en179 (hF.ev rfl)) (fun w_ hS => calls_sub (l7Thread_h hbs (hS.pm 6 [5, 0, 1, 2, 3, 4] rfl))) ?_; intro ⟨⟨t35, vs35⟩, hw35, hz35, hs35⟩; try clear hSd; try clear wd; intro wd hSd
    obtain ⟨g36, o36, m36, q36, cs36, hv36, hm36, hl36, hk36, hz36, hc36⟩ := Rd.idx ((hSd.own_rd (i := 4) rfl)) (at0_get (i := (0 : Int)) (by omega) (by omega))
    have hkk36 := hk36; obtain ⟨v36_0, v36_1, v36_2, v36_3, v36_4, rfl, r36_0, r36_1, r36_2, r36_3, r36_4⟩ := hk36
    refine todo_pure hl_ (by kernel_rfl) rfl (gw0 rfl) rfl rfl rfl (fun a w_ hF => r_index sl27 ((hF.ev rfl).trans hv36) ec (by omega) (by first | omega | (simp at hm36; omega))) ?_
    refine todo_fin hl_ rfl (by kernel_rfl) (tl := [_]) rfl ?_; intro a w50 hF hA_
    have hS := hA_.sep; clear hA_
    clear hl_; try clear hSd
    try dsimp only [List.cons_append, List.nil_append, List.set] at hS
    try clear wd
    replace hS := hS.pull (p := 0) rfl; dsimp only [List.eraseIdx] at hS
    refine wl_oput (q := 3) hF hS rfl hv36 (at0_get (by omega) (by first | omega | (simp; omega))) sz42 (hF.ev rfl) rfl (hF.ev rfl) rfl fun w51 hS => ?_; dsimp only [List.set] at hS
    refine wl_nil ⟨rfl, ?_⟩
    refine xt ?_
    refine hK3 _ _ <| ws fun K20 hK20 => gb 1 4 hF hS rfl rfl rfl fun a hF => ww 5 hF hS rfl rfl rfl rfl rfl rfl fun w52 hS => wl_nil (hK20 _ _ ?_)
    refine xr ?_
    exact ret1c rfl ag29 hF hS (i := 5) rfl sz29 rfl ⟨({ x with threads := x.threads.set 0 t35 }, [z0, z1, z2]), ⟨rfl, new_threadX hx_ h5 hw35 hz35 hs35⟩, Sep.part_mk (ek := stateEK) (x := { x with threads := x.threads.set 0 t35 }) (vs := [z0, z1, z2]) (hS.pm 6 [1, 2, 3, 0] rfl) rfl⟩
 refine rg hF rfl fun a hF => cx 37 hF rfl (fun c37 hF => ?_) fun c37 hF => ?_
 ·
  refine wp_region_lit <| gb 2 3 hF hS rfl rfl rfl fun a hF => ?_
  refine wl hF rfl rfl rfl (r_cutlo (i := 1) sl26 (hF.ev rfl) (ec.trans (by first | rfl | (congr 1; omega))) (by omega) (by omega)) fun a hF => ?_
  replace hS := hS.own_cut (q := 0) (i := 1) (j := x.cells.length) rfl (by omega) (by omega); dsimp only [List.set] at hS; try rw [List.take_length] at hS; try rw [List.drop_zero] at hS
  refine ga 1 hF rfl fun a hF => wv 3 hF hS rfl rfl rfl rfl rfl rfl fun w53 hS => wl_nil ?_
  refine xt ?_
  refine hK3 _ _ <| ws fun K22 hK22 => gb 1 3 hF hS rfl rfl rfl fun a hF => ww 4 hF hS rfl rfl rfl rfl rfl rfl fun w54 hS => wl_nil (hK22 _ _ ?_)
  refine xr ?_
  rw [← hl0_] at hS
  exact ret1c rfl ag29 hF hS (i := 4) rfl sz29 rfl ⟨({ x with cells := x.cells.drop 1 }, [(cutA z0.1 intEK.sz z0.2.2 1, z0.2.1 - 1, z0.2.2 - 1), z1, z2]), ⟨rfl, hgx.fewer⟩, Sep.part_mk (ek := stateEK) (x := { x with cells := x.cells.drop 1 }) (vs := [(cutA z0.1 intEK.sz z0.2.2 1, z0.2.1 - 1, z0.2.2 - 1), z1, z2]) (hS.pm 6 [0, 1, 2, 5] rfl) rfl⟩
 refine rg hF rfl fun a hF => cx 43 hF rfl (fun c43 hF => ?_) fun c43 hF => ?_
 ·
  refine wp_region_lit <| ga 1 hF rfl fun a hF => wl_bslice intEK [vi (-1), vi 3, vi 1000001] [-1, 3, 1000001] rfl hF hS rfl mk26 rfl ⟨rfl, ec, rfl, ec, rfl, ec, trivial⟩ rfl rfl rfl rfl fun gl_46 w55 a hS hF => ?_
  refine ck hF rfl (l1PickInt_c hbs (q := 6) (fun w_ hS => (hS.own_rd (i := 0) rfl)) (by decide) hS rfl) ?_; rintro v w56 a ⟨⟨x47, rfl, h47⟩, hS⟩ hF
  refine ga 1 hF rfl fun a hF => wv 4 hF hS rfl rfl rfl rfl rfl rfl fun w57 hS => wl_nil ?_
  refine xt ?_
  refine hK3 _ _ <| ws fun K24 hK24 => gb 1 4 hF hS rfl rfl rfl fun a hF => ww 5 hF hS rfl rfl rfl rfl rfl rfl fun w58 hS => wl_nil (hK24 _ _ ?_)
  refine xr ?_
  simp only [List.mem_cons, List.not_mem_nil, or_false] at h47
  exact ret1c rfl ag29 hF hS (i := 5) rfl sz29 rfl ⟨({ x with faults := x47 }, [z0, z1, z2]), ⟨rfl, hgx.faults (by unfold int64; omega)⟩, Sep.part_mk (ek := stateEK) (x := { x with faults := x47 }) (vs := [z0, z1, z2]) (hS.pm 7 [1, 2, 3, 6] rfl) rfl⟩
 refine wp_skip ?_
 refine xt ?_
 refine hK3 _ _ <| ws fun K25 hK25 => gb 1 3 hF hS rfl rfl rfl fun a hF => ww 4 hF hS rfl rfl rfl rfl rfl rfl fun w59 hS => wl_nil (hK25 _ _ ?_)
 refine xr ?_
 exact ret1c rfl ag29 hF hS (i := 4) rfl sz29 rfl ⟨(x, [z0, z1, z2]), ⟨rfl, hgx.drawn⟩, Sep.part_mk (ek := stateEK) (x := x) (vs := [z0, z1, z2]) (hS.pm 6 [0, 1, 2, 5] rfl) rfl⟩
theorem l18Any_h {W : World} {g : Nat} {vb : Value} {bs : List Int} (hbs : byteEK.Rd W vb bs) {l : List Res} {w : World} (hS : Sep W (Cur g vb bs.length :: l) w) : Calls Tryz.prog 82 #[.pointer (some ⟨g, 0, none⟩)] w (Ret fun v w' => ∃ z : Sl.State × List Slv, (v = .agg (stateEK.cells z.1 z.2).toArray ∧ Drawn z.1) ∧ Sep W (Part stateEK z.1 z.2 :: Cur g vb bs.length :: l) w') := by
 refine cfr Tryz.func82 Tryz.ntmps82 fun a hF => ?_
 refine ws fun K1 hK1 => wl_alloc hF hS rfl zr29 fun g1 w1 a hS _ hF => wl_nil <| hK1 _ _ <| wp_seq_k fun K2 hK2 => ws fun K3 hK3 => ga 1 hF rfl fun a hF => ?_
 refine ck hF rfl (l1Once_c hbs (q := 1) _ hS rfl) ?_; rintro v w2 a ⟨⟨b5, rfl⟩, hS⟩ hF
 refine wl_nil <| hK3 _ _ <| cx 5 hF rfl (fun c5 hF => ?_) fun c5 hF => ?_
 ·
  refine ws fun K4 hK4 => ga 1 hF rfl fun a hF => ?_
  replace hS := hS.pull (p := 1) rfl; dsimp only [List.eraseIdx] at hS
  refine ck hF rfl (l9State_h hbs hS) ?_; rintro v w3 a ⟨⟨x7, vs7⟩, ⟨rfl, hg7⟩, hS⟩ hF
  try dsimp only at hz7
  refine ww 2 hF hS rfl rfl rfl rfl rfl rfl fun w4 hS => wl_nil (hK4 _ _ ?_)
  refine xr ?_
  exact ret1c rfl ag29 hF hS (i := 2) rfl sz29 rfl ⟨(x7, vs7), ⟨rfl, hg7⟩, (hS.pm 3 [0, 1] rfl)⟩
 refine wp_skip <| hK2 _ _ <| ws fun K5 hK5 => ga 1 hF rfl fun a hF => ?_
 replace hS := hS.pull (p := 1) rfl; dsimp only [List.eraseIdx] at hS
 refine ck hF rfl (l18Run_h hbs (by omega) hS) ?_; rintro v w5 a ⟨⟨x9, vs9⟩, ⟨rfl, hg9⟩, hS⟩ hF
 try dsimp only at hz9
 refine wl_alloc hF hS rfl zr29 fun g2 w6 a hS _ hF => ww 0 hF hS rfl rfl rfl rfl rfl rfl fun w7 hS => wl_nil <| hK5 _ _ <| wp_seq_k fun K6 hK6 => ws fun K7 hK7 => ga 1 hF rfl fun a hF => ?_
 refine ck hF rfl (l1Below_c hbs (q := 2) _ hS rfl) ?_; rintro v w8 a ⟨⟨x11, rfl, h11⟩, hS⟩ hF
 refine wl_nil <| hK7 _ _ <| wp_block <| rg hF rfl fun a hF => cx 12 hF rfl (fun c12 hF => ?_) fun c12 hF => ?_
 ·
  try dsimp only at hg9
  obtain ⟨ho_, hc_, hgl_, ht_⟩ := hg9.sh
  have hb_ := ho_; unfold Config.ok at hb_
  have hz_ := hg9.sz
  have hcc_ := cellCount_eq ho_
  replace hS := hS.pull (p := 1) rfl; dsimp only [List.eraseIdx] at hS
  replace hS : Sep W (Own intEK (sv (vs9.getD 0 (none, 0, 0))) (x9).cells :: Own intEK (sv (vs9.getD 1 (none, 0, 0))) (x9).generations :: Own threadEK (sv (vs9.getD 2 (none, 0, 0))) (x9).threads :: _) _ := hS.part_open
  dsimp only [stateEK] at hS
  generalize vs9.getD 0 (none, 0, 0) = z0 at hS
  generalize vs9.getD 1 (none, 0, 0) = z1 at hS
  generalize vs9.getD 2 (none, 0, 0) = z2 at hS
  have hcap_ : (x9).cells.length ≤ z0.2.2 := by
    obtain ⟨A_, c_, e_, h1_, _⟩ := (hS.own_rd (i := 0) rfl).sl
    have e2_ : z0.2.2 = c_ := by injection e_
    rw [e2_]; exact h1_
  have hl0_ := hS.own_len (q := 0) rfl
  have hl1_ := hS.own_len (q := 1) rfl
  have hl2_ := hS.own_len (q := 2) rfl
  refine wp_region_todo (is := [0, 2, 3, 4, 5, 7, 6, 8, 9, 1, 10, 11]) [] [6, 9, 11] (by kernel_rfl) hF hS ⟨trivial, by decide, by decide, by decide⟩ (by kernel_rfl) ?_; intro hl_ wd hSd
  refine tp 3 hl_ rfl <| todo_load [5, 6, 9, 10, 11] hl_ (by kernel_rfl) rfl (gw0 rfl) rfl rfl rfl (fun a w_ hF hB_ => r_load1 sc26 (hF.ev rfl) ((hSd.ext hB_).box (i := 3) rfl rfl)) <| tp 2 hl_ rfl <| todo_fork [(6, [8, 9, 1, 10, 11]), (8, [6, 9, 1, 10, 11]), (1, [6, 8, 9, 10, 11])] hl_ rfl (by kernel_rfl) (List.forall_mem_cons.2 ⟨?_, List.forall_mem_cons.2 ⟨?_, List.forall_mem_cons.2 ⟨?_, fun _ h_ => nomatch h_⟩⟩⟩)
  ·
   refine op_dw (m' := [9, 11]) (val := fun x : Int => vi x) (R := fun x => 0 ≤ x ∧ (x < (z0.2.1 : Int) ∨ ((z0.2.1 : Int) ≤ 0 ∧ x = 0))) rfl rfl (gw0 rfl) rfl rfl rfl rfl (fun a w_ hF => r_call2 en83 (hF.ev rfl) (hF.ev rfl)) (fun M_ w_ hS => l1Below_c hbs (q := 5) _ hS rfl) ?_; intro x20 h20; try clear hSd; try clear wd; intro wd hSd
   refine todo_fork [(8, [9, 1, 10, 11]), (1, [8, 9, 10, 11])] hl_ rfl (by kernel_rfl) (List.forall_mem_cons.2 ⟨?_, List.forall_mem_cons.2 ⟨?_, fun _ h_ => nomatch h_⟩⟩)
   ·
    refine op_op rfl rfl (gw0 rfl) rfl rfl rfl (fun a w_ hF hS => r_bslice intEK [vi (-1), vi 0, vi 1, vi 2, vi 3, vi 130, vi 131] [-1, 0, 1, 2, 3, 130, 131] rfl mk26 rfl ⟨rfl, ec, rfl, ec, rfl, ec, rfl, ec, rfl, ec, rfl, ec, rfl, ec, trivial⟩ rfl rfl rfl rfl) ?_; intro gl_22
    refine todo_fork [(9, [1, 10, 11]), (1, [9, 10, 11])] hl_ rfl (by kernel_rfl) (List.forall_mem_cons.2 ⟨?_, List.forall_mem_cons.2 ⟨?_, fun _ h_ => nomatch h_⟩⟩)
    ·
     refine op_dw (m' := [11]) (val := fun x : Int => vi x) (R := fun x => x ∈ ([-1, 0, 1, 2, 3, 130, 131] : List Int)) rfl rfl (gw0 rfl) rfl rfl rfl rfl (fun a w_ hF => r_call2 en85 (hF.ev rfl) (hF.ev rfl)) (fun M_ w_ hS => l1PickInt_c hbs (q := 6) (fun w_ hS => (hS.own_rd (i := 1) rfl)) (by decide) hS rfl) ?_; intro x23 h23; try clear hSd; try clear wd; intro wd hSd
     refine todo_load [10, 11] hl_ (by kernel_rfl) rfl (gw0 rfl) rfl rfl rfl (fun a w_ hF hB_ => r_load1 sc26 (hF.ev rfl) ((hSd.ext hB_).box (i := 4) rfl rfl)) ?_
     obtain ⟨g24, o24, m24, q24, hv24, hm24, hl24, hc24⟩ := Rd.idxF ((hSd.own_rd (i := 1) rfl)) (at0_get (i := x20) (by omega) (by omega))
     refine todo_pure hl_ (by kernel_rfl) rfl (gw0 rfl) rfl rfl rfl (fun a w_ hF => r_index sl26 ((hF.ev rfl).trans hv24) (hF.ev rfl) (by omega) (by first | omega | (simp at hm24; omega))) ?_
     refine todo_fin hl_ rfl (by kernel_rfl) (tl := [_]) rfl ?_; intro a w10 hF hA_
     have hS := hA_.sep; clear hA_
     clear hl_; try clear hSd
     try dsimp only [List.cons_append, List.nil_append, List.set] at hS
     try clear wd
     refine wl_istore (q := 1) hF hS rfl hv24 (by omega) (by omega) sz3 (hF.ev rfl) rfl (hF.ev rfl) fun w11 hS => ?_; dsimp only [List.set] at hS
     refine wl_nil ⟨rfl, ?_⟩
     refine xt ?_
     refine hK6 _ _ <| ws fun K9 hK9 => gb 1 4 hF hS rfl rfl rfl fun a hF => ww 6 hF hS rfl rfl rfl rfl rfl rfl fun w12 hS => wl_nil (hK9 _ _ ?_)
     refine xr ?_
     simp only [List.mem_cons, List.not_mem_nil, or_false] at h23
     exact ret1c rfl ag29 hF hS (i := 6) rfl sz29 rfl ⟨({ x9 with cells := x9.cells.set x20.toNat x23 }, [z0, z1, z2]), ⟨rfl, Good.cells hg9 (by unfold int64; omega)⟩, Sep.part_mk (ek := stateEK) (x := { x9 with cells := x9.cells.set x20.toNat x23 }) (vs := [z0, z1, z2]) (hS.pm 7 [1, 2, 3, 5] rfl) rfl⟩
    ·
     refine op_ld rfl rfl (gw0 rfl) rfl rfl rfl (fun a w_ hF hS => r_load1 sc26 (hF.ev rfl) (hS.box (i := 4) rfl rfl)) <| todo_fork [(9, [10, 11])] hl_ rfl (by kernel_rfl) (List.forall_mem_cons.2 ⟨?_, fun _ h_ => nomatch h_⟩)
     ·
      refine op_dw (m' := [11]) (val := fun x : Int => vi x) (R := fun x => x ∈ ([-1, 0, 1, 2, 3, 130, 131] : List Int)) rfl rfl (gw0 rfl) rfl rfl rfl rfl (fun a w_ hF => r_call2 en85 (hF.ev rfl) (hF.ev rfl)) (fun M_ w_ hS => l1PickInt_c hbs (q := 6) (fun w_ hS => (hS.own_rd (i := 1) rfl)) (by decide) hS rfl) ?_; intro x23 h23; try clear hSd; try clear wd; intro wd hSd
      obtain ⟨g24, o24, m24, q24, hv24, hm24, hl24, hc24⟩ := Rd.idxF ((hSd.own_rd (i := 1) rfl)) (at0_get (i := x20) (by omega) (by omega))
      refine todo_pure hl_ (by kernel_rfl) rfl (gw0 rfl) rfl rfl rfl (fun a w_ hF => r_index sl26 ((hF.ev rfl).trans hv24) (hF.ev rfl) (by omega) (by first | omega | (simp at hm24; omega))) ?_
      refine todo_fin hl_ rfl (by kernel_rfl) (tl := [_]) rfl ?_; intro a w13 hF hA_
      have hS := hA_.sep; clear hA_
      clear hl_; try clear hSd
      try dsimp only [List.cons_append, List.nil_append, List.set] at hS
      try clear wd
      refine wl_istore (q := 1) hF hS rfl hv24 (by omega) (by omega) sz3 (hF.ev rfl) rfl (hF.ev rfl) fun w14 hS => ?_; dsimp only [List.set] at hS
      refine wl_nil ⟨rfl, ?_⟩
      refine xt ?_
      refine hK6 _ _ <| ws fun K10 hK10 => gb 1 4 hF hS rfl rfl rfl fun a hF => ww 6 hF hS rfl rfl rfl rfl rfl rfl fun w15 hS => wl_nil (hK10 _ _ ?_)
      refine xr ?_
      simp only [List.mem_cons, List.not_mem_nil, or_false] at h23
      exact ret1c rfl ag29 hF hS (i := 6) rfl sz29 rfl ⟨({ x9 with cells := x9.cells.set x20.toNat x23 }, [z0, z1, z2]), ⟨rfl, Good.cells hg9 (by unfold int64; omega)⟩, Sep.part_mk (ek := stateEK) (x := { x9 with cells := x9.cells.set x20.toNat x23 }) (vs := [z0, z1, z2]) (hS.pm 7 [1, 2, 3, 5] rfl) rfl⟩
   ·
    refine op_ld rfl rfl (gw0 rfl) rfl rfl rfl (fun a w_ hF hS => r_load1 sc26 (hF.ev rfl) (hS.box (i := 3) rfl rfl)) ?_
    refine todo_op hl_ rfl (by kernel_rfl) rfl rfl rfl rfl rfl (fun a w_ hF hS => r_bslice intEK [vi (-1), vi 0, vi 1, vi 2, vi 3, vi 130, vi 131] [-1, 0, 1, 2, 3, 130, 131] rfl mk26 rfl ⟨rfl, ec, rfl, ec, rfl, ec, rfl, ec, rfl, ec, rfl, ec, rfl, ec, trivial⟩ rfl rfl rfl rfl) ?_; intro gl_22
    refine todo_fork [(9, [10, 11])] hl_ rfl (by kernel_rfl) (List.forall_mem_cons.2 ⟨?_, fun _ h_ => nomatch h_⟩)
    ·
     refine op_dw (m' := [11]) (val := fun x : Int => vi x) (R := fun x => x ∈ ([-1, 0, 1, 2, 3, 130, 131] : List Int)) rfl rfl (gw0 rfl) rfl rfl rfl rfl (fun a w_ hF => r_call2 en85 (hF.ev rfl) (hF.ev rfl)) (fun M_ w_ hS => l1PickInt_c hbs (q := 6) (fun w_ hS => (hS.own_rd (i := 1) rfl)) (by decide) hS rfl) ?_; intro x23 h23; try clear hSd; try clear wd; intro wd hSd
     obtain ⟨g24, o24, m24, q24, hv24, hm24, hl24, hc24⟩ := Rd.idxF ((hSd.own_rd (i := 1) rfl)) (at0_get (i := x20) (by omega) (by omega))
     refine todo_pure hl_ (by kernel_rfl) rfl (gw0 rfl) rfl rfl rfl (fun a w_ hF => r_index sl26 ((hF.ev rfl).trans hv24) (hF.ev rfl) (by omega) (by first | omega | (simp at hm24; omega))) ?_
     refine todo_fin hl_ rfl (by kernel_rfl) (tl := [_]) rfl ?_; intro a w17 hF hA_
     have hS := hA_.sep; clear hA_
     clear hl_; try clear hSd
     try dsimp only [List.cons_append, List.nil_append, List.set] at hS
     try clear wd
     refine wl_istore (q := 1) hF hS rfl hv24 (by omega) (by omega) sz3 (hF.ev rfl) rfl (hF.ev rfl) fun w18 hS => ?_; dsimp only [List.set] at hS
     refine wl_nil ⟨rfl, ?_⟩
     refine xt ?_
     refine hK6 _ _ <| ws fun K11 hK11 => gb 1 4 hF hS rfl rfl rfl fun a hF => ww 6 hF hS rfl rfl rfl rfl rfl rfl fun w19 hS => wl_nil (hK11 _ _ ?_)
     refine xr ?_
     simp only [List.mem_cons, List.not_mem_nil, or_false] at h23
     exact ret1c rfl ag29 hF hS (i := 6) rfl sz29 rfl ⟨({ x9 with cells := x9.cells.set x20.toNat x23 }, [z0, z1, z2]), ⟨rfl, Good.cells hg9 (by unfold int64; omega)⟩, Sep.part_mk (ek := stateEK) (x := { x9 with cells := x9.cells.set x20.toNat x23 }) (vs := [z0, z1, z2]) (hS.pm 7 [1, 2, 3, 5] rfl) rfl⟩
  ·
   refine op_op rfl rfl (gw0 rfl) rfl rfl rfl (fun a w_ hF hS => r_bslice intEK [vi (-1), vi 0, vi 1, vi 2, vi 3, vi 130, vi 131] [-1, 0, 1, 2, 3, 130, 131] rfl mk26 rfl ⟨rfl, ec, rfl, ec, rfl, ec, rfl, ec, rfl, ec, rfl, ec, rfl, ec, trivial⟩ rfl rfl rfl rfl) ?_; intro gl_22
   refine todo_fork [(6, [9, 1, 10, 11]), (1, [6, 9, 10, 11])] hl_ rfl (by kernel_rfl) (List.forall_mem_cons.2 ⟨?_, List.forall_mem_cons.2 ⟨?_, fun _ h_ => nomatch h_⟩⟩)
   ·
    refine op_dw (m' := [9, 11]) (val := fun x : Int => vi x) (R := fun x => 0 ≤ x ∧ (x < (z0.2.1 : Int) ∨ ((z0.2.1 : Int) ≤ 0 ∧ x = 0))) rfl rfl (gw0 rfl) rfl rfl rfl rfl (fun a w_ hF => r_call2 en83 (hF.ev rfl) (hF.ev rfl)) (fun M_ w_ hS => l1Below_c hbs (q := 6) _ hS rfl) ?_; intro x20 h20; try clear hSd; try clear wd; intro wd hSd
    refine todo_fork [(9, [1, 10, 11]), (1, [9, 10, 11])] hl_ rfl (by kernel_rfl) (List.forall_mem_cons.2 ⟨?_, List.forall_mem_cons.2 ⟨?_, fun _ h_ => nomatch h_⟩⟩)
    ·
     refine op_dw (m' := [11]) (val := fun x : Int => vi x) (R := fun x => x ∈ ([-1, 0, 1, 2, 3, 130, 131] : List Int)) rfl rfl (gw0 rfl) rfl rfl rfl rfl (fun a w_ hF => r_call2 en85 (hF.ev rfl) (hF.ev rfl)) (fun M_ w_ hS => l1PickInt_c hbs (q := 6) (fun w_ hS => (hS.own_rd (i := 1) rfl)) (by decide) hS rfl) ?_; intro x23 h23; try clear hSd; try clear wd; intro wd hSd
     refine todo_load [10, 11] hl_ (by kernel_rfl) rfl (gw0 rfl) rfl rfl rfl (fun a w_ hF hB_ => r_load1 sc26 (hF.ev rfl) ((hSd.ext hB_).box (i := 4) rfl rfl)) ?_
     obtain ⟨g24, o24, m24, q24, hv24, hm24, hl24, hc24⟩ := Rd.idxF ((hSd.own_rd (i := 1) rfl)) (at0_get (i := x20) (by omega) (by omega))
     refine todo_pure hl_ (by kernel_rfl) rfl (gw0 rfl) rfl rfl rfl (fun a w_ hF => r_index sl26 ((hF.ev rfl).trans hv24) (hF.ev rfl) (by omega) (by first | omega | (simp at hm24; omega))) ?_
     refine todo_fin hl_ rfl (by kernel_rfl) (tl := [_]) rfl ?_; intro a w21 hF hA_
     have hS := hA_.sep; clear hA_
     clear hl_; try clear hSd
     try dsimp only [List.cons_append, List.nil_append, List.set] at hS
     try clear wd
     refine wl_istore (q := 1) hF hS rfl hv24 (by omega) (by omega) sz3 (hF.ev rfl) rfl (hF.ev rfl) fun w22 hS => ?_; dsimp only [List.set] at hS
     refine wl_nil ⟨rfl, ?_⟩
     refine xt ?_
     refine hK6 _ _ <| ws fun K12 hK12 => gb 1 4 hF hS rfl rfl rfl fun a hF => ww 6 hF hS rfl rfl rfl rfl rfl rfl fun w23 hS => wl_nil (hK12 _ _ ?_)
     refine xr ?_
     simp only [List.mem_cons, List.not_mem_nil, or_false] at h23
     exact ret1c rfl ag29 hF hS (i := 6) rfl sz29 rfl ⟨({ x9 with cells := x9.cells.set x20.toNat x23 }, [z0, z1, z2]), ⟨rfl, Good.cells hg9 (by unfold int64; omega)⟩, Sep.part_mk (ek := stateEK) (x := { x9 with cells := x9.cells.set x20.toNat x23 }) (vs := [z0, z1, z2]) (hS.pm 7 [1, 2, 3, 5] rfl) rfl⟩
    ·
     refine op_ld rfl rfl (gw0 rfl) rfl rfl rfl (fun a w_ hF hS => r_load1 sc26 (hF.ev rfl) (hS.box (i := 4) rfl rfl)) <| todo_fork [(9, [10, 11])] hl_ rfl (by kernel_rfl) (List.forall_mem_cons.2 ⟨?_, fun _ h_ => nomatch h_⟩)
     ·
      refine op_dw (m' := [11]) (val := fun x : Int => vi x) (R := fun x => x ∈ ([-1, 0, 1, 2, 3, 130, 131] : List Int)) rfl rfl (gw0 rfl) rfl rfl rfl rfl (fun a w_ hF => r_call2 en85 (hF.ev rfl) (hF.ev rfl)) (fun M_ w_ hS => l1PickInt_c hbs (q := 6) (fun w_ hS => (hS.own_rd (i := 1) rfl)) (by decide) hS rfl) ?_; intro x23 h23; try clear hSd; try clear wd; intro wd hSd
      obtain ⟨g24, o24, m24, q24, hv24, hm24, hl24, hc24⟩ := Rd.idxF ((hSd.own_rd (i := 1) rfl)) (at0_get (i := x20) (by omega) (by omega))
      refine todo_pure hl_ (by kernel_rfl) rfl (gw0 rfl) rfl rfl rfl (fun a w_ hF => r_index sl26 ((hF.ev rfl).trans hv24) (hF.ev rfl) (by omega) (by first | omega | (simp at hm24; omega))) ?_
      refine todo_fin hl_ rfl (by kernel_rfl) (tl := [_]) rfl ?_; intro a w24 hF hA_
      have hS := hA_.sep; clear hA_
      clear hl_; try clear hSd
      try dsimp only [List.cons_append, List.nil_append, List.set] at hS
      try clear wd
      refine wl_istore (q := 1) hF hS rfl hv24 (by omega) (by omega) sz3 (hF.ev rfl) rfl (hF.ev rfl) fun w25 hS => ?_; dsimp only [List.set] at hS
      refine wl_nil ⟨rfl, ?_⟩
      refine xt ?_
      refine hK6 _ _ <| ws fun K13 hK13 => gb 1 4 hF hS rfl rfl rfl fun a hF => ww 6 hF hS rfl rfl rfl rfl rfl rfl fun w26 hS => wl_nil (hK13 _ _ ?_)
      refine xr ?_
      simp only [List.mem_cons, List.not_mem_nil, or_false] at h23
      exact ret1c rfl ag29 hF hS (i := 6) rfl sz29 rfl ⟨({ x9 with cells := x9.cells.set x20.toNat x23 }, [z0, z1, z2]), ⟨rfl, Good.cells hg9 (by unfold int64; omega)⟩, Sep.part_mk (ek := stateEK) (x := { x9 with cells := x9.cells.set x20.toNat x23 }) (vs := [z0, z1, z2]) (hS.pm 7 [1, 2, 3, 5] rfl) rfl⟩
   ·
    refine op_ld rfl rfl (gw0 rfl) rfl rfl rfl (fun a w_ hF hS => r_load1 sc26 (hF.ev rfl) (hS.box (i := 4) rfl rfl)) <| todo_fork [(6, [9, 10, 11])] hl_ rfl (by kernel_rfl) (List.forall_mem_cons.2 ⟨?_, fun _ h_ => nomatch h_⟩)
    ·
     refine op_dw (m' := [9, 11]) (val := fun x : Int => vi x) (R := fun x => 0 ≤ x ∧ (x < (z0.2.1 : Int) ∨ ((z0.2.1 : Int) ≤ 0 ∧ x = 0))) rfl rfl (gw0 rfl) rfl rfl rfl rfl (fun a w_ hF => r_call2 en83 (hF.ev rfl) (hF.ev rfl)) (fun M_ w_ hS => l1Below_c hbs (q := 6) _ hS rfl) ?_; intro x20 h20; try clear hSd; try clear wd; intro wd hSd
     refine todo_fork [(9, [10, 11])] hl_ rfl (by kernel_rfl) (List.forall_mem_cons.2 ⟨?_, fun _ h_ => nomatch h_⟩)
     ·
      refine op_dw (m' := [11]) (val := fun x : Int => vi x) (R := fun x => x ∈ ([-1, 0, 1, 2, 3, 130, 131] : List Int)) rfl rfl (gw0 rfl) rfl rfl rfl rfl (fun a w_ hF => r_call2 en85 (hF.ev rfl) (hF.ev rfl)) (fun M_ w_ hS => l1PickInt_c hbs (q := 6) (fun w_ hS => (hS.own_rd (i := 1) rfl)) (by decide) hS rfl) ?_; intro x23 h23; try clear hSd; try clear wd; intro wd hSd
      obtain ⟨g24, o24, m24, q24, hv24, hm24, hl24, hc24⟩ := Rd.idxF ((hSd.own_rd (i := 1) rfl)) (at0_get (i := x20) (by omega) (by omega))
      refine todo_pure hl_ (by kernel_rfl) rfl (gw0 rfl) rfl rfl rfl (fun a w_ hF => r_index sl26 ((hF.ev rfl).trans hv24) (hF.ev rfl) (by omega) (by first | omega | (simp at hm24; omega))) ?_
      refine todo_fin hl_ rfl (by kernel_rfl) (tl := [_]) rfl ?_; intro a w27 hF hA_
      have hS := hA_.sep; clear hA_
      clear hl_; try clear hSd
      try dsimp only [List.cons_append, List.nil_append, List.set] at hS
      try clear wd
      refine wl_istore (q := 1) hF hS rfl hv24 (by omega) (by omega) sz3 (hF.ev rfl) rfl (hF.ev rfl) fun w28 hS => ?_; dsimp only [List.set] at hS
      refine wl_nil ⟨rfl, ?_⟩
      refine xt ?_
      refine hK6 _ _ <| ws fun K14 hK14 => gb 1 4 hF hS rfl rfl rfl fun a hF => ww 6 hF hS rfl rfl rfl rfl rfl rfl fun w29 hS => wl_nil (hK14 _ _ ?_)
      refine xr ?_
      simp only [List.mem_cons, List.not_mem_nil, or_false] at h23
      exact ret1c rfl ag29 hF hS (i := 6) rfl sz29 rfl ⟨({ x9 with cells := x9.cells.set x20.toNat x23 }, [z0, z1, z2]), ⟨rfl, Good.cells hg9 (by unfold int64; omega)⟩, Sep.part_mk (ek := stateEK) (x := { x9 with cells := x9.cells.set x20.toNat x23 }) (vs := [z0, z1, z2]) (hS.pm 7 [1, 2, 3, 5] rfl) rfl⟩
  ·
   refine op_ld rfl rfl (gw0 rfl) rfl rfl rfl (fun a w_ hF hS => r_load1 sc26 (hF.ev rfl) (hS.box (i := 3) rfl rfl)) <| todo_fork [(6, [8, 9, 10, 11]), (8, [6, 9, 10, 11])] hl_ rfl (by kernel_rfl) (List.forall_mem_cons.2 ⟨?_, List.forall_mem_cons.2 ⟨?_, fun _ h_ => nomatch h_⟩⟩)
   ·
    refine op_dw (m' := [9, 11]) (val := fun x : Int => vi x) (R := fun x => 0 ≤ x ∧ (x < (z0.2.1 : Int) ∨ ((z0.2.1 : Int) ≤ 0 ∧ x = 0))) rfl rfl (gw0 rfl) rfl rfl rfl rfl (fun a w_ hF => r_call2 en83 (hF.ev rfl) (hF.ev rfl)) (fun M_ w_ hS => l1Below_c hbs (q := 5) _ hS rfl) ?_; intro x20 h20; try clear hSd; try clear wd; intro wd hSd
    refine todo_op hl_ rfl (by kernel_rfl) rfl rfl rfl rfl rfl (fun a w_ hF hS => r_bslice intEK [vi (-1), vi 0, vi 1, vi 2, vi 3, vi 130, vi 131] [-1, 0, 1, 2, 3, 130, 131] rfl mk26 rfl ⟨rfl, ec, rfl, ec, rfl, ec, rfl, ec, rfl, ec, rfl, ec, rfl, ec, trivial⟩ rfl rfl rfl rfl) ?_; intro gl_22
    refine todo_fork [(9, [10, 11])] hl_ rfl (by kernel_rfl) (List.forall_mem_cons.2 ⟨?_, fun _ h_ => nomatch h_⟩)
    ·
     refine op_dw (m' := [11]) (val := fun x : Int => vi x) (R := fun x => x ∈ ([-1, 0, 1, 2, 3, 130, 131] : List Int)) rfl rfl (gw0 rfl) rfl rfl rfl rfl (fun a w_ hF => r_call2 en85 (hF.ev rfl) (hF.ev rfl)) (fun M_ w_ hS => l1PickInt_c hbs (q := 6) (fun w_ hS => (hS.own_rd (i := 1) rfl)) (by decide) hS rfl) ?_; intro x23 h23; try clear hSd; try clear wd; intro wd hSd
     obtain ⟨g24, o24, m24, q24, hv24, hm24, hl24, hc24⟩ := Rd.idxF ((hSd.own_rd (i := 1) rfl)) (at0_get (i := x20) (by omega) (by omega))
     refine todo_pure hl_ (by kernel_rfl) rfl (gw0 rfl) rfl rfl rfl (fun a w_ hF => r_index sl26 ((hF.ev rfl).trans hv24) (hF.ev rfl) (by omega) (by first | omega | (simp at hm24; omega))) ?_
     refine todo_fin hl_ rfl (by kernel_rfl) (tl := [_]) rfl ?_; intro a w31 hF hA_
     have hS := hA_.sep; clear hA_
     clear hl_; try clear hSd
     try dsimp only [List.cons_append, List.nil_append, List.set] at hS
     try clear wd
     refine wl_istore (q := 1) hF hS rfl hv24 (by omega) (by omega) sz3 (hF.ev rfl) rfl (hF.ev rfl) fun w32 hS => ?_; dsimp only [List.set] at hS
     refine wl_nil ⟨rfl, ?_⟩
     refine xt ?_
     refine hK6 _ _ <| ws fun K15 hK15 => gb 1 4 hF hS rfl rfl rfl fun a hF => ww 6 hF hS rfl rfl rfl rfl rfl rfl fun w33 hS => wl_nil (hK15 _ _ ?_)
     refine xr ?_
     simp only [List.mem_cons, List.not_mem_nil, or_false] at h23
     exact ret1c rfl ag29 hF hS (i := 6) rfl sz29 rfl ⟨({ x9 with cells := x9.cells.set x20.toNat x23 }, [z0, z1, z2]), ⟨rfl, Good.cells hg9 (by unfold int64; omega)⟩, Sep.part_mk (ek := stateEK) (x := { x9 with cells := x9.cells.set x20.toNat x23 }) (vs := [z0, z1, z2]) (hS.pm 7 [1, 2, 3, 5] rfl) rfl⟩
   ·
    refine op_op rfl rfl (gw0 rfl) rfl rfl rfl (fun a w_ hF hS => r_bslice intEK [vi (-1), vi 0, vi 1, vi 2, vi 3, vi 130, vi 131] [-1, 0, 1, 2, 3, 130, 131] rfl mk26 rfl ⟨rfl, ec, rfl, ec, rfl, ec, rfl, ec, rfl, ec, rfl, ec, rfl, ec, trivial⟩ rfl rfl rfl rfl) ?_; intro gl_22
    refine todo_fork [(6, [9, 10, 11])] hl_ rfl (by kernel_rfl) (List.forall_mem_cons.2 ⟨?_, fun _ h_ => nomatch h_⟩)
    ·
     refine op_dw (m' := [9, 11]) (val := fun x : Int => vi x) (R := fun x => 0 ≤ x ∧ (x < (z0.2.1 : Int) ∨ ((z0.2.1 : Int) ≤ 0 ∧ x = 0))) rfl rfl (gw0 rfl) rfl rfl rfl rfl (fun a w_ hF => r_call2 en83 (hF.ev rfl) (hF.ev rfl)) (fun M_ w_ hS => l1Below_c hbs (q := 6) _ hS rfl) ?_; intro x20 h20; try clear hSd; try clear wd; intro wd hSd
     refine todo_fork [(9, [10, 11])] hl_ rfl (by kernel_rfl) (List.forall_mem_cons.2 ⟨?_, fun _ h_ => nomatch h_⟩)
     ·
      refine op_dw (m' := [11]) (val := fun x : Int => vi x) (R := fun x => x ∈ ([-1, 0, 1, 2, 3, 130, 131] : List Int)) rfl rfl (gw0 rfl) rfl rfl rfl rfl (fun a w_ hF => r_call2 en85 (hF.ev rfl) (hF.ev rfl)) (fun M_ w_ hS => l1PickInt_c hbs (q := 6) (fun w_ hS => (hS.own_rd (i := 1) rfl)) (by decide) hS rfl) ?_; intro x23 h23; try clear hSd; try clear wd; intro wd hSd
      obtain ⟨g24, o24, m24, q24, hv24, hm24, hl24, hc24⟩ := Rd.idxF ((hSd.own_rd (i := 1) rfl)) (at0_get (i := x20) (by omega) (by omega))
      refine todo_pure hl_ (by kernel_rfl) rfl (gw0 rfl) rfl rfl rfl (fun a w_ hF => r_index sl26 ((hF.ev rfl).trans hv24) (hF.ev rfl) (by omega) (by first | omega | (simp at hm24; omega))) ?_
      refine todo_fin hl_ rfl (by kernel_rfl) (tl := [_]) rfl ?_; intro a w35 hF hA_
      have hS := hA_.sep; clear hA_
      clear hl_; try clear hSd
      try dsimp only [List.cons_append, List.nil_append, List.set] at hS
      try clear wd
      refine wl_istore (q := 1) hF hS rfl hv24 (by omega) (by omega) sz3 (hF.ev rfl) rfl (hF.ev rfl) fun w36 hS => ?_; dsimp only [List.set] at hS
      refine wl_nil ⟨rfl, ?_⟩
      refine xt ?_
      refine hK6 _ _ <| ws fun K16 hK16 => gb 1 4 hF hS rfl rfl rfl fun a hF => ww 6 hF hS rfl rfl rfl rfl rfl rfl fun w37 hS => wl_nil (hK16 _ _ ?_)
      refine xr ?_
      simp only [List.mem_cons, List.not_mem_nil, or_false] at h23
      exact ret1c rfl ag29 hF hS (i := 6) rfl sz29 rfl ⟨({ x9 with cells := x9.cells.set x20.toNat x23 }, [z0, z1, z2]), ⟨rfl, Good.cells hg9 (by unfold int64; omega)⟩, Sep.part_mk (ek := stateEK) (x := { x9 with cells := x9.cells.set x20.toNat x23 }) (vs := [z0, z1, z2]) (hS.pm 7 [1, 2, 3, 5] rfl) rfl⟩
 try dsimp only at hg9
 obtain ⟨ho_, hc_, hgl_, ht_⟩ := hg9.sh
 have hb_ := ho_; unfold Config.ok at hb_
 have hz_ := hg9.sz
 have hcc_ := cellCount_eq ho_
 replace hS := hS.pull (p := 1) rfl; dsimp only [List.eraseIdx] at hS
 replace hS : Sep W (Own intEK (sv (vs9.getD 0 (none, 0, 0))) (x9).cells :: Own intEK (sv (vs9.getD 1 (none, 0, 0))) (x9).generations :: Own threadEK (sv (vs9.getD 2 (none, 0, 0))) (x9).threads :: _) _ := hS.part_open
 dsimp only [stateEK] at hS
 generalize vs9.getD 0 (none, 0, 0) = z0 at hS
 generalize vs9.getD 1 (none, 0, 0) = z1 at hS
 generalize vs9.getD 2 (none, 0, 0) = z2 at hS
 have hcap_ : (x9).cells.length ≤ z0.2.2 := by
   obtain ⟨A_, c_, e_, h1_, _⟩ := (hS.own_rd (i := 0) rfl).sl
   have e2_ : z0.2.2 = c_ := by injection e_
   rw [e2_]; exact h1_
 have hl0_ := hS.own_len (q := 0) rfl
 have hl1_ := hS.own_len (q := 1) rfl
 have hl2_ := hS.own_len (q := 2) rfl
 refine rg hF rfl fun a hF => cx 25 hF rfl (fun c25 hF => ?_) fun c25 hF => ?_
 ·
  refine wp_region_todo (is := [0, 2, 3, 4, 1, 5, 6]) [] [4, 6] (by kernel_rfl) hF hS ⟨trivial, by decide, by decide, by decide⟩ (by kernel_rfl) ?_; intro hl_ wd hSd
  refine tp 2 hl_ rfl <| todo_fork [(3, [4, 1, 5, 6]), (1, [3, 4, 5, 6])] hl_ rfl (by kernel_rfl) (List.forall_mem_cons.2 ⟨?_, List.forall_mem_cons.2 ⟨?_, fun _ h_ => nomatch h_⟩⟩)
  ·
   refine op_op rfl rfl (gw0 rfl) rfl rfl rfl (fun a w_ hF hS => r_bslice intEK [vi 1, vi 9998, vi 9999] [1, 9998, 9999] rfl mk26 rfl ⟨rfl, ec, rfl, ec, rfl, ec, trivial⟩ rfl rfl rfl rfl) ?_; intro gl_30
   refine todo_fork [(4, [1, 5, 6]), (1, [4, 5, 6])] hl_ rfl (by kernel_rfl) (List.forall_mem_cons.2 ⟨?_, List.forall_mem_cons.2 ⟨?_, fun _ h_ => nomatch h_⟩⟩)
   ·
    refine op_dw (m' := [6]) (val := fun x : Int => vi x) (R := fun x => x ∈ ([1, 9998, 9999] : List Int)) rfl rfl (gw0 rfl) rfl rfl rfl rfl (fun a w_ hF => r_call2 en85 (hF.ev rfl) (hF.ev rfl)) (fun M_ w_ hS => l1PickInt_c hbs (q := 6) (fun w_ hS => (hS.own_rd (i := 1) rfl)) (by decide) hS rfl) ?_; intro x31 h31; try clear hSd; try clear wd; intro wd hSd
    refine todo_load [5, 6] hl_ (by kernel_rfl) rfl (gw0 rfl) rfl rfl rfl (fun a w_ hF hB_ => r_load1 sc26 (hF.ev rfl) ((hSd.ext hB_).box (i := 4) rfl rfl)) ?_
    obtain ⟨g32, o32, m32, q32, hv32, hm32, hl32, hc32⟩ := Rd.idxF ((hSd.own_rd (i := 2) rfl)) (at0_get (i := (0 : Int)) (by omega) (by omega))
    refine todo_pure hl_ (by kernel_rfl) rfl (gw0 rfl) rfl rfl rfl (fun a w_ hF => r_index sl26 ((hF.ev rfl).trans hv32) ec (by omega) (by first | omega | (simp at hm32; omega))) ?_
    refine todo_fin hl_ rfl (by kernel_rfl) (tl := [_]) rfl ?_; intro a w39 hF hA_
    have hS := hA_.sep; clear hA_
    clear hl_; try clear hSd
    try dsimp only [List.cons_append, List.nil_append, List.set] at hS
    try clear wd
    refine wl_istore (q := 2) hF hS rfl hv32 (by omega) (by omega) sz3 (hF.ev rfl) rfl (hF.ev rfl) fun w40 hS => ?_; dsimp only [List.set] at hS
    refine wl_nil ⟨rfl, ?_⟩
    refine xt ?_
    refine hK6 _ _ <| ws fun K18 hK18 => gb 1 4 hF hS rfl rfl rfl fun a hF => ww 6 hF hS rfl rfl rfl rfl rfl rfl fun w41 hS => wl_nil (hK18 _ _ ?_)
    refine xr ?_
    simp only [List.mem_cons, List.not_mem_nil, or_false] at h31
    exact ret1c rfl ag29 hF hS (i := 6) rfl sz29 rfl ⟨({ x9 with generations := x9.generations.set 0 x31 }, [z0, z1, z2]), ⟨rfl, Good.gens hg9 (by unfold int64; omega)⟩, Sep.part_mk (ek := stateEK) (x := { x9 with generations := x9.generations.set 0 x31 }) (vs := [z0, z1, z2]) (hS.pm 7 [1, 2, 3, 5] rfl) rfl⟩
   ·
    refine op_ld rfl rfl (gw0 rfl) rfl rfl rfl (fun a w_ hF hS => r_load1 sc26 (hF.ev rfl) (hS.box (i := 4) rfl rfl)) <| todo_fork [(4, [5, 6])] hl_ rfl (by kernel_rfl) (List.forall_mem_cons.2 ⟨?_, fun _ h_ => nomatch h_⟩)
    ·
     refine op_dw (m' := [6]) (val := fun x : Int => vi x) (R := fun x => x ∈ ([1, 9998, 9999] : List Int)) rfl rfl (gw0 rfl) rfl rfl rfl rfl (fun a w_ hF => r_call2 en85 (hF.ev rfl) (hF.ev rfl)) (fun M_ w_ hS => l1PickInt_c hbs (q := 6) (fun w_ hS => (hS.own_rd (i := 1) rfl)) (by decide) hS rfl) ?_; intro x31 h31; try clear hSd; try clear wd; intro wd hSd
     obtain ⟨g32, o32, m32, q32, hv32, hm32, hl32, hc32⟩ := Rd.idxF ((hSd.own_rd (i := 2) rfl)) (at0_get (i := (0 : Int)) (by omega) (by omega))
     refine todo_pure hl_ (by kernel_rfl) rfl (gw0 rfl) rfl rfl rfl (fun a w_ hF => r_index sl26 ((hF.ev rfl).trans hv32) ec (by omega) (by first | omega | (simp at hm32; omega))) ?_
     refine todo_fin hl_ rfl (by kernel_rfl) (tl := [_]) rfl ?_; intro a w42 hF hA_
     have hS := hA_.sep; clear hA_
     clear hl_; try clear hSd
     try dsimp only [List.cons_append, List.nil_append, List.set] at hS
     try clear wd
     refine wl_istore (q := 2) hF hS rfl hv32 (by omega) (by omega) sz3 (hF.ev rfl) rfl (hF.ev rfl) fun w43 hS => ?_; dsimp only [List.set] at hS
     refine wl_nil ⟨rfl, ?_⟩
     refine xt ?_
     refine hK6 _ _ <| ws fun K19 hK19 => gb 1 4 hF hS rfl rfl rfl fun a hF => ww 6 hF hS rfl rfl rfl rfl rfl rfl fun w44 hS => wl_nil (hK19 _ _ ?_)
     refine xr ?_
     simp only [List.mem_cons, List.not_mem_nil, or_false] at h31
     exact ret1c rfl ag29 hF hS (i := 6) rfl sz29 rfl ⟨({ x9 with generations := x9.generations.set 0 x31 }, [z0, z1, z2]), ⟨rfl, Good.gens hg9 (by unfold int64; omega)⟩, Sep.part_mk (ek := stateEK) (x := { x9 with generations := x9.generations.set 0 x31 }) (vs := [z0, z1, z2]) (hS.pm 7 [1, 2, 3, 5] rfl) rfl⟩
  ·
   refine op_ld rfl rfl (gw0 rfl) rfl rfl rfl (fun a w_ hF hS => r_load1 sc26 (hF.ev rfl) (hS.box (i := 3) rfl rfl)) ?_
   refine todo_op hl_ rfl (by kernel_rfl) rfl rfl rfl rfl rfl (fun a w_ hF hS => r_bslice intEK [vi 1, vi 9998, vi 9999] [1, 9998, 9999] rfl mk26 rfl ⟨rfl, ec, rfl, ec, rfl, ec, trivial⟩ rfl rfl rfl rfl) ?_; intro gl_30
   refine todo_fork [(4, [5, 6])] hl_ rfl (by kernel_rfl) (List.forall_mem_cons.2 ⟨?_, fun _ h_ => nomatch h_⟩)
   ·
    refine op_dw (m' := [6]) (val := fun x : Int => vi x) (R := fun x => x ∈ ([1, 9998, 9999] : List Int)) rfl rfl (gw0 rfl) rfl rfl rfl rfl (fun a w_ hF => r_call2 en85 (hF.ev rfl) (hF.ev rfl)) (fun M_ w_ hS => l1PickInt_c hbs (q := 6) (fun w_ hS => (hS.own_rd (i := 1) rfl)) (by decide) hS rfl) ?_; intro x31 h31; try clear hSd; try clear wd; intro wd hSd
    obtain ⟨g32, o32, m32, q32, hv32, hm32, hl32, hc32⟩ := Rd.idxF ((hSd.own_rd (i := 2) rfl)) (at0_get (i := (0 : Int)) (by omega) (by omega))
    refine todo_pure hl_ (by kernel_rfl) rfl (gw0 rfl) rfl rfl rfl (fun a w_ hF => r_index sl26 ((hF.ev rfl).trans hv32) ec (by omega) (by first | omega | (simp at hm32; omega))) ?_
    refine todo_fin hl_ rfl (by kernel_rfl) (tl := [_]) rfl ?_; intro a w46 hF hA_
    have hS := hA_.sep; clear hA_
    clear hl_; try clear hSd
    try dsimp only [List.cons_append, List.nil_append, List.set] at hS
    try clear wd
    refine wl_istore (q := 2) hF hS rfl hv32 (by omega) (by omega) sz3 (hF.ev rfl) rfl (hF.ev rfl) fun w47 hS => ?_; dsimp only [List.set] at hS
    refine wl_nil ⟨rfl, ?_⟩
    refine xt ?_
    refine hK6 _ _ <| ws fun K20 hK20 => gb 1 4 hF hS rfl rfl rfl fun a hF => ww 6 hF hS rfl rfl rfl rfl rfl rfl fun w48 hS => wl_nil (hK20 _ _ ?_)
    refine xr ?_
    simp only [List.mem_cons, List.not_mem_nil, or_false] at h31
    exact ret1c rfl ag29 hF hS (i := 6) rfl sz29 rfl ⟨({ x9 with generations := x9.generations.set 0 x31 }, [z0, z1, z2]), ⟨rfl, Good.gens hg9 (by unfold int64; omega)⟩, Sep.part_mk (ek := stateEK) (x := { x9 with generations := x9.generations.set 0 x31 }) (vs := [z0, z1, z2]) (hS.pm 7 [1, 2, 3, 5] rfl) rfl⟩
 refine wp_skip ?_
 refine xt ?_
 refine hK6 _ _ <| ws fun K21 hK21 => gb 1 3 hF hS rfl rfl rfl fun a hF => ww 5 hF hS rfl rfl rfl rfl rfl rfl fun w49 hS => wl_nil (hK21 _ _ ?_)
 refine xr ?_
 exact ret1c rfl ag29 hF hS (i := 5) rfl sz29 rfl ⟨(x9, [z0, z1, z2]), ⟨rfl, Good.drawn hg9⟩, Sep.part_mk (ek := stateEK) (x := x9) (vs := [z0, z1, z2]) (hS.pm 6 [0, 1, 2, 4] rfl) rfl⟩
set_option maxRecDepth 20000
section
variable {P : Program} {a : Act} {w w0 : World} {n : Nat} {L : List (Nat × Value)} {l : List Res}
theorem ret3tct {fn : Func} {t t' t2 T g i : Nat} {cs : List Value} {v' v2 : Value} {R : Value → World → Prop} (hres : fn.results = #[.tmp t', .cell t T, .tmp t2]) (ht : aggB P T = true) (hF : Fr n L a) (hS : Sep w0 l w) (hi : l[i]? = some (Box g cs)) (hs : szB P T = some cs.length) (hl' : lk L t' = some v') (hl : lk L t = some (.pointer (some ⟨g, 0, none⟩))) (hl2 : lk L t2 = some v2) (hR : R (.tuple #[v', .agg cs.toArray, v2]) w) : bodyPost P fn (Ret R) .ret a w := by
 refine ⟨hF.defs, .tuple #[v', .agg cs.toArray, v2], ?_, _, rfl, hR⟩
 have h1 := hF.get _ _ hl
 have h3 := hF.get _ _ hl'
 have h4 := hF.get _ _ hl2
 have h2 := run_loadVar_agg (P := P) (w := w) (g := g) ht hs (fun j u hu => hS.box hi hu)
 simp [results, hres, Array.getD_eq_getD_getElem?, h1, h3, h4, asAddr, h2]
end
theorem l10Draw_c {W : World} {vb : Value} {bs : List Int} (hb : byteEK.Rd W vb bs) (hz : bs.length ≤ 1048576) : Calls Tryz.prog 37 #[vb] W (Ret (Mk W (fun z : {z : Nat × Sl.State × List Slv × Int // Drawn z.2.1 ∧ int64 z.2.2.2} => .tuple #[.pointer (some ⟨z.1.1, 0, none⟩), .agg (stateEK.cells z.1.2.1 z.1.2.2.1).toArray, vi z.1.2.2.2]) (fun z => [Part stateEK z.1.2.1 z.1.2.2.1, Cur z.1.1 vb bs.length]))) := by
 refine cfr Tryz.func37 Tryz.ntmps37 fun a hF => ?_
 have hS := Sep.refl W
 refine ws fun K1 hK1 => ga 1 hF rfl fun a hF => wl_alloc hF hS rfl zr29 fun g1 w1 a hS _ hF => ge hK1 hF rfl fun a hF => ws fun K2 hK2 => ga 1 hF rfl fun a hF => ?_
 refine wl_mk hF hS rfl rfl rfl (r_call1 en53 (hF.ev rfl)) (l1New_c (hS.rd hb) (by omega)) ?_; rintro g8 w2 a hS_ hF; replace hS := hS_; clear hS_; dsimp only [List.cons_append, List.nil_append] at hS
 have hbs := hb
 refine ge hK2 hF rfl fun a hF => ws fun K3 hK3 => ga 1 hF rfl fun a hF => ?_
 refine ck hF rfl (l18Any_h hbs hS) ?_; rintro v w3 a ⟨⟨x10, vs10⟩, ⟨rfl, hg10⟩, hS⟩ hF
 try dsimp only at hz10
 try dsimp only at hg10
 replace hS := hS.pull (p := 0) rfl; dsimp only [List.eraseIdx] at hS
 replace hS : Sep W (Own intEK (sv (vs10.getD 0 (none, 0, 0))) x10.cells :: Own intEK (sv (vs10.getD 1 (none, 0, 0))) x10.generations :: Own threadEK (sv (vs10.getD 2 (none, 0, 0))) x10.threads :: _) _ := hS.part_open
 dsimp only [stateEK] at hS hF
 generalize vs10.getD 0 (none, 0, 0) = z0 at hS hF
 generalize vs10.getD 1 (none, 0, 0) = z1 at hS hF
 generalize vs10.getD 2 (none, 0, 0) = z2 at hS hF
 have hl0_ := hS.own_len (q := 0) rfl
 have hl1_ := hS.own_len (q := 1) rfl
 have hl2_ := hS.own_len (q := 2) rfl
 have hz_ := hg10.sz
 refine wl_alloc hF hS rfl zr29 fun g2 w4 a hS _ hF => ww 0 hF hS rfl rfl rfl rfl rfl rfl fun w5 hS => wl_nil <| hK3 _ _ <| wp_seq_k fun K4 hK4 => ?_
 refine wp_region_todo (is := [0, 2, 3, 4, 5, 6, 7, 1, 8, 9, 10, 11]) [] [7, 10, 11] (by kernel_rfl) hF hS ⟨trivial, by decide, by decide, by decide⟩ (by kernel_rfl) ?_; intro hl_ wd hSd
 refine tp 3 hl_ rfl <| todo_load [5, 6, 7, 8, 9, 10, 11] hl_ (by kernel_rfl) rfl (gw0 rfl) rfl rfl rfl (fun a w_ hF hB_ => r_load1 sc27 (hF.ev rfl) ((hSd.ext hB_).box (i := 0) rfl rfl)) <| tp 2 hl_ rfl <| todo_fork [(7, [1, 8, 9, 10, 11]), (1, [7, 8, 9, 10, 11])] hl_ rfl (by kernel_rfl) (List.forall_mem_cons.2 ⟨?_, List.forall_mem_cons.2 ⟨?_, fun _ h_ => nomatch h_⟩⟩)
 ·
  refine op_dw (m' := [10, 11]) (val := fun x : Int => vi x) (R := fun x => 0 ≤ x ∧ (x < _ ∨ (_ ≤ 0 ∧ x = 0))) rfl rfl (gw0 rfl) rfl rfl rfl rfl (fun a w_ hF => r_call2 en83 (hF.ev rfl) (hF.ev rfl)) (fun M_ w_ hS => l1Below_c hbs (q := 5) _ hS rfl) ?_; intro x18 h18; try clear hSd; try clear wd; intro wd hSd
  refine todo_load [10, 11] hl_ (by kernel_rfl) rfl (gw0 rfl) rfl rfl rfl (fun a w_ hF hB_ => r_loadn ag29 (hF.ev rfl) ((hSd.ext hB_).box_rd (i := 0) rfl) sz29) <| tp 2 hl_ rfl ?_
  refine todo_fin hl_ rfl (by kernel_rfl) (tl := [_, _]) rfl ?_; intro a w6 hF hA_
  have hS := hA_.sep; clear hA_
  clear hl_; try clear hSd
  try dsimp only [List.cons_append, List.nil_append, List.set] at hS
  try clear wd
  refine ww 5 hF hS rfl rfl rfl rfl rfl rfl fun w7 hS => ga 1 hF rfl fun a hF => wl_nil ⟨rfl, ?_⟩
  refine hK4 _ _ ?_
  refine xr ?_
  exact ret3tct rfl ag29 hF hS (i := 5) rfl sz29 rfl rfl rfl ⟨⟨(g8, x10, [z0, z1, z2], _), hg10, int64_wrap _⟩, rfl, Sep.part_mk (ek := stateEK) (x := x10) (vs := [z0, z1, z2]) (Sep.headp (A := [_, _, _, _, _, _]) (B := [_, _, _, _]) (l := []) hS [1, 2, 3, 4] (by decide) rfl rfl) rfl⟩
 ·
  refine op_ld rfl rfl (gw0 rfl) rfl rfl rfl (fun a w_ hF hS => r_loadn ag29 (hF.ev rfl) (hS.box_rd (i := 0) rfl) sz29) <| todo_fork [(7, [8, 9, 10, 11])] hl_ rfl (by kernel_rfl) (List.forall_mem_cons.2 ⟨?_, fun _ h_ => nomatch h_⟩)
  ·
   refine op_dw (m' := [10, 11]) (val := fun x : Int => vi x) (R := fun x => 0 ≤ x ∧ (x < _ ∨ (_ ≤ 0 ∧ x = 0))) rfl rfl (gw0 rfl) rfl rfl rfl rfl (fun a w_ hF => r_call2 en83 (hF.ev rfl) (hF.ev rfl)) (fun M_ w_ hS => l1Below_c hbs (q := 5) _ hS rfl) ?_; intro x18 h18; try clear hSd; try clear wd; intro wd hSd
   refine tp 2 hl_ rfl ?_
   refine todo_fin hl_ rfl (by kernel_rfl) (tl := [_, _]) rfl ?_; intro a w8 hF hA_
   have hS := hA_.sep; clear hA_
   clear hl_; try clear hSd
   try dsimp only [List.cons_append, List.nil_append, List.set] at hS
   try clear wd
   refine ww 5 hF hS rfl rfl rfl rfl rfl rfl fun w9 hS => ga 1 hF rfl fun a hF => wl_nil ⟨rfl, ?_⟩
   refine hK4 _ _ ?_
   refine xr ?_
   exact ret3tct rfl ag29 hF hS (i := 5) rfl sz29 rfl rfl rfl ⟨⟨(g8, x10, [z0, z1, z2], _), hg10, int64_wrap _⟩, rfl, Sep.part_mk (ek := stateEK) (x := x10) (vs := [z0, z1, z2]) (Sep.headp (A := [_, _, _, _, _, _]) (B := [_, _, _, _]) (l := []) hS [1, 2, 3, 4] (by decide) rfl rfl) rfl⟩
set_option maxRecDepth 20000
section
variable {x y : Entry}
theorem entry_ext (h : [x.handle, x.key, x.low, x.high] = [y.handle, y.key, y.low, y.high]) : x = y := by
 cases x; cases y; simpa using h
end
theorem op_ext {x y : Sl.Op} (h : [x.kind, x.key, x.value] = [y.kind, y.key, y.value]) : x = y := by
 cases x; cases y; simpa using h
theorem result_ext {x y : Sl.Result} (h : [x.code, x.value] = [y.code, y.value]) : x = y := by
 cases x; cases y; simpa using h
theorem config_ext {x y : Config} (h : [x.threads, x.keys, x.capacity, x.batch, x.policy, x.clockMax] = [y.threads, y.keys, y.capacity, y.batch, y.policy, y.clockMax]) : x = y := by
 cases x; cases y; simpa using h
theorem thread_eq {x y : Sl.Thread} : x = y ↔ (x.pc = y.pc ∧ [x.op.kind, x.op.key, x.op.value] = [y.op.kind, y.op.key, y.op.value] ∧ [x.result.code, x.result.value] = [y.result.code, y.result.value] ∧ x.snapshot = y.snapshot ∧ x.node = y.node ∧ x.prev = y.prev ∧ x.curr = y.curr ∧ x.next = y.next ∧ x.seen = y.seen ∧ x.stamp = y.stamp ∧ x.at_ = y.at_) ∧ x.found = y.found ∧ x.free = y.free ∧ x.buffer = y.buffer ∧ x.work = y.work ∧ x.limbo = y.limbo := by
 constructor
 · intro e; subst e; simp
 · rintro ⟨⟨h1, h2, h3, h4, h5, h6, h7, h8, h9, h10, h11⟩, g1, g2, g3, g4, g5⟩
   have e1 := op_ext h2
   have e2 := result_ext h3
   cases x; cases y
   simp only [Sl.Thread.mk.injEq]
   exact ⟨h1, e1, e2, h4, h5, h6, h7, h8, h9, h10, h11, g1, g2, g3, g4, g5⟩
theorem state_eq {x y : Sl.State} : x = y ↔ [x.config.threads, x.config.keys, x.config.capacity, x.config.batch, x.config.policy, x.config.clockMax] = [y.config.threads, y.config.keys, y.config.capacity, y.config.batch, y.config.policy, y.config.clockMax] ∧ x.cells = y.cells ∧ x.generations = y.generations ∧ x.steps = y.steps ∧ x.changes = y.changes ∧ x.retries = y.retries ∧ x.faults = y.faults ∧ x.threads = y.threads := by
 constructor
 · intro e; subst e; simp
 · rintro ⟨h1, h2, h3, h4, h5, h6, h7, h8⟩
   have e1 := config_ext h1
   cases x; cases y
   simp only [Sl.State.mk.injEq]
   exact ⟨e1, h2, h3, h8, h4, h5, h6, h7⟩
theorem equalI_c {W : World} {va vb : Value} {xs ys : List Int} (ha : intEK.Rd W va xs) (hb : intEK.Rd W vb ys) : Calls Tryz.prog 51 #[va, vb] W (Ret fun v w' => v = .bool (decide (xs = ys)) ∧ Below W.heap.size W w') := by
 refine cfr Tryz.func51 Tryz.ntmps51 fun a hF => ?_
 obtain ⟨A_a, q_a, rfl, hq_a, hn_a⟩ := ha.sl; unfold maxLen at hn_a
 obtain ⟨A_b, q_b, rfl, hq_b, hn_b⟩ := hb.sl; unfold maxLen at hn_b
 have hS := Sep.refl W
 refine rg hF rfl fun a hF => wp_seq_k fun K2 hK2 => rg hF rfl fun a hF => cx 10 hF rfl (fun c10 hF => ?_) fun c10 hF => ?_
 ·
  refine rg hF rfl fun a hF => ?_
  refine xr ?_
  refine ret1 rfl hF rfl ⟨?_, hS.old⟩
  first | exact eq_len c10 | exact eq_at hx hy c24 | exact eq_all htk hk hlen (by omega)
 refine wp_skip <| hK2 _ _ <| wp_seq_k fun K5 hK5 => rg hF rfl fun a hF => wp_block ?_
 have hL_ := ((((hF.nil.keep hF (t := 12) rfl).keep hF (t := 4) rfl).keep hF (t := 1) rfl).keep hF (t := 0) rfl)
 refine wp_loop_r (σ := Nat) (fun k L_ => (13, vi k) :: L_) (fun k => (k ≤ xs.length) ∧ (xs.length = ys.length) ∧ (xs.take k = ys.take k)) (fun k => xs.length - k) 0 hS (hL_.keepE hF (t := 13) rfl rfl) ?_ ?_
 · exact ⟨Nat.zero_le _, by omega, rfl⟩
 rintro k a w1 ⟨hk, hlen, htk⟩ hS hF; try dsimp only at hF; try dsimp only at hS
 refine rg hF rfl fun a hF => wp_seq_k fun K8 hK8 => cx 14 hF rfl (fun c14 hF => ?_) fun c14 hF => ?_
 ·
  have hlt : k < xs.length := by omega
  have hx := at0_nat hlt
  have hy := at0_nat (xs := ys) (k := k) (by omega)
  refine wp_skip <| hK8 _ _ <| wp_seq_k fun K9 hK9 => wp_block <| rg hF rfl fun a hF => wp_seq_k fun K11 hK11 => wp_region_calm (by kernel_rfl) (by kernel_rfl) ?_
  refine qa 2 hF tk rfl fun a hF => ?_
  obtain ⟨g18, o18, m18, q18, hv18, hm18, hl18, hc18⟩ := Rd.atF (ha) (a := a) (X := .tmp 17) (hF.ev rfl) (by omega) (by omega)
  refine wq hF rfl rfl rfl (fun w_ hB_ => r_index sl26 ((hF.ev rfl).trans hv18) (hF.ev rfl) (by omega) (by first | omega | (simp at hm18; omega))) fun a hF => ?_
  refine wq hF rfl rfl rfl (fun w_ hB_ => r_load1 sc3 (hF.ev rfl) (cellB (hS.ext hB_).old (hc18 0 _ rfl))) fun a hF => qa 2 hF tk rfl fun a hF => ?_
  obtain ⟨g22, o22, m22, q22, hv22, hm22, hl22, hc22⟩ := Rd.atF (hb) (a := a) (X := .tmp 21) (hF.ev rfl) (by omega) (by omega)
  refine wq hF rfl rfl rfl (fun w_ hB_ => r_index sl26 ((hF.ev rfl).trans hv22) (hF.ev rfl) (by omega) (by first | omega | (simp at hm22; omega))) fun a hF => ?_
  refine wq hF rfl rfl rfl (fun w_ hB_ => r_load1 sc3 (hF.ev rfl) (cellB (hS.ext hB_).old (hc22 0 _ rfl))) fun a hF => qa 1 hF tk rfl fun a hF => ?_
  refine wpQuiet_nil ?_; intro w2 hB_; have hS := hS.ext hB_
  refine hK11 _ _ <| cx 24 hF rfl (fun c24 hF => ?_) fun c24 hF => ?_
  ·
   refine rg hF rfl fun a hF => ?_
   refine xr ?_
   refine ret1 rfl hF rfl ⟨?_, hS.old⟩
   first | exact eq_len c10 | exact eq_at hx hy c24 | exact eq_all htk hk hlen (by omega)
  refine wp_skip ?_
  refine xt ?_
  refine hK9 _ _ <| rl hF rfl fun a hF => ?_
  refine xt ?_
  refine ⟨k + 1, ⟨by omega, hlen, take_next htk hx hy c24⟩, hS, (((((hF.nil.keep hF (t := 12) rfl).keep hF (t := 4) rfl).keep hF (t := 1) rfl).keep hF (t := 0) rfl).keepE hF (t := 13) rfl (wk (by omega))), by omega⟩
 refine wp_exit ?_
 refine xt ?_
 refine hK5 _ _ <| rg hF rfl fun a hF => ?_
 refine xr ?_
 refine ret1 rfl hF rfl ⟨?_, hS.old⟩
 first | exact eq_len c10 | exact eq_at hx hy c24 | exact eq_all htk hk hlen (by omega)
theorem equalN_c {W : World} {va vb : Value} {xs ys : List Entry} (ha : entryEK.Rd W va xs) (hb : entryEK.Rd W vb ys) : Calls Tryz.prog 81 #[va, vb] W (Ret fun v w' => v = .bool (decide (xs = ys)) ∧ Below W.heap.size W w') := by
 refine cfr Tryz.func81 Tryz.ntmps81 fun a hF => ?_
 obtain ⟨A_a, q_a, rfl, hq_a, hn_a⟩ := ha.sl; unfold maxLen at hn_a
 obtain ⟨A_b, q_b, rfl, hq_b, hn_b⟩ := hb.sl; unfold maxLen at hn_b
 have hS := Sep.refl W
 refine rg hF rfl fun a hF => wp_seq_k fun K2 hK2 => rg hF rfl fun a hF => cx 10 hF rfl (fun c10 hF => ?_) fun c10 hF => ?_
 ·
  refine rg hF rfl fun a hF => ?_
  refine xr ?_
  refine ret1 rfl hF rfl ⟨?_, hS.old⟩
  first | exact eq_len c10 | exact eq_at hx hy c24 | exact eq_all htk hk hlen (by omega)
 refine wp_skip <| hK2 _ _ <| wp_seq_k fun K5 hK5 => rg hF rfl fun a hF => wp_block ?_
 have hL_ := ((((hF.nil.keep hF (t := 12) rfl).keep hF (t := 4) rfl).keep hF (t := 1) rfl).keep hF (t := 0) rfl)
 refine wp_loop_r (σ := Nat) (fun k L_ => (13, vi k) :: L_) (fun k => (k ≤ xs.length) ∧ (xs.length = ys.length) ∧ (xs.take k = ys.take k)) (fun k => xs.length - k) 0 hS (hL_.keepE hF (t := 13) rfl rfl) ?_ ?_
 · exact ⟨Nat.zero_le _, by omega, rfl⟩
 rintro k a w1 ⟨hk, hlen, htk⟩ hS hF; try dsimp only at hF; try dsimp only at hS
 refine rg hF rfl fun a hF => wp_seq_k fun K8 hK8 => cx 14 hF rfl (fun c14 hF => ?_) fun c14 hF => ?_
 ·
  have hlt : k < xs.length := by omega
  have hx := at0_nat hlt
  have hy := at0_nat (xs := ys) (k := k) (by omega)
  refine wp_skip <| hK8 _ _ <| wp_seq_k fun K9 hK9 => wp_block <| rg hF rfl fun a hF => wp_seq_k fun K11 hK11 => wp_region_calm (by kernel_rfl) (by kernel_rfl) ?_
  refine qa 2 hF tk rfl fun a hF => ?_
  obtain ⟨g18, o18, m18, q18, hv18, hm18, hl18, hc18⟩ := Rd.atF (ha) (a := a) (X := .tmp 17) (hF.ev rfl) (by omega) (by omega)
  refine wq hF rfl rfl rfl (fun w_ hB_ => r_index sl40 ((hF.ev rfl).trans hv18) (hF.ev rfl) (by omega) (by first | omega | (simp at hm18; omega))) fun a hF => ?_
  refine wq hF rfl rfl rfl (fun w_ hB_ => r_loadn ag83 (hF.ev rfl) (fun j_ u_ hu_ => cellB (hS.ext hB_).old (hc18 j_ u_ hu_)) sz83) fun a hF => qa 2 hF tk rfl fun a hF => ?_
  obtain ⟨g22, o22, m22, q22, hv22, hm22, hl22, hc22⟩ := Rd.atF (hb) (a := a) (X := .tmp 21) (hF.ev rfl) (by omega) (by omega)
  refine wq hF rfl rfl rfl (fun w_ hB_ => r_index sl40 ((hF.ev rfl).trans hv22) (hF.ev rfl) (by omega) (by first | omega | (simp at hm22; omega))) fun a hF => ?_
  refine wq hF rfl rfl rfl (fun w_ hB_ => r_loadn ag83 (hF.ev rfl) (fun j_ u_ hu_ => cellB (hS.ext hB_).old (hc22 j_ u_ hu_)) sz83) fun a hF => wq hF rfl rfl rfl (fun w_ hB_ => r_neqF [_, _, _, _] [_, _, _, _] fl83 ag83 eg83 rfl rfl ((hF.ev rfl).trans rfl) ((hF.ev rfl).trans rfl)) fun a hF => ?_
  refine wpQuiet_nil ?_; intro w2 hB_; have hS := hS.ext hB_
  refine hK11 _ _ <| cx 24 hF rfl (fun c24 hF => ?_) fun c24 hF => ?_
  ·
   have c24 : ¬ at0 xs (k : Int) = at0 ys (k : Int) := fun e => c24 (by rw [e])
   refine rg hF rfl fun a hF => ?_
   refine xr ?_
   refine ret1 rfl hF rfl ⟨?_, hS.old⟩
   first | exact eq_len c10 | exact eq_at hx hy c24 | exact eq_all htk hk hlen (by omega)
  replace c24 := entry_ext c24
  refine wp_skip ?_
  refine xt ?_
  refine hK9 _ _ <| rl hF rfl fun a hF => ?_
  refine xt ?_
  refine ⟨k + 1, ⟨by omega, hlen, take_next htk hx hy c24⟩, hS, (((((hF.nil.keep hF (t := 12) rfl).keep hF (t := 4) rfl).keep hF (t := 1) rfl).keep hF (t := 0) rfl).keepE hF (t := 13) rfl (wk (by omega))), by omega⟩
 refine wp_exit ?_
 refine xt ?_
 refine hK5 _ _ <| rg hF rfl fun a hF => ?_
 refine xr ?_
 refine ret1 rfl hF rfl ⟨?_, hS.old⟩
 first | exact eq_len c10 | exact eq_at hx hy c24 | exact eq_all htk hk hlen (by omega)
theorem implEqThread_c {W : World} {x y : Sl.Thread} {cs ds : List Value} (hx : threadEK.K W x cs) (hy : threadEK.K W y ds) : Calls Tryz.prog 33 #[.agg cs.toArray, .agg ds.toArray] W (Ret fun v w' => v = .bool (decide (x = y)) ∧ Below W.heap.size W w') := by
 refine cfr Tryz.func33 Tryz.ntmps33 fun a hF => ?_
 obtain ⟨v0, v1, v2, v3, v4, rfl, r0, r1, r2, r3, r4⟩ := hx
 obtain ⟨u0, u1, u2, u3, u4, rfl, q0, q1, q2, q3, q4⟩ := hy
 have hS := Sep.refl W
 refine ws fun K1 hK1 => wl_box (cs := [_, _, _, _, _, _, _, _, _, _, _, _, _, _, _, _, _, _, _]) hF hS rfl (hF.ev rfl) rfl fun g1 w1 a hS _ hF => wl_box (cs := [_, _, _, _, _, _, _, _, _, _, _, _, _, _, _, _, _, _, _]) hF hS rfl (hF.ev rfl) rfl fun g2 w2 a hS _ hF => ge hK1 hF rfl fun a hF => wp_seq_k fun K2 hK2 => ws fun K3 hK3 => gb 3 1 hF hS rfl rfl rfl fun a hF => ?_
 refine gb 1 0 hF hS rfl rfl rfl fun a hF => ckr hF hS rfl (equalI_c (hS.rd r0) (hS.rd q0)) fun w3 a hS hF => ga 2 hF rfl fun a hF => ?_
 apply wo 7 11 18 hF hS
 ·
  intro hg11 a hF
  refine gb 3 1 hF hS rfl rfl rfl fun a hF => wl_take hF rfl rfl rfl rfl <| gb 1 0 hF hS rfl rfl rfl fun a hF => ckr hF hS rfl (equalI_c (hS.rd r1) (hS.rd q1)) fun w4 a hS hF => ?_
  exact je 7 hF hS rfl rfl rfl rfl
 intro a w5 hF hS
 refine ga 1 hF rfl fun a hF => ?_
 apply wo 7 19 26 hF hS
 ·
  intro hg19 a hF
  refine gb 3 1 hF hS rfl rfl rfl fun a hF => wl_take hF rfl rfl rfl rfl <| gb 1 0 hF hS rfl rfl rfl fun a hF => ckr hF hS rfl (equalN_c (hS.rd r2) (hS.rd q2)) fun w6 a hS hF => ?_
  exact je 7 hF hS rfl rfl rfl rfl
 intro a w7 hF hS
 refine ga 1 hF rfl fun a hF => ?_
 apply wo 7 27 34 hF hS
 ·
  intro hg27 a hF
  refine gb 3 1 hF hS rfl rfl rfl fun a hF => wl_take hF rfl rfl rfl rfl <| gb 1 0 hF hS rfl rfl rfl fun a hF => ckr hF hS rfl (equalN_c (hS.rd r3) (hS.rd q3)) fun w8 a hS hF => ?_
  exact je 7 hF hS rfl rfl rfl rfl
 intro a w9 hF hS
 refine ga 1 hF rfl fun a hF => ?_
 apply wo 7 35 42 hF hS
 ·
  intro hg35 a hF
  refine gb 3 1 hF hS rfl rfl rfl fun a hF => wl_take hF rfl rfl rfl rfl <| gb 1 0 hF hS rfl rfl rfl fun a hF => ckr hF hS rfl (equalI_c (hS.rd r4) (hS.rd q4)) fun w10 a hS hF => ?_
  exact je 7 hF hS rfl rfl rfl rfl
 intro a w11 hF hS
 refine wl_nil <| hK3 _ _ <| cx 42 hF rfl (fun c42 hF => ?_) fun c42 hF => ?_
 ·
  refine rg hF rfl fun a hF => ?_
  refine xr ?_
  refine ret1 rfl hF rfl ⟨congrArg Value.bool (Eq.symm ?_), hS.old⟩
  first
    | exact decide_eq_false fun e => by subst e; simp at c42
    | (rw [Bool.eq_iff_iff]; simp only [zb3, zb4, zb7, and_assoc] at c42 ⊢; rw [thread_eq]; exact ⟨fun h => h.1, fun h => ⟨h, c42⟩⟩)
 refine wp_skip <| hK2 _ _ <| ws fun K5 hK5 => gb 3 1 hF hS rfl rfl rfl fun a hF => gb 3 0 hF hS rfl rfl rfl fun a hF => ?_
 apply wa 6 48 54 hF hS
 ·
  intro hg48 a hF
  refine ga 1 hF rfl fun a hF => wl_take hF rfl rfl rfl rfl <| wl hF rfl rfl rfl (r_loadn ag31 (hF.ev rfl) (hS.boxn (vs := [_, _, _]) (i := 1) (m := 3) rfl rfl) sz31) fun a hF => ga 1 hF rfl fun a hF => wl_take hF rfl rfl rfl rfl <| wl hF rfl rfl rfl (r_loadn ag31 (hF.ev rfl) (hS.boxn (vs := [_, _, _]) (i := 0) (m := 3) rfl rfl) sz31) fun a hF => wl_take hF rfl rfl rfl rfl ?_
  refine wl hF rfl rfl rfl (r_eqlF [_, _, _] [_, _, _] fl31 ag31 eg31 rfl rfl ((hF.ev rfl).trans rfl) ((hF.ev rfl).trans rfl)) fun a hF => ?_
  exact je 6 hF hS rfl rfl rfl rfl
 intro a w12 hF hS
 refine ga 1 hF rfl fun a hF => ?_
 apply wa 6 55 61 hF hS
 ·
  intro hg55 a hF
  refine ga 1 hF rfl fun a hF => wl_take hF rfl rfl rfl rfl <| wl hF rfl rfl rfl (r_loadn ag39 (hF.ev rfl) (hS.boxn (vs := [_, _]) (i := 1) (m := 2) rfl rfl) sz39) fun a hF => ga 1 hF rfl fun a hF => wl_take hF rfl rfl rfl rfl <| wl hF rfl rfl rfl (r_loadn ag39 (hF.ev rfl) (hS.boxn (vs := [_, _]) (i := 0) (m := 2) rfl rfl) sz39) fun a hF => wl_take hF rfl rfl rfl rfl ?_
  refine wl hF rfl rfl rfl (r_eqlF [_, _] [_, _] fl39 ag39 eg39 rfl rfl ((hF.ev rfl).trans rfl) ((hF.ev rfl).trans rfl)) fun a hF => ?_
  exact je 6 hF hS rfl rfl rfl rfl
 intro a w13 hF hS
 refine ga 1 hF rfl fun a hF => ?_
 apply wa 6 62 68 hF hS
 ·
  intro hg62 a hF
  refine gb 3 1 hF hS rfl rfl rfl fun a hF => wl_take hF rfl rfl rfl rfl ?_
  exact jf 6 0 hF hS rfl rfl rfl rfl rfl rfl
 intro a w14 hF hS
 refine ga 1 hF rfl fun a hF => ?_
 apply wa 6 69 75 hF hS
 ·
  intro hg69 a hF
  refine gb 3 1 hF hS rfl rfl rfl fun a hF => wl_take hF rfl rfl rfl rfl ?_
  exact jf 6 0 hF hS rfl rfl rfl rfl rfl rfl
 intro a w15 hF hS
 refine ga 1 hF rfl fun a hF => ?_
 apply wa 6 76 82 hF hS
 ·
  intro hg76 a hF
  refine gb 3 1 hF hS rfl rfl rfl fun a hF => wl_take hF rfl rfl rfl rfl ?_
  exact jf 6 0 hF hS rfl rfl rfl rfl rfl rfl
 intro a w16 hF hS
 refine ga 1 hF rfl fun a hF => ?_
 apply wa 6 83 89 hF hS
 ·
  intro hg83 a hF
  refine gb 3 1 hF hS rfl rfl rfl fun a hF => wl_take hF rfl rfl rfl rfl ?_
  exact jf 6 0 hF hS rfl rfl rfl rfl rfl rfl
 intro a w17 hF hS
 refine ga 1 hF rfl fun a hF => ?_
 apply wa 6 90 96 hF hS
 ·
  intro hg90 a hF
  refine gb 3 1 hF hS rfl rfl rfl fun a hF => wl_take hF rfl rfl rfl rfl ?_
  exact jf 6 0 hF hS rfl rfl rfl rfl rfl rfl
 intro a w18 hF hS
 refine ga 1 hF rfl fun a hF => ?_
 apply wa 6 97 103 hF hS
 ·
  intro hg97 a hF
  refine gb 3 1 hF hS rfl rfl rfl fun a hF => wl_take hF rfl rfl rfl rfl ?_
  exact jf 6 0 hF hS rfl rfl rfl rfl rfl rfl
 intro a w19 hF hS
 refine ga 1 hF rfl fun a hF => ?_
 apply wa 6 104 110 hF hS
 ·
  intro hg104 a hF
  refine gb 3 1 hF hS rfl rfl rfl fun a hF => wl_take hF rfl rfl rfl rfl ?_
  exact jf 6 0 hF hS rfl rfl rfl rfl rfl rfl
 intro a w20 hF hS
 refine ga 1 hF rfl fun a hF => ?_
 apply wa 6 111 117 hF hS
 ·
  intro hg111 a hF
  refine gb 3 1 hF hS rfl rfl rfl fun a hF => wl_take hF rfl rfl rfl rfl ?_
  exact jf 6 0 hF hS rfl rfl rfl rfl rfl rfl
 intro a w21 hF hS
 refine ge hK5 hF rfl fun a hF => ?_
 refine xr ?_
 refine ret1 rfl hF rfl ⟨congrArg Value.bool (Eq.symm ?_), hS.old⟩
 first
   | exact decide_eq_false fun e => by subst e; simp at c42
   | (rw [Bool.eq_iff_iff]; simp only [zb3, zb4, zb7, and_assoc] at c42 ⊢; rw [thread_eq]; exact ⟨fun h => h.1, fun h => ⟨h, c42⟩⟩)
theorem equalFuncT_c {W : World} {va vb : Value} {xs ys : List Sl.Thread} (ha : threadEK.Rd W va xs) (hb : threadEK.Rd W vb ys) : Calls Tryz.prog 52 #[va, vb, .func (.func 33) #[] #[]] W (Ret fun v w' => v = .bool (decide (xs = ys)) ∧ Below W.heap.size W w') := by
 refine cfr Tryz.func52 Tryz.ntmps52 fun a hF => ?_
 obtain ⟨A_a, q_a, rfl, hq_a, hn_a⟩ := ha.sl; unfold maxLen at hn_a
 obtain ⟨A_b, q_b, rfl, hq_b, hn_b⟩ := hb.sl; unfold maxLen at hn_b
 have hS := Sep.refl W
 refine rg hF rfl fun a hF => wp_seq_k fun K2 hK2 => rg hF rfl fun a hF => cx 14 hF rfl (fun c14 hF => ?_) fun c14 hF => ?_
 ·
  refine rg hF rfl fun a hF => ?_
  refine xr ?_
  refine ret1 rfl hF rfl ⟨?_, hS.old⟩
  first | exact eq_len c14 | exact eq_at hx hy c30 | exact eq_all htk hk hlen (by omega)
 refine wp_skip <| hK2 _ _ <| wp_seq_k fun K5 hK5 => rg hF rfl fun a hF => wp_block ?_
 have hL_ := (((((hF.nil.keep hF (t := 16) rfl).keep hF (t := 15) rfl).keep hF (t := 6) rfl).keep hF (t := 2) rfl).keep hF (t := 1) rfl)
 refine wp_loop_r (σ := Nat) (fun k L_ => (17, vi k) :: L_) (fun k => (k ≤ xs.length) ∧ (xs.length = ys.length) ∧ (xs.take k = ys.take k)) (fun k => xs.length - k) 0 hS (hL_.keepE hF (t := 17) rfl rfl) ?_ ?_
 · exact ⟨Nat.zero_le _, by omega, rfl⟩
 rintro k a w1 ⟨hk, hlen, htk⟩ hS hF; try dsimp only at hF; try dsimp only at hS
 refine rg hF rfl fun a hF => wp_seq_k fun K8 hK8 => cx 18 hF rfl (fun c18 hF => ?_) fun c18 hF => ?_
 ·
  have hlt : k < xs.length := by omega
  have hx := at0_nat hlt
  have hy := at0_nat (xs := ys) (k := k) (by omega)
  refine wp_skip <| hK8 _ _ <| wp_seq_k fun K9 hK9 => wp_block <| ws fun K10 hK10 => ga 1 hF rfl fun a hF => ?_
  obtain ⟨g20, o20, m20, q20, cs20, hv20, hm20, hl20, hk20, hz20, hc20⟩ := Rd.at (ha) (a := a) (X := .tmp 17) (hF.ev rfl) (by omega) (by omega)
  have hkk20 := hk20; obtain ⟨v20_0, v20_1, v20_2, v20_3, v20_4, rfl, r20_0, r20_1, r20_2, r20_3, r20_4⟩ := hk20
  obtain ⟨A20_0, q20_0, rfl, hq20_0, hn20_0⟩ := r20_0.sl; unfold maxLen at hn20_0
  obtain ⟨A20_1, q20_1, rfl, hq20_1, hn20_1⟩ := r20_1.sl; unfold maxLen at hn20_1
  obtain ⟨A20_2, q20_2, rfl, hq20_2, hn20_2⟩ := r20_2.sl; unfold maxLen at hn20_2
  obtain ⟨A20_3, q20_3, rfl, hq20_3, hn20_3⟩ := r20_3.sl; unfold maxLen at hn20_3
  obtain ⟨A20_4, q20_4, rfl, hq20_4, hn20_4⟩ := r20_4.sl; unfold maxLen at hn20_4
  refine wl hF rfl rfl rfl (r_index sl27 ((hF.ev rfl).trans hv20) (hF.ev rfl) (by omega) (by first | omega | (simp at hm20; omega))) fun a hF => ?_
  refine wl hF rfl rfl rfl (r_loadn ag42 (hF.ev rfl) (fun j_ u_ hu_ => cellB hS.old (hc20 j_ u_ hu_)) sz42) fun a hF => wl_alloc hF hS rfl zr42 fun g1 w2 a hS _ hF => ga 1 hF rfl fun a hF => ww 0 hF hS rfl rfl rfl rfl rfl rfl fun w3 hS => wl_nil <| hK10 _ _ <| ws fun K11 hK11 => ga 2 hF rfl fun a hF => ?_
  obtain ⟨g24, o24, m24, q24, cs24, hv24, hm24, hl24, hk24, hz24, hc24⟩ := Rd.at (hb) (a := a) (X := .tmp 23) (hF.ev rfl) (by omega) (by omega)
  have hkk24 := hk24; obtain ⟨v24_0, v24_1, v24_2, v24_3, v24_4, rfl, r24_0, r24_1, r24_2, r24_3, r24_4⟩ := hk24
  obtain ⟨A24_0, q24_0, rfl, hq24_0, hn24_0⟩ := r24_0.sl; unfold maxLen at hn24_0
  obtain ⟨A24_1, q24_1, rfl, hq24_1, hn24_1⟩ := r24_1.sl; unfold maxLen at hn24_1
  obtain ⟨A24_2, q24_2, rfl, hq24_2, hn24_2⟩ := r24_2.sl; unfold maxLen at hn24_2
  obtain ⟨A24_3, q24_3, rfl, hq24_3, hn24_3⟩ := r24_3.sl; unfold maxLen at hn24_3
  obtain ⟨A24_4, q24_4, rfl, hq24_4, hn24_4⟩ := r24_4.sl; unfold maxLen at hn24_4
  refine wl hF rfl rfl rfl (r_index sl27 ((hF.ev rfl).trans hv24) (hF.ev rfl) (by omega) (by first | omega | (simp at hm24; omega))) fun a hF => ?_
  refine wl hF rfl rfl rfl (r_loadn ag42 (hF.ev rfl) (fun j_ u_ hu_ => cellB hS.old (hc24 j_ u_ hu_)) sz42) fun a hF => wl_alloc hF hS rfl zr42 fun g2 w4 a hS _ hF => ww 0 hF hS rfl rfl rfl rfl rfl rfl fun w5 hS => wl_nil <| hK11 _ _ <| ws fun K12 hK12 => gb 2 1 hF hS rfl rfl rfl fun a hF => gb 1 0 hF hS rfl rfl rfl fun a hF => ?_
  refine wl_call hF rfl rfl rfl (r_callw2 en33 (hF.ev rfl) (hF.ev rfl) (hF.ev rfl)) (implEqThread_c (hS.k hkk20) (hS.k hkk24)) ?_; rintro v w6 a ⟨rfl, hB_⟩ hF; have hS := hS.ext hB_
  refine ge hK12 hF rfl fun a hF => cx 30 hF rfl (fun c30 hF => ?_) fun c30 hF => ?_
  ·
   refine rg hF rfl fun a hF => ?_
   refine xr ?_
   refine ret1 rfl hF rfl ⟨?_, hS.old⟩
   first | exact eq_len c14 | exact eq_at hx hy c30 | exact eq_all htk hk hlen (by omega)
  refine wp_skip ?_
  refine xt ?_
  refine hK9 _ _ <| rl hF rfl fun a hF => ?_
  refine xt ?_
  refine ⟨k + 1, ⟨by omega, hlen, take_next htk hx hy c30⟩, (hS.pick [] (by decide) rfl), ((((((hF.nil.keep hF (t := 16) rfl).keep hF (t := 15) rfl).keep hF (t := 6) rfl).keep hF (t := 2) rfl).keep hF (t := 1) rfl).keepE hF (t := 17) rfl (wk (by omega))), by omega⟩
 refine wp_exit ?_
 refine xt ?_
 refine hK5 _ _ <| rg hF rfl fun a hF => ?_
 refine xr ?_
 refine ret1 rfl hF rfl ⟨?_, hS.old⟩
 first | exact eq_len c14 | exact eq_at hx hy c30 | exact eq_all htk hk hlen (by omega)
theorem implEqState_c {W : World} {x y : Sl.State} {cs ds : List Value} (hx : stateEK.K W x cs) (hy : stateEK.K W y ds) : Calls Tryz.prog 12 #[.agg cs.toArray, .agg ds.toArray] W (Ret fun v w' => v = .bool (decide (x = y)) ∧ Below W.heap.size W w') := by
 refine cfr Tryz.func12 Tryz.ntmps12 fun a hF => ?_
 obtain ⟨v0, v1, v2, rfl, r0, r1, r2⟩ := hx
 obtain ⟨u0, u1, u2, rfl, q0, q1, q2⟩ := hy
 obtain ⟨A_a, q_a, rfl, hq_a, hn_a⟩ := r0.sl; unfold maxLen at hn_a
 obtain ⟨A_b, q_b, rfl, hq_b, hn_b⟩ := r1.sl; unfold maxLen at hn_b
 obtain ⟨A_c, q_c, rfl, hq_c, hn_c⟩ := r2.sl; unfold maxLen at hn_c
 obtain ⟨A_d, q_d, rfl, hq_d, hn_d⟩ := q0.sl; unfold maxLen at hn_d
 obtain ⟨A_e, q_e, rfl, hq_e, hn_e⟩ := q1.sl; unfold maxLen at hn_e
 obtain ⟨A_f, q_f, rfl, hq_f, hn_f⟩ := q2.sl; unfold maxLen at hn_f
 have hS := Sep.refl W
 refine ws fun K1 hK1 => wl_box (cs := [_, _, _, _, _, _, _, _, _, _, _, _, _]) hF hS rfl (hF.ev rfl) rfl fun g1 w1 a hS _ hF => wl_box (cs := [_, _, _, _, _, _, _, _, _, _, _, _, _]) hF hS rfl (hF.ev rfl) rfl fun g2 w2 a hS _ hF => ge hK1 hF rfl fun a hF => ws fun K2 hK2 => ga 1 hF rfl fun a hF => wl hF rfl rfl rfl (r_loadn ag25 (hF.ev rfl) (hS.boxn (vs := [_, _, _, _, _, _]) (i := 1) (m := 6) rfl rfl) sz25) fun a hF => ?_
 refine ga 1 hF rfl fun a hF => wl hF rfl rfl rfl (r_loadn ag25 (hF.ev rfl) (hS.boxn (vs := [_, _, _, _, _, _]) (i := 0) (m := 6) rfl rfl) sz25) fun a hF => wl hF rfl rfl rfl (r_eqlF [_, _, _, _, _, _] [_, _, _, _, _, _] fl25 ag25 eg25 rfl rfl ((hF.ev rfl).trans rfl) ((hF.ev rfl).trans rfl)) fun a hF => ga 1 hF rfl fun a hF => ?_
 apply wa 6 10 16 hF hS
 ·
  intro hg10 a hF
  refine gb 3 1 hF hS rfl rfl rfl fun a hF => wl_take hF rfl rfl rfl rfl <| gb 1 0 hF hS rfl rfl rfl fun a hF => ckr hF hS rfl (equalI_c (hS.rd r0) (hS.rd q0)) fun w3 a hS hF => ?_
  exact je 6 hF hS rfl rfl rfl rfl
 intro a w4 hF hS
 refine ga 1 hF rfl fun a hF => ?_
 apply wa 6 17 23 hF hS
 ·
  intro hg17 a hF
  refine gb 3 1 hF hS rfl rfl rfl fun a hF => wl_take hF rfl rfl rfl rfl <| gb 1 0 hF hS rfl rfl rfl fun a hF => ckr hF hS rfl (equalI_c (hS.rd r1) (hS.rd q1)) fun w5 a hS hF => ?_
  exact je 6 hF hS rfl rfl rfl rfl
 intro a w6 hF hS
 refine ga 1 hF rfl fun a hF => ?_
 apply wa 6 24 30 hF hS
 ·
  intro hg24 a hF
  refine gb 3 1 hF hS rfl rfl rfl fun a hF => wl_take hF rfl rfl rfl rfl <| gb 1 0 hF hS rfl rfl rfl fun a hF => wl_take hF rfl rfl rfl rfl ?_
  refine wl_call hF rfl rfl rfl (r_call3 en52 (hF.ev rfl) (hF.ev rfl) ef) (equalFuncT_c (hS.rd r2) (hS.rd q2)) ?_; rintro v w7 a ⟨rfl, hB_⟩ hF; have hS := hS.ext hB_
  exact je 6 hF hS rfl rfl rfl rfl
 intro a w8 hF hS
 refine ga 1 hF rfl fun a hF => ?_
 apply wa 6 31 37 hF hS
 ·
  intro hg31 a hF
  refine gb 3 1 hF hS rfl rfl rfl fun a hF => wl_take hF rfl rfl rfl rfl ?_
  exact jf 6 0 hF hS rfl rfl rfl rfl rfl rfl
 intro a w9 hF hS
 refine ga 1 hF rfl fun a hF => ?_
 apply wa 6 38 44 hF hS
 ·
  intro hg38 a hF
  refine gb 3 1 hF hS rfl rfl rfl fun a hF => wl_take hF rfl rfl rfl rfl ?_
  exact jf 6 0 hF hS rfl rfl rfl rfl rfl rfl
 intro a w10 hF hS
 refine ga 1 hF rfl fun a hF => ?_
 apply wa 6 45 51 hF hS
 ·
  intro hg45 a hF
  refine gb 3 1 hF hS rfl rfl rfl fun a hF => wl_take hF rfl rfl rfl rfl ?_
  exact jf 6 0 hF hS rfl rfl rfl rfl rfl rfl
 intro a w11 hF hS
 refine ga 1 hF rfl fun a hF => ?_
 apply wa 6 52 58 hF hS
 ·
  intro hg52 a hF
  refine gb 3 1 hF hS rfl rfl rfl fun a hF => wl_take hF rfl rfl rfl rfl ?_
  exact jf 6 0 hF hS rfl rfl rfl rfl rfl rfl
 intro a w12 hF hS
 refine ge hK2 hF rfl fun a hF => ?_
 refine xr ?_
 refine ret1 rfl hF rfl ⟨congrArg Value.bool (Eq.symm ?_), hS.old⟩
 rw [Bool.eq_iff_iff]; simp only [zb3, zb4, zb7, and_assoc]; rw [state_eq]
 exact ⟨fun ⟨h1, h2, h3, h4, h5, h6, h7, h8⟩ => ⟨h1, h2, h3, h8, h4, h5, h6, h7⟩, fun ⟨h1, h2, h3, h8, h4, h5, h6, h7⟩ => ⟨h1, h2, h3, h4, h5, h6, h7, h8⟩⟩
theorem big_c {W : World} {vb : Value} {bs : List Int} (hb : byteEK.Rd W vb bs) : Calls Tryz.prog 7 #[vb] W (Ret fun v w' => v = .bool (decide (1048576 < bs.length)) ∧ Below W.heap.size W w') := by
 refine cfr Tryz.func7 Tryz.ntmps7 fun a hF => ?_
 have hS := Sep.refl W
 obtain ⟨A_b, q_b, rfl, hq_b, hn_b⟩ := hb.sl; unfold maxLen at hn_b
 refine rg hF rfl fun a hF => rg hF rfl fun a hF => ?_
 refine xr ?_
 refine ret1 rfl hF rfl ⟨congrArg Value.bool (decide_eq_decide.2 (by omega)), hS.old⟩
set_option maxRecDepth 20000
theorem begin_steps (s : Sl.State) (t : Sl.Thread) (p : Int) : beginS (stepped s) t p = (stepped (beginS s t p).1, (beginS s t p).2) := by
 unfold beginS
 repeat' split
 all_goals first | rfl | (exfalso; simp_all [stepped]; done)
theorem implIsBegin_c {W : World} {n : Int} : Calls Tryz.prog 63 #[vi n] W (Ret fun v w' => v = .bool (isB n) ∧ Below W.heap.size W w') := by
 refine cfr Tryz.func63 Tryz.ntmps63 fun a hF => ?_
 have hS := Sep.refl W
 refine rg hF rfl fun a hF => ws fun K2 hK2 => ga 1 hF rfl fun a hF => ckr hF hS rfl (in_c _ _ _) fun w1 a hS hF => ge hK2 hF rfl fun a hF => ?_
 refine xr ?_
 exact ret1 rfl hF rfl ⟨rfl, hS.old⟩
theorem stpBegin_c {W w : World} {l : List Res} {g gt ot mt ct p : Nat} {z0 z1 : Slv} {s : Sl.State} {t : Sl.Thread} (hp : p < s.threads.length) (hf : Fit s t) (hS : Sep W (Box g ((s).encv (sv z0) (sv z1) (.slice (some ⟨gt, ot, none⟩) mt ct)) :: Own intEK (sv z0) (s).cells :: Own intEK (sv z1) (s).generations :: Own threadEK (.slice (some ⟨gt, ot, none⟩) mt ct) (s.threads.set p t) :: l) w) : Calls Tryz.prog 64 #[.agg #[.pointer (some ⟨g, 0, none⟩), .pointer (some ⟨gt, ot + p * 19, none⟩), vi (p : Int)]] w (Ret fun v w' => v = .tuple #[] ∧ Sep W (Box g (((beginS s t (p : Int)).1).encv (sv z0) (sv z1) (.slice (some ⟨gt, ot, none⟩) mt ct)) :: Own intEK (sv z0) ((beginS s t (p : Int)).1).cells :: Own intEK (sv z1) ((beginS s t (p : Int)).1).generations :: Own threadEK (.slice (some ⟨gt, ot, none⟩) mt ct) (s.threads.set p (beginS s t (p : Int)).2) :: l) w') := by
 refine cfr Tryz.func64 Tryz.ntmps64 fun a hF => ?_
 have hl0 := hS.own_len (q := 1) rfl
 have hl1 := hS.own_len (q := 2) rfl
 have hmt : mt = s.threads.length := by have := hS.own_len (q := 3) (s := (some ⟨gt, ot, none⟩, mt, ct)) rfl; simpa using this
 have hlc := hf.two
 refine ws fun K1 hK1 => wl_box (cs := [_, _, _]) hF hS rfl (hF.ev rfl) rfl fun g1 w1 a hS _ hF => wl_nil <| hK1 _ _ <| wp_seq_k fun K2 hK2 => wp_region_calm (by kernel_rfl) (by kernel_rfl) <| qb 6 0 hF tk hS rfl rfl rfl fun a hF => wq hF rfl rfl rfl (fun w_ hB_ => r_loadn ag25 (hF.ev rfl) ((hS.ext hB_).boxn (vs := [_, _, _, _, _, _]) (i := 1) (m := 6) rfl rfl) sz25) fun a hF => ?_
 refine qb 2 0 hF tk hS rfl rfl rfl fun a hF => qk hF rfl (fun w_ hB_ => implAnnounceCell_c _ _) fun a hF => qa 2 hF tk rfl fun a hF => ?_
 refine wpQuiet_nil ?_; intro w2 hB_; have hS := hS.ext hB_
 refine hK2 _ _ <| ws fun K3 hK3 => ga 3 hF rfl fun a hF => wl hF rfl rfl rfl (r_load1 sc3 (hF.ev rfl) (hS.elt1 (q := 4) (j := 0) hp rfl (fun _ => rfl))) fun a hF => wl_nil <| hK3 _ _ <| wp_block <| rg hF rfl fun a hF => ?_
 refine cx 18 hF rfl (fun c18 hF => ?_) fun c18 hF => ?_
 ·
  refine wp_seq_k fun K5 hK5 => ?_
  refine wp_region_todo (is := [0, 1, 2, 3, 4, 5, 6]) [] [6] (by kernel_rfl) hF hS ⟨trivial, by decide, by decide, by decide⟩ (by kernel_rfl) ?_; intro hl_ wd hSd
  refine tp 1 hl_ rfl <| todo_load [3, 4, 5, 6] hl_ (by kernel_rfl) rfl (gw0 rfl) rfl rfl rfl (fun a w_ hF hB_ => r_loadn ag76 (hF.ev rfl) ((hSd.ext hB_).box_rd (i := 0) rfl) sz76) <| todo_rd hl_ rfl (by kernel_rfl) rfl rfl rfl rfl rfl (fun a w_ hF => r_call0 en125 ) (fun w_ hS => implClockCell_c) <| todo_rd hl_ rfl (by kernel_rfl) rfl rfl rfl rfl rfl (fun a w_ hF => r_call2 en105 (hF.ev rfl) (hF.ev rfl)) (fun w_ hS => stpLoad_c (fun j u hu => hS.box7 (i := 1) rfl j u hu) (hS.own_rd (i := 2) rfl)) <| tp 2 hl_ rfl ?_
  refine todo_fin hl_ rfl (by kernel_rfl) (tl := [_]) rfl ?_; intro a w3 hF hA_
  have hS := hA_.sep; clear hA_
  clear hl_; try clear hSd
  try dsimp only [List.cons_append, List.nil_append, List.set] at hS
  try clear wd
  refine es 4 11 hF hS hp rfl rfl rfl rfl rfl rfl fun w4 hS => ?_
  refine wl_nil ⟨rfl, ?_⟩
  refine hK5 _ _ ?_
  refine wp_region_todo (is := [0, 1, 2, 3, 4, 5, 6, 7, 8, 9, 10, 11, 12, 13, 14, 15]) [] [15] (by kernel_rfl) hF hS ⟨trivial, by decide, by decide, by decide⟩ (by kernel_rfl) ?_; intro hl_ wd hSd
  refine tp 4 hl_ rfl <| todo_load [11, 12, 13, 14, 15] hl_ (by kernel_rfl) rfl (gw0 rfl) rfl rfl rfl (fun a w_ hF hB_ => r_load1 sc3 (hF.ev rfl) ((hSd.ext hB_).elt1 (q := 4) (j := 11) hp rfl (fun _ => rfl))) <| tp 1 hl_ rfl <| todo_load [7, 8, 9, 10, 11, 12, 13, 14, 15] hl_ (by kernel_rfl) rfl (gw0 rfl) rfl rfl rfl (fun a w_ hF hB_ => r_load1 sc67 (hF.ev rfl) ((hSd.ext hB_).box (i := 0) rfl rfl)) <| tp 3 hl_ rfl <| todo_load [11, 12, 13, 14, 15] hl_ (by kernel_rfl) rfl (gw0 rfl) rfl rfl rfl (fun a w_ hF hB_ => r_load1 sc3 (hF.ev rfl) ((hSd.ext hB_).box (i := 1) rfl rfl)) <| tp 1 hl_ rfl ?_
  refine todo_rd hl_ rfl (by kernel_rfl) rfl rfl rfl rfl rfl (fun a w_ hF => r_call3 en126 (hF.ev rfl) ec ec) (fun w_ hS => choose_c) <| tp 2 hl_ rfl ?_
  refine todo_fin hl_ rfl (by kernel_rfl) (tl := [_]) rfl ?_; intro a w5 hF hA_
  have hS := hA_.sep; clear hA_
  clear hl_; try clear hSd
  try dsimp only [List.cons_append, List.nil_append, List.set] at hS
  try clear wd
  refine es 4 0 hF hS hp rfl rfl rfl rfl rfl rfl fun w6 hS => ?_
  refine wl_nil ⟨rfl, ?_⟩
  refine xt ?_
  simp only [load0 hlc, decide_eq_true_eq] at hS
  refine ret0n rfl hF ⟨rfl, ?_⟩
  unfold beginS
  rw [if_pos c18]
  exact (hS.pm 5 [1, 2, 3, 4] rfl)
 refine rg hF rfl fun a hF => cx 41 hF rfl (fun c41 hF => ?_) fun c41 hF => ?_
 ·
  refine wp_seq_k fun K7 hK7 => wp_region_J (is := [0, 1, 2, 3, 4, 5, 6]) (fun (_ : Unit) r => r) _ (()) [6] (by kernel_rfl) hF hS (by kernel_rfl) <| tj_load [6] (by kernel_rfl) rfl (gw0 rfl) rfl rfl (fun a w_ x_ hF hS => r_loadn ag76 (hF.ev rfl) (hS.box_rd (i := 0) rfl) sz76) <| tq 4 rfl <| tj_load [6] (by kernel_rfl) rfl (gw0 rfl) rfl rfl (fun a w_ x_ hF hS => r_load1 sc3 (hF.ev rfl) (hS.elt1 (q := 4) (j := 11) hp rfl (fun _ => rfl))) ?_
  refine tj_fin (tl := [_]) (by kernel_rfl) rfl ?_; intro a w7 hF hS; try dsimp only at hS
  replace hS := hS.pm 5 [1, 2, 0, 3, 4] rfl
  refine ck hF rfl (stpStore_c (s := s) hS) ?_; rintro v w8 a ⟨rfl, hS⟩ hF
  refine wl_nil ⟨rfl, ?_⟩
  refine hK7 _ _ <| wp_region_lit <| ga 3 hF rfl fun a hF => ?_
  refine es 4 0 hF hS hp rfl rfl rfl rfl rfl rfl fun w9 hS => ?_
  refine wl_nil ?_
  refine xt ?_
  refine ret0n rfl hF ⟨rfl, ?_⟩
  unfold beginS
  rw [if_neg c18, if_pos c41]
  exact (hS.pm 5 [0, 1, 3, 4] rfl)
 refine rg hF rfl fun a hF => cx 53 hF rfl (fun c53 hF => ?_) fun c53 hF => ?_
 ·
  refine wp_region_J (is := [0, 1, 4, 5, 6, 7, 2, 3, 8, 9]) (fun (_ : Unit) r => r) _ (()) [9] (by kernel_rfl) hF hS (by kernel_rfl) <| tj_load [9] (by kernel_rfl) rfl (gw0 rfl) rfl rfl (fun a w_ x_ hF hS => r_loadn ag76 (hF.ev rfl) (hS.box_rd (i := 0) rfl) sz76) <| tj_load [3, 8, 9] (by kernel_rfl) rfl (gw0 rfl) rfl rfl (fun a w_ x_ hF hS => r_loadn ag76 (hF.ev rfl) (hS.box_rd (i := 0) rfl) sz76) <| tq 3 rfl <| tj_load [8, 9] (by kernel_rfl) rfl (gw0 rfl) rfl rfl (fun a w_ x_ hF hS => r_load1 sc3 (hF.ev rfl) (hS.elt1 (q := 4) (j := 11) hp rfl (fun _ => rfl))) <| tj_rd (by kernel_rfl) rfl (gw0 rfl) rfl rfl (fun a w_ hF => r_call0 en125 ) (fun w_ hS => implClockCell_c) <| tj_rd (by kernel_rfl) rfl (gw0 rfl) rfl rfl (fun a w_ hF => r_call2 en105 (hF.ev rfl) (hF.ev rfl)) (fun w_ hS => stpLoad_c (fun j u hu => hS.box7 (i := 1) rfl j u hu) (hS.own_rd (i := 2) rfl)) ?_
  refine tq 1 rfl ?_
  refine tj_fin (tl := [_]) (by kernel_rfl) rfl ?_; intro a w10 hF hS; try dsimp only at hS
  replace hS := hS.pm 5 [1, 4, 0, 2, 3] rfl
  refine ck hF rfl (stpNext_c (s := s) hp hS) ?_; rintro v w11 a ⟨rfl, hS⟩ hF
  refine wl_nil ⟨rfl, ?_⟩
  refine xt ?_
  rw [load0 hlc] at hS
  refine ret0n rfl hF ⟨rfl, ?_⟩
  unfold beginS
  by_cases hq : at0 s.cells 0 = t.seen
  · rw [if_neg c18, if_neg c41, if_pos c53, if_pos hq]; rw [decide_eq_true hq] at hS; exact (hS.pm 5 [0, 3, 4, 1] rfl)
  · rw [if_neg c18, if_neg c41, if_pos c53, if_neg hq]; rw [decide_eq_false hq] at hS; exact (hS.pm 5 [0, 3, 4, 1] rfl)
 refine rg hF rfl fun a hF => cx 65 hF rfl (fun c65 hF => ?_) fun c65 hF => ?_
 ·
  refine wp_seq_k fun K10 hK10 => wp_region_J (is := [0, 2, 3, 4, 5, 6, 7, 8, 9, 10, 1, 11]) (fun (_ : Unit) r => r) _ (()) [11] (by kernel_rfl) hF hS (by kernel_rfl) <| tj_load [11] (by kernel_rfl) rfl (gw0 rfl) rfl rfl (fun a w_ x_ hF hS => r_loadn ag76 (hF.ev rfl) (hS.box_rd (i := 0) rfl) sz76) <| tq 3 rfl <| tj_load [11] (by kernel_rfl) rfl (gw0 rfl) rfl rfl (fun a w_ x_ hF hS => r_load1 sc3 (hF.ev rfl) (hS.elt1 (q := 4) (j := 11) hp rfl (fun _ => rfl))) <| tq 3 rfl <| tj_load [10, 11] (by kernel_rfl) rfl (gw0 rfl) rfl rfl (fun a w_ x_ hF hS => r_load1 sc3 (hF.ev rfl) (hS.elt1 (q := 4) (j := 11) hp rfl (fun _ => rfl))) ?_
  refine tq 1 rfl <| tj_rd (by kernel_rfl) rfl (gw0 rfl) rfl rfl (fun a w_ hF => r_call0 en125 ) (fun w_ hS => implClockCell_c) ?_
  refine tj_fin (tl := [_]) (by kernel_rfl) rfl ?_; intro a w12 hF hS; try dsimp only at hS
  replace hS := hS.pm 5 [1, 2, 0, 3, 4] rfl
  refine ck hF rfl (stpSwap_c (s := s) hS) ?_; rintro v w13 a ⟨rfl, hS⟩ hF
  refine wl_nil ⟨rfl, ?_⟩
  refine hK10 _ _ <| ws fun K11 hK11 => ga 4 hF rfl fun a hF => wl hF rfl rfl rfl (r_load1 sc3 (hF.ev rfl) (hS.elt1 (q := 4) (j := 11) hp rfl (fun _ => rfl))) fun a hF => ga 2 hF rfl fun a hF => ?_
  refine es 4 6 hF hS hp rfl rfl rfl rfl rfl rfl fun w14 hS => ?_
  refine wl_nil <| hK11 _ _ <| wp_region_lit <| ga 1 hF rfl fun a hF => wl hF rfl rfl rfl (r_build (bd39) trivial) fun a hF => ?_
  replace hS := hS.pm 5 [4, 0, 1, 2, 3] rfl
  refine ck hF rfl (thEnd_c (r := ⟨0, 0⟩) hp hS) ?_; rintro v w15 a ⟨rfl, hS⟩ hF
  refine wl_nil ?_
  refine xt ?_
  refine ret0n rfl hF ⟨rfl, ?_⟩
  unfold beginS
  rw [if_neg c18, if_neg c41, if_neg c53, if_pos c65]
  exact (hS.pm 5 [1, 2, 4, 0] rfl)
 refine rg hF rfl fun a hF => cx 89 hF rfl (fun c89 hF => ?_) fun c89 hF => ?_
 ·
  refine ws fun K13 hK13 => gb 2 0 hF hS rfl rfl rfl fun a hF => ?_
  replace hS := hS.pm 5 [1, 2, 0, 3, 4] rfl
  refine ck hF rfl (stpStore_c (s := s) hS) ?_; rintro v w16 a ⟨rfl, hS⟩ hF
  refine wl_nil <| hK13 _ _ <| wp_region_lit <| ga 1 hF rfl fun a hF => wl hF rfl rfl rfl (r_build (bd39_0 _) ⟨rfl, ec, trivial⟩) fun a hF => ?_
  replace hS := hS.pm 5 [4, 0, 1, 2, 3] rfl
  refine ck hF rfl (thEnd_c (r := ⟨5, 0⟩) hp hS) ?_; rintro v w17 a ⟨rfl, hS⟩ hF
  refine wl_nil ?_
  refine xt ?_
  refine ret0n rfl hF ⟨rfl, ?_⟩
  unfold beginS
  rw [if_neg c18, if_neg c41, if_neg c53, if_neg c65, if_pos c89]
  exact (hS.pm 5 [1, 2, 4, 0] rfl)
 refine wp_skip ?_
 refine xt ?_
 refine ret0n rfl hF ⟨rfl, ?_⟩
 unfold beginS
 rw [if_neg c18, if_neg c41, if_neg c53, if_neg c65, if_neg c89]
 exact (hS.pm 5 [1, 2, 3, 4] rfl)
theorem implStepBegin_c {W : World} {s : Sl.State} {cs : List Value} {p : Int} (hm : stateEK.K W s cs) (hw : s.wf) (hz : (s.size : Int) ≤ 1048576) (hp0 : int64 p) : Calls Tryz.prog 26 #[.agg cs.toArray, vi p] W (Ret (Mk W (fun vs => .tuple #[.agg (stateEK.cells (stepOf isB beginS s p).1 vs).toArray, .bool (stepOf isB beginS s p).2]) (fun vs => [Part stateEK (stepOf isB beginS s p).1 vs]))) := by
 refine cfr Tryz.func26 Tryz.ntmps26 fun a hF => ?_
 have hS := Sep.refl W
 obtain ⟨v0, v1, v2, rfl, r0, r1, r2⟩ := hm
 have hm : stateEK.K W s (s.encv v0 v1 v2) := ⟨_, _, _, rfl, r0, r1, r2⟩
 obtain ⟨A_a, q_a, rfl, hq_a, hn_a⟩ := r0.sl; unfold maxLen at hn_a
 obtain ⟨A_b, q_b, rfl, hq_b, hn_b⟩ := r1.sl; unfold maxLen at hn_b
 obtain ⟨A_c, q_c, rfl, hq_c, hn_c⟩ := r2.sl; unfold maxLen at hn_c
 refine ws fun K1 hK1 => wl_box (cs := [_, _, _, _, _, _, _, _, _, _, _, _, _]) hF hS rfl (hF.ev rfl) rfl fun g1 w1 a hS _ hF => wl_alloc hF hS rfl zr29 fun g2 w2 a hS _ hF => ge hK1 hF rfl fun a hF => ws fun K2 hK2 => gb 2 1 hF hS rfl rfl rfl fun a hF => ?_
 refine wl_mk hF hS rfl rfl rfl (r_call4 en58 (hF.ev rfl) (hF.ev rfl) ef ef) (stepIf_c (isf := isB) (stf := stepBy beginS) (hS.k hm) hw hz hp0 (by kernel_rfl) (by kernel_rfl) (fun w_ n hB_ => by rw [app_0]; exact implIsBegin_c) (fun p' z0 z1 gt ot mt ct g l w_ hso hpe hp hmt hpc hS_ => by subst hpe; rw [app_0]; exact stpBegin_c hp (Fit.of hso hw hp) hS_)) ?_; rintro vs8 w3 a hS_ hF; replace hS := hS_; clear hS_; dsimp only [List.cons_append, List.nil_append] at hS
 refine ga 2 hF rfl fun a hF => ww 1 hF hS rfl rfl rfl rfl rfl rfl fun w4 hS => ge hK2 hF rfl fun a hF => ?_
 refine xr ?_
 refine ret2c rfl ag29 hF hS (i := 1) rfl sz29 rfl rfl ⟨vs8, ?_, ?_⟩
 · rw [← stepI_of begin_steps] <;> rfl
 · rw [← stepI_of begin_steps]; exact hS.pick [0] (by decide) rfl
set_option maxRecDepth 20000
def endI (s : Sl.State) (p : Nat) : Sl.State := setT (putS s (announceCell s.config p) 0) p (endT { at0 s.threads (p : Int) with snapshot := 0 } 0 0)
theorem stepEnd_I (s : Sl.State) (p : Int) : stepI (fun n => decide (n = 80)) endI s p = stepEnd s p := by
 unfold stepI stepEnd
 by_cases h : isRunning s p = true ∧ (at0 s.threads p).pc = 80
 · have h0 := (running_of h.1).2.1
   rw [if_pos h, if_pos (by simpa using h)]
   rfl
 · rw [if_neg h, if_neg (by simpa using h)]
theorem stepEnd1_c {W : World} {n : Int} : Calls Tryz.prog 65 #[vi n] W (Ret fun v w' => v = .bool (decide (n = 80)) ∧ Below W.heap.size W w') := by
 refine cfr Tryz.func65 Tryz.ntmps65 fun a hF => ?_
 have hS := Sep.refl W
 refine rg hF rfl fun a hF => rg hF rfl fun a hF => ?_
 refine xr ?_
 exact ret1 rfl hF rfl ⟨rfl, hS.old⟩
theorem stepEnd2_c {W w : World} {l : List Res} {g gt ot mt ct p gp : Nat} {z0 z1 : Slv} {s : Sl.State} (hp : p < s.threads.length) (hgp : ∀ j u, [vi (p : Int)][j]? = some u → W.cell? ⟨gp, 0 + j, none⟩ = some u) (hS : Sep W (Box g ((s).encv (sv z0) (sv z1) (.slice (some ⟨gt, ot, none⟩) mt ct)) :: Own intEK (sv z0) (s).cells :: Own intEK (sv z1) (s).generations :: Own threadEK (.slice (some ⟨gt, ot, none⟩) mt ct) (s.threads.set p (at0 s.threads (p : Int))) :: l) w) : Calls Tryz.prog 66 #[.agg #[.pointer (some ⟨g, 0, none⟩), .pointer (some ⟨gt, ot + p * 19, none⟩), vi (p : Int)], .pointer (some ⟨gp, 0, none⟩)] w (Ret fun v w' => v = .tuple #[] ∧ Sep W (Box g ((endI s p).encv (sv z0) (sv z1) (.slice (some ⟨gt, ot, none⟩) mt ct)) :: Own intEK (sv z0) (endI s p).cells :: Own intEK (sv z1) (endI s p).generations :: Own threadEK (.slice (some ⟨gt, ot, none⟩) mt ct) (endI s p).threads :: l) w') := by
 refine cfr Tryz.func66 Tryz.ntmps66 fun a hF => ?_
 have hl0 := hS.own_len (q := 1) rfl
 have hl1 := hS.own_len (q := 2) rfl
 have hmt : mt = s.threads.length := by have := hS.own_len (q := 3) (s := (some ⟨gt, ot, none⟩, mt, ct)) rfl; simpa using this
 refine ws fun K1 hK1 => wl_box (cs := [_, _, _]) hF hS rfl (hF.ev rfl) rfl fun g1 w1 a hS _ hF => wl_nil <| hK1 _ _ <| wp_seq_k fun K2 hK2 => ?_
 refine wp_region_todo (is := [0, 1, 2, 3, 4, 5, 6, 7, 8]) [] [8] (by kernel_rfl) hF hS ⟨trivial, by decide, by decide, by decide⟩ (by kernel_rfl) ?_; intro hl_ wd hSd
 refine todo_load [8] hl_ (by kernel_rfl) rfl (gw0 rfl) rfl rfl rfl (fun a w_ hF hB_ => r_loadn ag76 (hF.ev rfl) ((hSd.ext hB_).box_rd (i := 0) rfl) sz76) <| tp 1 hl_ rfl <| todo_load [3, 4, 5, 7, 8] hl_ (by kernel_rfl) rfl (gw0 rfl) rfl rfl rfl (fun a w_ hF hB_ => r_load1 sc67 (hF.ev rfl) ((hSd.ext hB_).box (i := 0) rfl rfl)) <| tp 2 hl_ rfl <| todo_load [7, 8] hl_ (by kernel_rfl) rfl (gw0 rfl) rfl rfl rfl (fun a w_ hF hB_ => r_loadn ag25 (hF.ev rfl) ((hSd.ext hB_).boxn (vs := [_, _, _, _, _, _]) (i := 1) (m := 6) rfl rfl) sz25) <| todo_load [7, 8] hl_ (by kernel_rfl) rfl (gw0 rfl) rfl rfl rfl (fun a w_ hF hB_ => r_load1 sc3 (hF.ev rfl) (cellB (hSd.ext hB_).old (hgp 0 _ rfl))) <| todo_rd hl_ rfl (by kernel_rfl) rfl rfl rfl rfl rfl (fun a w_ hF => r_call2 en68 (hF.ev rfl) (hF.ev rfl)) (fun w_ hS => implAnnounceCell_c _ _) ?_
 refine todo_fork [(8, [])] hl_ rfl (by kernel_rfl) (List.forall_mem_cons.2 ⟨?_, fun _ h_ => nomatch h_⟩)
 ·
  refine op_mc (Γ := Unit) (m' := []) rfl (gw0 rfl) rfl rfl rfl (fun a w_ hF => r_call3 en67 (hF.ev rfl) (hF.ev rfl) ec) (fun w_ hS => calls_unit (stpStore_c (s := s) (hS.pm 5 [1, 2, 0, 3, 4] rfl))) ?_; intro _; try clear hSd; try clear wd; intro wd hSd
  refine todo_fin hl_ rfl (by kernel_rfl) (tl := []) rfl ?_; intro a w2 hF hA_
  have hS := hA_.sep; clear hA_
  clear hl_; try clear hSd
  try dsimp only [List.cons_append, List.nil_append, List.set] at hS
  try clear wd
  refine wl_nil ⟨rfl, ?_⟩
  refine hK2 _ _ <| ws fun K3 hK3 => gb 4 2 hF hS rfl rfl rfl fun a hF => ?_
  refine es 4 6 hF hS hp rfl rfl rfl rfl rfl rfl fun w3 hS => ?_
  refine wl_nil <| hK3 _ _ <| wp_region_lit <| gb 2 2 hF hS rfl rfl rfl fun a hF => wl hF rfl rfl rfl (r_build (bd39) trivial) fun a hF => ?_
  replace hS := hS.pm 5 [4, 0, 1, 2, 3] rfl
  refine ck hF rfl (thEnd_c (r := ⟨0, 0⟩) hp hS) ?_; rintro v w4 a ⟨rfl, hS⟩ hF
  refine wl_nil ?_
  refine xt ?_
  exact ret0n rfl hF ⟨rfl, (hS.pm 5 [1, 2, 4, 0] rfl)⟩
theorem implStepEnd_c {W : World} {s : Sl.State} {cs : List Value} {p : Int} (hm : stateEK.K W s cs) (hw : s.wf) (hz : (s.size : Int) ≤ 1048576) (hp0 : int64 p) : Calls Tryz.prog 27 #[.agg cs.toArray, vi p] W (Ret (Mk W (fun vs => .tuple #[.agg (stateEK.cells (stepEnd s p).1 vs).toArray, .bool (stepEnd s p).2]) (fun vs => [Part stateEK (stepEnd s p).1 vs]))) := by
 refine cfr Tryz.func27 Tryz.ntmps27 fun a hF => ?_
 have hS := Sep.refl W
 obtain ⟨v0, v1, v2, rfl, r0, r1, r2⟩ := hm
 have hm : stateEK.K W s (s.encv v0 v1 v2) := ⟨_, _, _, rfl, r0, r1, r2⟩
 obtain ⟨A_a, q_a, rfl, hq_a, hn_a⟩ := r0.sl; unfold maxLen at hn_a
 obtain ⟨A_b, q_b, rfl, hq_b, hn_b⟩ := r1.sl; unfold maxLen at hn_b
 obtain ⟨A_c, q_c, rfl, hq_c, hn_c⟩ := r2.sl; unfold maxLen at hn_c
 refine ws fun K1 hK1 => wl_box (cs := [_, _, _, _, _, _, _, _, _, _, _, _, _]) hF hS rfl (hF.ev rfl) rfl fun g1 w1 a hS _ hF => wl_box hF hS rfl (hF.ev rfl) rfl fun g2 w2 a hS _ hF => wl_alloc hF hS rfl zr29 fun g3 w3 a hS _ hF => ge hK1 hF rfl fun a hF => ws fun K2 hK2 => gb 1 2 hF hS rfl rfl rfl fun a hF => ?_
 refine gb 1 1 hF hS rfl rfl rfl fun a hF => ?_
 refine wl hF rfl rfl rfl (r_makeFunc (by simp only [List.map_toArray, List.map_cons, List.map_nil]; rw [hF.ev rfl])) fun a hF => ?_
 refine wl_mk hF hS rfl rfl rfl (r_call4 en58 (hF.ev rfl) (hF.ev rfl) ef (hF.ev rfl)) (stepIf_c (isf := fun n => decide (n = 80)) (stf := endI) (hS.k hm) hw hz hp0 (by kernel_rfl) (by kernel_rfl) (fun w_ n hB_ => by rw [app_0]; exact stepEnd1_c) (fun p' z0 z1 gt ot mt ct g l w_ hso hpe hp hmt hpc hS_ => by subst hpe; rw [app_1]; exact stepEnd2_c hp (fun j u hu => hS.box_rd (i := 1) rfl j u hu) hS_)) ?_; rintro vs9 w4 a hS_ hF; replace hS := hS_; clear hS_; dsimp only [List.cons_append, List.nil_append] at hS
 refine ga 2 hF rfl fun a hF => ww 1 hF hS rfl rfl rfl rfl rfl rfl fun w5 hS => ge hK2 hF rfl fun a hF => ?_
 refine xr ?_
 refine ret2c rfl ag29 hF hS (i := 1) rfl sz29 rfl rfl ⟨vs9, ?_, ?_⟩
 · rw [← stepEnd_I] <;> rfl
 · rw [← stepEnd_I]; exact hS.pick [0] (by decide) rfl
set_option maxRecDepth 20000
theorem walk_steps (s : Sl.State) (t : Sl.Thread) (p : Int) : walkS (stepped s) t p = (stepped (walkS s t p).1, (walkS s t p).2) := by
 have e0 : loadC (stepped s).cells (prevCell (stepped s) t) = loadC s.cells (prevCell s t) := rfl
 have e1 : hitB (stepped s).cells (prevCell (stepped s) t) t.curr = hitB s.cells (prevCell s t) t.curr := rfl
 unfold walkS
 rw [e0, e1]
 split; · rfl
 split; · rfl
 split; · split <;> rfl
 split; · rfl
 split; · split <;> rfl
 split <;> rfl
theorem implIsWalk_c {W : World} {n : Int} : Calls Tryz.prog 70 #[vi n] W (Ret fun v w' => v = .bool (isW n) ∧ Below W.heap.size W w') := by
 refine cfr Tryz.func70 Tryz.ntmps70 fun a hF => ?_
 have hS := Sep.refl W
 refine rg hF rfl fun a hF => ws fun K2 hK2 => ga 1 hF rfl fun a hF => ckr hF hS rfl (in_c _ _ _) fun w1 a hS hF => ge hK2 hF rfl fun a hF => ?_
 refine xr ?_
 exact ret1 rfl hF rfl ⟨rfl, hS.old⟩
theorem stpWalk_c {W w : World} {l : List Res} {g gt ot mt ct p : Nat} {z0 z1 : Slv} {s : Sl.State} {t : Sl.Thread} (hp : p < s.threads.length) (hf : Fit s t) (hS : Sep W (Box g ((s).encv (sv z0) (sv z1) (.slice (some ⟨gt, ot, none⟩) mt ct)) :: Own intEK (sv z0) (s).cells :: Own intEK (sv z1) (s).generations :: Own threadEK (.slice (some ⟨gt, ot, none⟩) mt ct) (s.threads.set p t) :: l) w) : Calls Tryz.prog 71 #[.agg #[.pointer (some ⟨g, 0, none⟩), .pointer (some ⟨gt, ot + p * 19, none⟩), vi (p : Int)]] w (Ret fun v w' => v = .tuple #[] ∧ Sep W (Box g (((walkS s t (p : Int)).1).encv (sv z0) (sv z1) (.slice (some ⟨gt, ot, none⟩) mt ct)) :: Own intEK (sv z0) ((walkS s t (p : Int)).1).cells :: Own intEK (sv z1) ((walkS s t (p : Int)).1).generations :: Own threadEK (.slice (some ⟨gt, ot, none⟩) mt ct) (s.threads.set p (walkS s t (p : Int)).2) :: l) w') := by
 refine cfr Tryz.func71 Tryz.ntmps71 fun a hF => ?_
 have hl0 := hS.own_len (q := 1) rfl
 have hl1 := hS.own_len (q := 2) rfl
 have hmt : mt = s.threads.length := by have := hS.own_len (q := 3) (s := (some ⟨gt, ot, none⟩, mt, ct)) rfl; simpa using this
 have hlc := hf.two
 refine ws fun K1 hK1 => wl_box (cs := [_, _, _]) hF hS rfl (hF.ev rfl) rfl fun g1 w1 a hS _ hF => wl_nil <| hK1 _ _ <| rh 0 hF hS rfl rfl rfl fun a hF => ws fun K3 hK3 => ga 3 hF rfl fun a hF => wl hF rfl rfl rfl (r_load1 sc3 (hF.ev rfl) (hS.elt1 (q := 4) (j := 0) hp rfl (fun _ => rfl))) fun a hF => ?_
 refine wl_nil <| hK3 _ _ <| wp_block <| rg hF rfl fun a hF => cx 9 hF rfl (fun c9 hF => ?_) fun c9 hF => ?_
 ·
  refine wp_seq_k fun K5 hK5 => ?_
  refine wp_region_todo (is := [0, 1, 2, 3, 4, 5, 6, 7, 8, 9, 10, 11, 12, 13, 14, 15, 16, 17, 18]) [] [15, 16, 17, 18] (by kernel_rfl) hF hS ⟨trivial, by decide, by decide, by decide⟩ (by kernel_rfl) ?_; intro hl_ wd hSd
  refine tp 2 hl_ rfl <| todo_load [11, 12, 13, 14, 15, 16, 17, 18] hl_ (by kernel_rfl) rfl (gw0 rfl) rfl rfl rfl (fun a w_ hF hB_ => r_loadn ag76 (hF.ev rfl) ((hSd.ext hB_).box_rd (i := 0) rfl) sz76) <| tp 1 hl_ rfl <| todo_load [5, 6, 7, 10, 11, 12, 13, 14, 15, 16, 17, 18] hl_ (by kernel_rfl) rfl (gw0 rfl) rfl rfl rfl (fun a w_ hF hB_ => r_load1 sc67 (hF.ev rfl) ((hSd.ext hB_).box (i := 0) rfl rfl)) <| tp 2 hl_ rfl <| todo_load [10, 11, 12, 13, 14, 15, 16, 17, 18] hl_ (by kernel_rfl) rfl (gw0 rfl) rfl rfl rfl (fun a w_ hF hB_ => r_loadn ag25 (hF.ev rfl) ((hSd.ext hB_).boxn (vs := [_, _, _, _, _, _]) (i := 1) (m := 6) rfl rfl) sz25) <| tp 1 hl_ rfl ?_
  refine todo_rd hl_ rfl (by kernel_rfl) rfl rfl rfl rfl rfl (fun a w_ hF => r_call1 en132 (hF.ev rfl)) (fun w_ hS => walkKeyE_c (hS.ext (Below.refl _ _)) (q := 4) rfl hp) <| todo_rd hl_ rfl (by kernel_rfl) rfl rfl rfl rfl rfl (fun a w_ hF => r_call2 en131 (hF.ev rfl) (hF.ev rfl)) (fun w_ hS => implHeadCell_c _ _) <| todo_rd hl_ rfl (by kernel_rfl) rfl rfl rfl rfl rfl (fun a w_ hF => r_call2 en105 (hF.ev rfl) (hF.ev rfl)) (fun w_ hS => stpLoad_c (fun j u hu => hS.box7 (i := 1) rfl j u hu) (hS.own_rd (i := 2) rfl)) <| todo_rd hl_ rfl (by kernel_rfl) rfl rfl rfl rfl rfl (fun a w_ hF => r_call1 en130 (hF.ev rfl)) (fun w_ hS => implUnmarked_c (int64_loadC hf.wc)) <| tp 2 hl_ rfl ?_
  refine todo_fin hl_ rfl (by kernel_rfl) (tl := [_, _, _, _]) rfl ?_; intro a w2 hF hA_
  have hS := hA_.sep; clear hA_
  clear hl_; try clear hSd
  try dsimp only [List.cons_append, List.nil_append, List.set] at hS
  try clear wd
  refine es 4 8 hF hS hp rfl rfl rfl rfl rfl rfl fun w3 hS => ?_
  refine ga 2 hF rfl fun a hF => ?_
  refine es 4 9 hF hS hp rfl rfl rfl rfl rfl rfl fun w4 hS => ?_
  refine wl_nil ⟨rfl, ?_⟩
  refine hK5 _ _ <| wp_region_lit <| gb 1 0 hF hS rfl rfl rfl fun a hF => ?_
  replace hS := hS.pm 5 [4, 0, 1, 2, 3] rfl
  refine ck hF rfl (stpGoOn_c hp (by exact hf.sizes) hS) ?_; rintro v w5 a ⟨rfl, hS⟩ hF
  refine wl_nil ?_
  refine xt ?_
  refine ret0n rfl hF ⟨rfl, ?_⟩
  unfold walkS
  rw [if_pos c9]
  exact (hS.pm 5 [2, 3, 4, 0] rfl)
 refine rg hF rfl fun a hF => cx 30 hF rfl (fun c30 hF => ?_) fun c30 hF => ?_
 ·
  refine wp_seq_k fun K7 hK7 => wp_region_J (is := [0, 1, 2, 3, 4, 5]) (fun (_ : Unit) r => r) _ (()) [5] (by kernel_rfl) hF hS (by kernel_rfl) <| tj_load [5] (by kernel_rfl) rfl (gw0 rfl) rfl rfl (fun a w_ x_ hF hS => r_loadn ag76 (hF.ev rfl) (hS.box_rd (i := 0) rfl) sz76) <| tq 3 rfl <| tj_load [5] (by kernel_rfl) rfl (gw0 rfl) rfl rfl (fun a w_ x_ hF hS => r_load1 sc3 (hF.ev rfl) (hS.elt1 (q := 4) (j := 9) hp rfl (fun _ => rfl))) ?_
  refine tj_fin (tl := [_]) (by kernel_rfl) rfl ?_; intro a w6 hF hS; try dsimp only at hS
  replace hS := hS.pm 5 [1, 2, 0, 3, 4] rfl
  refine ck hF rfl (stpGuard_c (s := s) hS) ?_; rintro v w7 a ⟨rfl, hS⟩ hF
  refine wl_nil ⟨rfl, ?_⟩
  refine hK7 _ _ <| wp_region_lit <| ga 3 hF rfl fun a hF => ?_
  refine es 4 0 hF hS hp rfl rfl rfl rfl rfl rfl fun w8 hS => ?_
  refine wl_nil ?_
  refine xt ?_
  refine ret0n rfl hF ⟨rfl, ?_⟩
  unfold walkS
  rw [if_neg c9, if_pos c30]
  exact (hS.pm 5 [0, 1, 3, 4] rfl)
 refine rg hF rfl fun a hF => cx 41 hF rfl (fun c41 hF => ?_) fun c41 hF => ?_
 ·
  replace hS := hS.pm 5 [1, 0, 2, 3, 4] rfl
  refine wp_region_J (is := [0, 1, 2, 5, 6, 7, 8, 3, 4, 9, 10]) (fun (f : Int) r => Box g (s.encf (sv z0) (sv z1) (.slice (some ⟨gt, ot, none⟩) mt ct) f) :: r) _ (s.faults) [10] (by kernel_rfl) hF hS (by kernel_rfl) <| tj_load [10] (by kernel_rfl) rfl (gw0 rfl) rfl rfl (fun a w_ x_ hF hS => r_loadn ag76 (hF.ev rfl) (hS.box_rd (i := 1) rfl) sz76) <| tj_load [4, 9, 10] (by kernel_rfl) rfl (gw0 rfl) rfl rfl (fun a w_ x_ hF hS => r_loadn ag76 (hF.ev rfl) (hS.box_rd (i := 1) rfl) sz76) <| tj_load [3, 4, 9, 10] (by kernel_rfl) rfl (gw0 rfl) rfl rfl (fun a w_ x_ hF hS => r_loadn ag76 (hF.ev rfl) (hS.box_rd (i := 1) rfl) sz76) <| tq 3 rfl <| tj_load [9, 10] (by kernel_rfl) rfl (gw0 rfl) rfl rfl (fun a w_ x_ hF hS => r_load1 sc3 (hF.ev rfl) (hS.elt1 (q := 4) (j := 9) hp rfl (fun _ => rfl))) ?_
  refine tj_mc (by kernel_rfl) rfl (gw0 rfl) rfl rfl (fun a w_ hF => r_call1 en135 (hF.ev rfl)) (fun w_ hS => calls_unit (stpLink_c (s := s) hp (by exact hf.prev) hf.lg (hS.pm 5 [4, 0, 3, 1, 2] rfl))) (fun _ w_ h_ => ⟨_, (h_.pm 5 [1, 3, 4, 2, 0] rfl)⟩) ?_; intro _
  refine tj_rd (by kernel_rfl) rfl (gw0 rfl) rfl rfl (fun a w_ hF => r_call2 en105 (hF.ev rfl) (hF.ev rfl)) (fun w_ hS => stpLoad_c (fun j u hu => hS.box7 (i := 1) rfl j u hu) (hS.own_rd (i := 4) rfl)) <| tq 1 rfl ?_
  refine tj_fin (tl := [_]) (by kernel_rfl) rfl ?_; intro a w9 hF hS; try dsimp only at hS
  replace hS := hS.pm 5 [1, 0, 2, 3, 4] rfl
  refine ck hF rfl (stpNext_c (s := prevS s t) hp hS) ?_; rintro v w10 a ⟨rfl, hS⟩ hF
  refine wl_nil ⟨rfl, ?_⟩
  refine xt ?_
  refine ret0n rfl hF ⟨rfl, ?_⟩
  unfold walkS
  by_cases hq : loadC s.cells (prevCell s t) = t.curr
  · rw [if_neg c9, if_neg c30, if_pos c41, if_pos hq]; rw [decide_eq_true hq] at hS; exact (hS.pm 5 [0, 4, 2, 1] rfl)
  · rw [if_neg c9, if_neg c30, if_pos c41, if_neg hq]; rw [decide_eq_false hq] at hS; exact (hS.pm 5 [0, 4, 2, 1] rfl)
 refine rg hF rfl fun a hF => cx 54 hF rfl (fun c54 hF => ?_) fun c54 hF => ?_
 ·
  refine wp_seq_k fun K10 hK10 => ?_
  replace hS := hS.pm 5 [1, 0, 2, 3, 4] rfl
  refine wp_region_J (is := [0, 1, 2, 3, 4, 5, 6, 7, 8, 9, 10, 11]) (fun (f : Int) r => Box g (s.encf (sv z0) (sv z1) (.slice (some ⟨gt, ot, none⟩) mt ct) f) :: r) _ (s.faults) [11] (by kernel_rfl) hF hS (by kernel_rfl) <| tq 1 rfl <| tj_load [8, 9, 10, 11] (by kernel_rfl) rfl (gw0 rfl) rfl rfl (fun a w_ x_ hF hS => r_loadn ag76 (hF.ev rfl) (hS.box_rd (i := 1) rfl) sz76) <| tj_load [7, 8, 9, 10, 11] (by kernel_rfl) rfl (gw0 rfl) rfl rfl (fun a w_ x_ hF hS => r_loadn ag76 (hF.ev rfl) (hS.box_rd (i := 1) rfl) sz76) <| tq 3 rfl <| tj_load [7, 8, 9, 10, 11] (by kernel_rfl) rfl (gw0 rfl) rfl rfl (fun a w_ x_ hF hS => r_load1 sc3 (hF.ev rfl) (hS.elt1 (q := 4) (j := 9) hp rfl (fun _ => rfl))) ?_
  refine tj_mc (by kernel_rfl) rfl (gw0 rfl) rfl rfl (fun a w_ hF => r_call3 en136 (hF.ev rfl) (hF.ev rfl) ec) (fun w_ hS => calls_unit (stpField_c (s := s) hf.curr hf.lg (hS.pm 5 [0, 3, 1, 2, 4] rfl))) (fun _ w_ h_ => ⟨_, (h_.pm 5 [0, 2, 3, 1, 4] rfl)⟩) ?_; intro _
  refine tj_rd (by kernel_rfl) rfl (gw0 rfl) rfl rfl (fun a w_ hF => r_call2 en105 (hF.ev rfl) (hF.ev rfl)) (fun w_ hS => stpLoad_c (fun j u hu => hS.box7 (i := 0) rfl j u hu) (hS.own_rd (i := 3) rfl)) <| tq 2 rfl ?_
  refine tj_fin (tl := [_]) (by kernel_rfl) rfl ?_; intro a w11 hF hS; try dsimp only at hS
  refine es 4 10 hF hS hp rfl rfl rfl rfl rfl rfl fun w12 hS => ?_
  refine wl_nil ⟨rfl, ?_⟩
  refine hK10 _ _ ?_
  refine wp_region_todo (is := [0, 1, 2, 3, 4, 6, 7, 8, 9, 10, 11, 5, 12, 13, 14, 15, 16]) [] [16] (by kernel_rfl) hF hS ⟨trivial, by decide, by decide, by decide⟩ (by kernel_rfl) ?_; intro hl_ wd hSd
  refine tp 4 hl_ rfl <| todo_load [5, 12, 13, 14, 15, 16] hl_ (by kernel_rfl) rfl (gw0 rfl) rfl rfl rfl (fun a w_ hF hB_ => r_load1 sc3 (hF.ev rfl) ((hSd.ext hB_).elt1 (q := 4) (j := 10) hp rfl (fun _ => rfl))) <| tp 4 hl_ rfl <| todo_load [11, 12, 13, 14, 15, 16] hl_ (by kernel_rfl) rfl (gw0 rfl) rfl rfl rfl (fun a w_ hF hB_ => r_load1 sc3 (hF.ev rfl) ((hSd.ext hB_).elt1 (q := 4) (j := 1) hp rfl (fun _ => rfl))) <| tp 1 hl_ rfl <| todo_rd hl_ rfl (by kernel_rfl) rfl rfl rfl rfl rfl (fun a w_ hF => r_call1 en137 (hF.ev rfl)) (fun w_ hS => implIsMarked_c (int64_loadC hf.wc)) <| todo_rd hl_ rfl (by kernel_rfl) rfl rfl rfl rfl rfl (fun a w_ hF => r_call3 en126 (hF.ev rfl) ec ec) (fun w_ hS => choose_c) ?_
  refine todo_rd hl_ rfl (by kernel_rfl) rfl rfl rfl rfl rfl (fun a w_ hF => r_call3 en126 (hF.ev rfl) ec (hF.ev rfl)) (fun w_ hS => choose_c) <| tp 2 hl_ rfl ?_
  refine todo_fin hl_ rfl (by kernel_rfl) (tl := [_]) rfl ?_; intro a w13 hF hA_
  have hS := hA_.sep; clear hA_
  clear hl_; try clear hSd
  try dsimp only [List.cons_append, List.nil_append, List.set] at hS
  try clear wd
  refine es 4 0 hF hS hp rfl rfl rfl rfl rfl rfl fun w14 hS => ?_
  refine wl_nil ⟨rfl, ?_⟩
  refine xt ?_
  simp only [decide_eq_true_eq] at hS
  refine ret0n rfl hF ⟨rfl, ?_⟩
  unfold walkS
  rw [if_neg c9, if_neg c30, if_neg c41, if_pos c54]
  exact (hS.pm 5 [0, 3, 1, 4] rfl)
 refine rg hF rfl fun a hF => cx 83 hF rfl (fun c83 hF => ?_) fun c83 hF => ?_
 ·
  refine wp_seq_k fun K12 hK12 => wp_seq_k fun K13 hK13 => ?_
  replace hS := hS.pm 5 [1, 0, 2, 3, 4] rfl
  refine wp_region_J (is := [0, 1, 3, 4, 5, 6, 7, 8, 9, 10, 2, 11, 12, 13]) (fun (f : Int) r => Box g (s.encf (sv z0) (sv z1) (.slice (some ⟨gt, ot, none⟩) mt ct) f) :: r) _ (s.faults) [12, 13] (by kernel_rfl) hF hS (by kernel_rfl) <| tj_load [12, 13] (by kernel_rfl) rfl (gw0 rfl) rfl rfl (fun a w_ x_ hF hS => r_loadn ag76 (hF.ev rfl) (hS.box_rd (i := 1) rfl) sz76) <| tj_load [2, 11, 12, 13] (by kernel_rfl) rfl (gw0 rfl) rfl rfl (fun a w_ x_ hF hS => r_loadn ag76 (hF.ev rfl) (hS.box_rd (i := 1) rfl) sz76) <| tq 3 rfl <| tj_load [12, 13] (by kernel_rfl) rfl (gw0 rfl) rfl rfl (fun a w_ x_ hF hS => r_load1 sc3 (hF.ev rfl) (hS.elt1 (q := 4) (j := 9) hp rfl (fun _ => rfl))) <| tq 3 rfl <| tj_load [11, 12, 13] (by kernel_rfl) rfl (gw0 rfl) rfl rfl (fun a w_ x_ hF hS => r_load1 sc3 (hF.ev rfl) (hS.elt1 (q := 4) (j := 10) hp rfl (fun _ => rfl))) ?_
  refine tj_mc (by kernel_rfl) rfl (gw0 rfl) rfl rfl (fun a w_ hF => r_call1 en135 (hF.ev rfl)) (fun w_ hS => calls_unit (stpLink_c (s := s) hp (by exact hf.prev) hf.lg (hS.pm 5 [4, 0, 3, 1, 2] rfl))) (fun _ w_ h_ => ⟨_, (h_.pm 5 [1, 3, 4, 2, 0] rfl)⟩) ?_; intro _
  refine tj_rd (by kernel_rfl) rfl (gw0 rfl) rfl rfl (fun a w_ hF => r_call1 en130 (hF.ev rfl)) (fun w_ hS => implUnmarked_c hf.next) ?_
  refine tj_fin (tl := [_, _]) (by kernel_rfl) rfl ?_; intro a w15 hF hS; try dsimp only at hS
  replace hS := hS.pm 5 [1, 4, 0, 2, 3] rfl
  refine ck hF rfl (stpSwap_c (s := prevS s t) hS) ?_; rintro v w16 a ⟨rfl, hS⟩ hF
  refine ga 1 hF rfl fun a hF => wl_nil ⟨rfl, ?_⟩
  refine hK13 _ _ <| cx 98 hF rfl (fun c98 hF => ?_) fun c98 hF => ?_
  ·
   replace c98 : ¬ hitB s.cells (prevCell s t) t.curr = true := fun h => by rw [show hitB (prevS s t).cells (prevCell s t) t.curr = true from h] at c98; cases c98
   refine ws fun K14 hK14 => gb 1 4 hF hS rfl rfl rfl fun a hF => ?_
   replace hS := hS.pm 5 [0, 2, 1, 3, 4] rfl
   refine ck hF rfl (stpNext_c (s := swapS (prevS s t) (prevCell s t) t.curr (unmarked t.next)) hp hS) ?_; rintro v w17 a ⟨rfl, hS⟩ hF
   refine wl_nil (hK14 _ _ ?_)
   refine xr ?_
   refine ret0 rfl hF ⟨rfl, ?_⟩
   unfold walkS
   rw [if_neg c9, if_neg c30, if_neg c41, if_neg c54, if_pos c83, if_neg c98]
   exact (hS.pm 5 [0, 2, 3, 1] rfl)
  replace c98 : hitB s.cells (prevCell s t) t.curr = true := c98
  refine wp_skip <| hK12 _ _ <| ws fun K15 hK15 => ga 4 hF rfl fun a hF => wl hF rfl rfl rfl (r_load1 sc3 (hF.ev rfl) (hS.elt1 (q := 2) (j := 10) hp rfl (fun _ => rfl))) fun a hF => ckr hF hS rfl (implUnmarked_c hf.next) fun w18 a hS hF => ga 2 hF rfl fun a hF => ?_
  refine es 2 9 hF hS hp rfl rfl rfl rfl rfl rfl fun w19 hS => ?_
  refine wl_nil <| hK15 _ _ <| wp_region_lit <| gb 1 4 hF hS rfl rfl rfl fun a hF => ?_
  replace hS := hS.pm 5 [2, 0, 1, 3, 4] rfl
  refine ck hF rfl (stpGoOn_c hp (by exact hf.sizes) hS) ?_; rintro v w20 a ⟨rfl, hS⟩ hF
  refine wl_nil ?_
  refine xt ?_
  refine ret0n rfl hF ⟨rfl, ?_⟩
  unfold walkS
  rw [if_neg c9, if_neg c30, if_neg c41, if_neg c54, if_pos c83, if_pos c98]
  exact (hS.pm 5 [1, 2, 3, 0] rfl)
 refine rg hF rfl fun a hF => cx 111 hF rfl (fun c111 hF => ?_) fun c111 hF => ?_
 ·
  refine wp_seq_k fun K17 hK17 => wp_region_J (is := [0, 1, 2, 3, 4, 5]) (fun (_ : Unit) r => r) _ (()) [5] (by kernel_rfl) hF hS (by kernel_rfl) <| tj_load [5] (by kernel_rfl) rfl (gw0 rfl) rfl rfl (fun a w_ x_ hF hS => r_loadn ag76 (hF.ev rfl) (hS.box_rd (i := 0) rfl) sz76) <| tq 3 rfl <| tj_load [5] (by kernel_rfl) rfl (gw0 rfl) rfl rfl (fun a w_ x_ hF hS => r_load1 sc3 (hF.ev rfl) (hS.elt1 (q := 4) (j := 9) hp rfl (fun _ => rfl))) ?_
  refine tj_fin (tl := [_]) (by kernel_rfl) rfl ?_; intro a w21 hF hS; try dsimp only at hS
  replace hS := hS.pm 5 [1, 2, 0, 3, 4] rfl
  refine ck hF rfl (stpGuard_c (s := s) hS) ?_; rintro v w22 a ⟨rfl, hS⟩ hF
  refine wl_nil ⟨rfl, ?_⟩
  refine hK17 _ _ <| wp_seq_k fun K18 hK18 => ?_
  refine wp_region_todo (is := [0, 1, 2, 3, 4, 5, 6, 7, 8, 9, 10, 11, 12, 13, 14, 15, 16]) [] [13, 14, 15, 16] (by kernel_rfl) hF hS ⟨trivial, by decide, by decide, by decide⟩ (by kernel_rfl) ?_; intro hl_ wd hSd
  refine tp 5 hl_ rfl <| todo_load [11, 12, 13, 14, 15, 16] hl_ (by kernel_rfl) rfl (gw0 rfl) rfl rfl rfl (fun a w_ hF hB_ => r_load1 sc3 (hF.ev rfl) ((hSd.ext hB_).elt1 (q := 4) (j := 9) hp rfl (fun _ => rfl))) <| tp 3 hl_ rfl <| todo_load [10, 11, 12, 13, 14, 15, 16] hl_ (by kernel_rfl) rfl (gw0 rfl) rfl rfl rfl (fun a w_ hF hB_ => r_load1 sc3 (hF.ev rfl) ((hSd.ext hB_).elt1 (q := 4) (j := 10) hp rfl (fun _ => rfl))) <| todo_rd hl_ rfl (by kernel_rfl) rfl rfl rfl rfl rfl (fun a w_ hF => r_call1 en130 (hF.ev rfl)) (fun w_ hS => implUnmarked_c hf.next) <| tp 2 hl_ rfl ?_
  refine todo_fin hl_ rfl (by kernel_rfl) (tl := [_, _, _, _]) rfl ?_; intro a w23 hF hA_
  have hS := hA_.sep; clear hA_
  clear hl_; try clear hSd
  try dsimp only [List.cons_append, List.nil_append, List.set] at hS
  try clear wd
  refine es 4 8 hF hS hp rfl rfl rfl rfl rfl rfl fun w24 hS => ?_
  refine ga 2 hF rfl fun a hF => ?_
  refine es 4 9 hF hS hp rfl rfl rfl rfl rfl rfl fun w25 hS => ?_
  refine wl_nil ⟨rfl, ?_⟩
  refine hK18 _ _ <| wp_region_lit <| gb 1 2 hF hS rfl rfl rfl fun a hF => ?_
  replace hS := hS.pm 5 [4, 0, 1, 2, 3] rfl
  refine ck hF rfl (stpGoOn_c hp (by exact hf.sizes) hS) ?_; rintro v w26 a ⟨rfl, hS⟩ hF
  refine wl_nil ?_
  refine xt ?_
  refine ret0n rfl hF ⟨rfl, ?_⟩
  unfold walkS
  rw [if_neg c9, if_neg c30, if_neg c41, if_neg c54, if_neg c83, if_pos c111]
  exact (hS.pm 5 [1, 2, 4, 0] rfl)
 refine wp_skip ?_
 refine xt ?_
 refine ret0n rfl hF ⟨rfl, ?_⟩
 unfold walkS
 rw [if_neg c9, if_neg c30, if_neg c41, if_neg c54, if_neg c83, if_neg c111]
 exact (hS.pm 5 [1, 2, 3, 4] rfl)
theorem implStepWalk_c {W : World} {s : Sl.State} {cs : List Value} {p : Int} (hm : stateEK.K W s cs) (hw : s.wf) (hz : (s.size : Int) ≤ 1048576) (hp0 : int64 p) : Calls Tryz.prog 28 #[.agg cs.toArray, vi p] W (Ret (Mk W (fun vs => .tuple #[.agg (stateEK.cells (stepOf isW walkS s p).1 vs).toArray, .bool (stepOf isW walkS s p).2]) (fun vs => [Part stateEK (stepOf isW walkS s p).1 vs]))) := by
 refine cfr Tryz.func28 Tryz.ntmps28 fun a hF => ?_
 have hS := Sep.refl W
 obtain ⟨v0, v1, v2, rfl, r0, r1, r2⟩ := hm
 have hm : stateEK.K W s (s.encv v0 v1 v2) := ⟨_, _, _, rfl, r0, r1, r2⟩
 obtain ⟨A_a, q_a, rfl, hq_a, hn_a⟩ := r0.sl; unfold maxLen at hn_a
 obtain ⟨A_b, q_b, rfl, hq_b, hn_b⟩ := r1.sl; unfold maxLen at hn_b
 obtain ⟨A_c, q_c, rfl, hq_c, hn_c⟩ := r2.sl; unfold maxLen at hn_c
 refine ws fun K1 hK1 => wl_box (cs := [_, _, _, _, _, _, _, _, _, _, _, _, _]) hF hS rfl (hF.ev rfl) rfl fun g1 w1 a hS _ hF => wl_alloc hF hS rfl zr29 fun g2 w2 a hS _ hF => ge hK1 hF rfl fun a hF => ws fun K2 hK2 => gb 2 1 hF hS rfl rfl rfl fun a hF => ?_
 refine wl_mk hF hS rfl rfl rfl (r_call4 en58 (hF.ev rfl) (hF.ev rfl) ef ef) (stepIf_c (isf := isW) (stf := stepBy walkS) (hS.k hm) hw hz hp0 (by kernel_rfl) (by kernel_rfl) (fun w_ n hB_ => by rw [app_0]; exact implIsWalk_c) (fun p' z0 z1 gt ot mt ct g l w_ hso hpe hp hmt hpc hS_ => by subst hpe; rw [app_0]; exact stpWalk_c hp (Fit.of hso hw hp) hS_)) ?_; rintro vs8 w3 a hS_ hF; replace hS := hS_; clear hS_; dsimp only [List.cons_append, List.nil_append] at hS
 refine ga 2 hF rfl fun a hF => ww 1 hF hS rfl rfl rfl rfl rfl rfl fun w4 hS => ge hK2 hF rfl fun a hF => ?_
 refine xr ?_
 refine ret2c rfl ag29 hF hS (i := 1) rfl sz29 rfl rfl ⟨vs8, ?_, ?_⟩
 · rw [← stepI_of walk_steps] <;> rfl
 · rw [← stepI_of walk_steps]; exact hS.pick [0] (by decide) rfl
set_option maxRecDepth 20000
theorem implIsRead_c {W : World} {n : Int} : Calls Tryz.prog 72 #[vi n] W (Ret fun v w' => v = .bool (isR n) ∧ Below W.heap.size W w') := by
 refine cfr Tryz.func72 Tryz.ntmps72 fun a hF => ?_
 have hS := Sep.refl W
 refine rg hF rfl fun a hF => ws fun K2 hK2 => ga 1 hF rfl fun a hF => ckr hF hS rfl (in_c _ _ _) fun w1 a hS hF => ge hK2 hF rfl fun a hF => ?_
 refine xr ?_
 exact ret1 rfl hF rfl ⟨rfl, hS.old⟩
theorem stpRead_c {W w : World} {l : List Res} {g gt ot mt ct p : Nat} {z0 z1 : Slv} {s : Sl.State} {t : Sl.Thread} (hp : p < s.threads.length) (hf : Fit s t) (hS : Sep W (Box g ((s).encv (sv z0) (sv z1) (.slice (some ⟨gt, ot, none⟩) mt ct)) :: Own intEK (sv z0) (s).cells :: Own intEK (sv z1) (s).generations :: Own threadEK (.slice (some ⟨gt, ot, none⟩) mt ct) (s.threads.set p t) :: l) w) : Calls Tryz.prog 73 #[.agg #[.pointer (some ⟨g, 0, none⟩), .pointer (some ⟨gt, ot + p * 19, none⟩), vi (p : Int)]] w (Ret fun v w' => v = .tuple #[] ∧ Sep W (Box g (((readS s t (p : Int)).1).encv (sv z0) (sv z1) (.slice (some ⟨gt, ot, none⟩) mt ct)) :: Own intEK (sv z0) ((readS s t (p : Int)).1).cells :: Own intEK (sv z1) ((readS s t (p : Int)).1).generations :: Own threadEK (.slice (some ⟨gt, ot, none⟩) mt ct) (s.threads.set p (readS s t (p : Int)).2) :: l) w') := by
 refine cfr Tryz.func73 Tryz.ntmps73 fun a hF => ?_
 have hl0 := hS.own_len (q := 1) rfl
 have hl1 := hS.own_len (q := 2) rfl
 have hmt : mt = s.threads.length := by have := hS.own_len (q := 3) (s := (some ⟨gt, ot, none⟩, mt, ct)) rfl; simpa using this
 have hlc := hf.two
 refine ws fun K1 hK1 => wl_box (cs := [_, _, _]) hF hS rfl (hF.ev rfl) rfl fun g1 w1 a hS _ hF => wl_nil <| hK1 _ _ <| rh 0 hF hS rfl rfl rfl fun a hF => ws fun K3 hK3 => ga 3 hF rfl fun a hF => wl hF rfl rfl rfl (r_load1 sc3 (hF.ev rfl) (hS.elt1 (q := 4) (j := 0) hp rfl (fun _ => rfl))) fun a hF => ?_
 refine wl_nil <| hK3 _ _ <| wp_block <| rg hF rfl fun a hF => cx 9 hF rfl (fun c9 hF => ?_) fun c9 hF => ?_
 ·
  refine wp_seq_k fun K5 hK5 => ?_
  replace hS := hS.pm 5 [1, 0, 2, 3, 4] rfl
  refine wp_region_J (is := [0, 1, 2, 3, 4, 5, 6, 7, 8, 9, 10, 11]) (fun (f : Int) r => Box g (s.encf (sv z0) (sv z1) (.slice (some ⟨gt, ot, none⟩) mt ct) f) :: r) _ (s.faults) [11] (by kernel_rfl) hF hS (by kernel_rfl) <| tq 1 rfl <| tj_load [8, 9, 10, 11] (by kernel_rfl) rfl (gw0 rfl) rfl rfl (fun a w_ x_ hF hS => r_loadn ag76 (hF.ev rfl) (hS.box_rd (i := 1) rfl) sz76) <| tj_load [7, 8, 9, 10, 11] (by kernel_rfl) rfl (gw0 rfl) rfl rfl (fun a w_ x_ hF hS => r_loadn ag76 (hF.ev rfl) (hS.box_rd (i := 1) rfl) sz76) <| tq 3 rfl <| tj_load [7, 8, 9, 10, 11] (by kernel_rfl) rfl (gw0 rfl) rfl rfl (fun a w_ x_ hF hS => r_load1 sc3 (hF.ev rfl) (hS.elt1 (q := 4) (j := 9) hp rfl (fun _ => rfl))) ?_
  refine tj_mc (by kernel_rfl) rfl (gw0 rfl) rfl rfl (fun a w_ hF => r_call3 en136 (hF.ev rfl) (hF.ev rfl) ec) (fun w_ hS => calls_unit (stpField_c (s := s) hf.curr hf.lg (hS.pm 5 [0, 3, 1, 2, 4] rfl))) (fun _ w_ h_ => ⟨_, (h_.pm 5 [0, 2, 3, 1, 4] rfl)⟩) ?_; intro _
  refine tj_rd (by kernel_rfl) rfl (gw0 rfl) rfl rfl (fun a w_ hF => r_call2 en105 (hF.ev rfl) (hF.ev rfl)) (fun w_ hS => stpLoad_c (fun j u hu => hS.box7 (i := 0) rfl j u hu) (hS.own_rd (i := 3) rfl)) <| tq 2 rfl ?_
  refine tj_fin (tl := [_]) (by kernel_rfl) rfl ?_; intro a w2 hF hS; try dsimp only at hS
  refine es 4 12 hF hS hp rfl rfl rfl rfl rfl rfl fun w3 hS => ?_
  refine wl_nil ⟨rfl, ?_⟩
  refine hK5 _ _ ?_
  refine wp_region_todo (is := [0, 1, 2, 3, 4, 5, 6, 7, 8, 9, 10, 11, 12, 13, 14, 15, 16, 17, 18, 19]) [] [19] (by kernel_rfl) hF hS ⟨trivial, by decide, by decide, by decide⟩ (by kernel_rfl) ?_; intro hl_ wd hSd
  refine tp 4 hl_ rfl <| todo_load [5, 16, 17, 18, 19] hl_ (by kernel_rfl) rfl (gw0 rfl) rfl rfl rfl (fun a w_ hF hB_ => r_load1 sc3 (hF.ev rfl) ((hSd.ext hB_).elt1 (q := 4) (j := 12) hp rfl (fun _ => rfl))) <| tp 4 hl_ rfl <| todo_load [14, 15, 16, 17, 18, 19] hl_ (by kernel_rfl) rfl (gw0 rfl) rfl rfl rfl (fun a w_ hF hB_ => r_load1 sc3 (hF.ev rfl) ((hSd.ext hB_).elt1 (q := 4) (j := 12) hp rfl (fun _ => rfl))) <| tp 3 hl_ rfl <| todo_load [14, 15, 16, 17, 18, 19] hl_ (by kernel_rfl) rfl (gw0 rfl) rfl rfl rfl (fun a w_ hF hB_ => r_load1 sc3 (hF.ev rfl) ((hSd.ext hB_).elt1 (q := 4) (j := 6) hp rfl (fun _ => rfl))) <| tp 1 hl_ rfl ?_
  refine todo_rd hl_ rfl (by kernel_rfl) rfl rfl rfl rfl rfl (fun a w_ hF => r_call3 en126 (hF.ev rfl) ec ec) (fun w_ hS => choose_c) <| todo_rd hl_ rfl (by kernel_rfl) rfl rfl rfl rfl rfl (fun a w_ hF => r_call3 en126 (hF.ev rfl) ec (hF.ev rfl)) (fun w_ hS => choose_c) <| tp 2 hl_ rfl ?_
  refine todo_fin hl_ rfl (by kernel_rfl) (tl := [_]) rfl ?_; intro a w4 hF hA_
  have hS := hA_.sep; clear hA_
  clear hl_; try clear hSd
  try dsimp only [List.cons_append, List.nil_append, List.set] at hS
  try clear wd
  refine es 4 0 hF hS hp rfl rfl rfl rfl rfl rfl fun w5 hS => ?_
  refine wl_nil ⟨rfl, ?_⟩
  refine xt ?_
  simp only [decide_eq_true_eq] at hS
  refine ret0n rfl hF ⟨rfl, ?_⟩
  unfold readS
  rw [if_pos c9]
  exact (hS.pm 5 [0, 3, 1, 4] rfl)
 refine rg hF rfl fun a hF => cx 41 hF rfl (fun c41 hF => ?_) fun c41 hF => ?_
 ·
  refine wp_seq_k fun K7 hK7 => ?_
  refine wp_region_todo (is := [0, 1, 2, 3, 4, 5, 6]) [] [6] (by kernel_rfl) hF hS ⟨trivial, by decide, by decide, by decide⟩ (by kernel_rfl) ?_; intro hl_ wd hSd
  refine tp 1 hl_ rfl <| todo_load [3, 4, 5, 6] hl_ (by kernel_rfl) rfl (gw0 rfl) rfl rfl rfl (fun a w_ hF hB_ => r_loadn ag76 (hF.ev rfl) ((hSd.ext hB_).box_rd (i := 0) rfl) sz76) <| todo_rd hl_ rfl (by kernel_rfl) rfl rfl rfl rfl rfl (fun a w_ hF => r_call0 en125 ) (fun w_ hS => implClockCell_c) <| todo_rd hl_ rfl (by kernel_rfl) rfl rfl rfl rfl rfl (fun a w_ hF => r_call2 en105 (hF.ev rfl) (hF.ev rfl)) (fun w_ hS => stpLoad_c (fun j u hu => hS.box7 (i := 1) rfl j u hu) (hS.own_rd (i := 2) rfl)) <| tp 2 hl_ rfl ?_
  refine todo_fin hl_ rfl (by kernel_rfl) (tl := [_]) rfl ?_; intro a w6 hF hA_
  have hS := hA_.sep; clear hA_
  clear hl_; try clear hSd
  try dsimp only [List.cons_append, List.nil_append, List.set] at hS
  try clear wd
  refine es 4 11 hF hS hp rfl rfl rfl rfl rfl rfl fun w7 hS => ?_
  refine wl_nil ⟨rfl, ?_⟩
  refine hK7 _ _ <| wp_region_lit <| ga 3 hF rfl fun a hF => ?_
  refine es 4 0 hF hS hp rfl rfl rfl rfl rfl rfl fun w8 hS => ?_
  refine wl_nil ?_
  refine xt ?_
  simp only [load0 hlc] at hS
  refine ret0n rfl hF ⟨rfl, ?_⟩
  unfold readS
  rw [if_neg c9, if_pos c41]
  exact (hS.pm 5 [1, 2, 3, 4] rfl)
 refine rg hF rfl fun a hF => cx 52 hF rfl (fun c52 hF => ?_) fun c52 hF => ?_
 ·
  refine wp_seq_k fun K9 hK9 => ?_
  replace hS := hS.pm 5 [1, 0, 2, 3, 4] rfl
  refine wp_region_J (is := [0, 1, 2, 3, 4, 5, 7, 8, 9, 10, 6, 11]) (fun (f : Int) r => Box g (s.encf (sv z0) (sv z1) (.slice (some ⟨gt, ot, none⟩) mt ct) f) :: r) _ (s.faults) [11] (by kernel_rfl) hF hS (by kernel_rfl) <| tj_load [11] (by kernel_rfl) rfl (gw0 rfl) rfl rfl (fun a w_ x_ hF hS => r_loadn ag76 (hF.ev rfl) (hS.box_rd (i := 1) rfl) sz76) <| tj_load [6, 11] (by kernel_rfl) rfl (gw0 rfl) rfl rfl (fun a w_ x_ hF hS => r_loadn ag76 (hF.ev rfl) (hS.box_rd (i := 1) rfl) sz76) <| tq 3 rfl <| tj_load [6, 11] (by kernel_rfl) rfl (gw0 rfl) rfl rfl (fun a w_ x_ hF hS => r_load1 sc3 (hF.ev rfl) (hS.elt1 (q := 4) (j := 9) hp rfl (fun _ => rfl))) <| tq 3 rfl <| tj_load [11] (by kernel_rfl) rfl (gw0 rfl) rfl rfl (fun a w_ x_ hF hS => r_load1 sc3 (hF.ev rfl) (hS.elt1 (q := 4) (j := 11) hp rfl (fun _ => rfl))) ?_
  refine tj_mc (by kernel_rfl) rfl (gw0 rfl) rfl rfl (fun a w_ hF => r_call3 en136 (hF.ev rfl) (hF.ev rfl) ec) (fun w_ hS => calls_unit (stpField_c (s := s) hf.curr hf.lg (hS.pm 5 [0, 3, 1, 2, 4] rfl))) (fun _ w_ h_ => ⟨_, (h_.pm 5 [0, 2, 3, 1, 4] rfl)⟩) ?_; intro _
  refine tj_fin (tl := [_]) (by kernel_rfl) rfl ?_; intro a w9 hF hS; try dsimp only at hS
  replace hS := hS.pm 5 [0, 3, 1, 2, 4] rfl
  refine ck hF rfl (stpSwap_c (s := faultS s t.curr) hS) ?_; rintro v w10 a ⟨rfl, hS⟩ hF
  refine wl_nil ⟨rfl, ?_⟩
  refine hK9 _ _ <| wp_region_lit <| ga 3 hF rfl fun a hF => ?_
  refine es 4 0 hF hS hp rfl rfl rfl rfl rfl rfl fun w11 hS => ?_
  refine wl_nil ?_
  refine xt ?_
  refine ret0n rfl hF ⟨rfl, ?_⟩
  unfold readS
  rw [if_neg c9, if_neg c41, if_pos c52]
  exact (hS.pm 5 [0, 1, 2, 4] rfl)
 refine rg hF rfl fun a hF => cx 69 hF rfl (fun c69 hF => ?_) fun c69 hF => ?_
 ·
  replace hS := hS.pm 5 [1, 0, 2, 3, 4] rfl
  refine wp_region_J (is := [0, 1, 2, 3, 4, 5, 6, 7, 8, 9, 10, 11, 12, 13, 14, 15, 16]) (fun (f : Int) r => Box g (s.encf (sv z0) (sv z1) (.slice (some ⟨gt, ot, none⟩) mt ct) f) :: r) _ (s.faults) [13, 14, 15, 16] (by kernel_rfl) hF hS (by kernel_rfl) <| tq 2 rfl <| tj_load [9, 10, 11, 12, 13, 14, 15, 16] (by kernel_rfl) rfl (gw0 rfl) rfl rfl (fun a w_ x_ hF hS => r_loadn ag76 (hF.ev rfl) (hS.box_rd (i := 1) rfl) sz76) <| tj_load [8, 9, 10, 11, 12, 13, 14, 15, 16] (by kernel_rfl) rfl (gw0 rfl) rfl rfl (fun a w_ x_ hF hS => r_loadn ag76 (hF.ev rfl) (hS.box_rd (i := 1) rfl) sz76) <| tq 3 rfl <| tj_load [8, 9, 10, 11, 12, 13, 14, 15, 16] (by kernel_rfl) rfl (gw0 rfl) rfl rfl (fun a w_ x_ hF hS => r_load1 sc3 (hF.ev rfl) (hS.elt1 (q := 4) (j := 9) hp rfl (fun _ => rfl))) ?_
  refine tj_mc (by kernel_rfl) rfl (gw0 rfl) rfl rfl (fun a w_ hF => r_call3 en136 (hF.ev rfl) (hF.ev rfl) ec) (fun w_ hS => calls_unit (stpField_c (s := s) hf.curr hf.lg (hS.pm 5 [0, 3, 1, 2, 4] rfl))) (fun _ w_ h_ => ⟨_, (h_.pm 5 [0, 2, 3, 1, 4] rfl)⟩) ?_; intro _
  refine tj_rd (by kernel_rfl) rfl (gw0 rfl) rfl rfl (fun a w_ hF => r_call2 en105 (hF.ev rfl) (hF.ev rfl)) (fun w_ hS => stpLoad_c (fun j u hu => hS.box7 (i := 0) rfl j u hu) (hS.own_rd (i := 3) rfl)) <| tj_pure (by kernel_rfl) rfl (gw0 rfl) rfl rfl (fun a w_ hF => r_build (bd39_1 _) ⟨rfl, (hF.ev rfl), trivial⟩) <| tq 2 rfl ?_
  refine tj_fin (tl := [_, _, _, _]) (by kernel_rfl) rfl ?_; intro a w12 hF hS; try dsimp only at hS
  refine wl_estoren (us := [_, _]) (q := 4) (j := 4) (⟨_, ⟨_, _, _⟩, ⟨_, _⟩, _, _, _, _, _, _, _, _, _, _, _, _, _⟩ : Sl.Thread) hF hS hp rfl sz39 (hF.ev rfl) rfl ((hF.ev rfl).trans rfl) rfl (fun _ => ⟨rfl, rfl⟩) (fun _ => by dsimp only [threadEK, Thread.encv, List.take, List.drop, List.cons_append, List.nil_append, List.length_cons, List.length_nil, Nat.reduceAdd] <;> rfl) (by intro _; rfl) fun w13 hS => ?_; dsimp only [List.set] at hS
  refine ga 2 hF rfl fun a hF => ?_
  refine es 4 0 hF hS hp rfl rfl rfl rfl rfl rfl fun w14 hS => ?_
  refine wl_nil ⟨rfl, ?_⟩
  refine xt ?_
  refine ret0n rfl hF ⟨rfl, ?_⟩
  unfold readS
  rw [if_neg c9, if_neg c41, if_neg c52, if_pos c69]
  exact (hS.pm 5 [0, 3, 1, 4] rfl)
 refine rg hF rfl fun a hF => cx 86 hF rfl (fun c86 hF => ?_) fun c86 hF => ?_
 ·
  refine ws fun K12 hK12 => gb 1 0 hF hS rfl rfl rfl fun a hF => ?_
  replace hS := hS.pm 5 [1, 2, 0, 3, 4] rfl
  refine ck hF rfl (stpGuard_c (s := s) hS) ?_; rintro v w15 a ⟨rfl, hS⟩ hF
  refine wl_nil <| hK12 _ _ <| wp_region_lit <| ga 3 hF rfl fun a hF => ?_
  refine es 4 0 hF hS hp rfl rfl rfl rfl rfl rfl fun w16 hS => ?_
  refine wl_nil ?_
  refine xt ?_
  refine ret0n rfl hF ⟨rfl, ?_⟩
  unfold readS
  rw [if_neg c9, if_neg c41, if_neg c52, if_neg c69, if_pos c86]
  exact (hS.pm 5 [0, 1, 3, 4] rfl)
 refine rg hF rfl fun a hF => cx 93 hF rfl (fun c93 hF => ?_) fun c93 hF => ?_
 ·
  refine ws fun K14 hK14 => gb 1 0 hF hS rfl rfl rfl fun a hF => ?_
  replace hS := hS.pm 5 [1, 2, 0, 3, 4] rfl
  refine ck hF rfl (stpGuard_c (s := s) hS) ?_; rintro v w17 a ⟨rfl, hS⟩ hF
  refine wl_nil <| hK14 _ _ <| wp_region_lit <| ga 4 hF rfl fun a hF => wl hF rfl rfl rfl (r_loadn ag39 (hF.ev rfl) (hS.eltn (us := [_, _]) (q := 4) (j := 4) (k := 2) hp rfl (fun _ => rfl)) sz39) fun a hF => ?_
  replace hS := hS.pm 5 [4, 0, 1, 2, 3] rfl
  refine ck hF rfl (thEnd_c (r := t.result) hp hS) ?_; rintro v w18 a ⟨rfl, hS⟩ hF
  refine wl_nil ?_
  refine xt ?_
  refine ret0n rfl hF ⟨rfl, ?_⟩
  unfold readS
  rw [if_neg c9, if_neg c41, if_neg c52, if_neg c69, if_neg c86, if_pos c93]
  exact (hS.pm 5 [1, 2, 4, 0] rfl)
 refine wp_skip ?_
 refine xt ?_
 refine ret0n rfl hF ⟨rfl, ?_⟩
 unfold readS
 rw [if_neg c9, if_neg c41, if_neg c52, if_neg c69, if_neg c86, if_neg c93]
 exact (hS.pm 5 [1, 2, 3, 4] rfl)
theorem implStepRead_c {W : World} {s : Sl.State} {cs : List Value} {p : Int} (hm : stateEK.K W s cs) (hw : s.wf) (hz : (s.size : Int) ≤ 1048576) (hp0 : int64 p) : Calls Tryz.prog 29 #[.agg cs.toArray, vi p] W (Ret (Mk W (fun vs => .tuple #[.agg (stateEK.cells (stepOf isR readS s p).1 vs).toArray, .bool (stepOf isR readS s p).2]) (fun vs => [Part stateEK (stepOf isR readS s p).1 vs]))) := by
 refine cfr Tryz.func29 Tryz.ntmps29 fun a hF => ?_
 have hS := Sep.refl W
 obtain ⟨v0, v1, v2, rfl, r0, r1, r2⟩ := hm
 have hm : stateEK.K W s (s.encv v0 v1 v2) := ⟨_, _, _, rfl, r0, r1, r2⟩
 obtain ⟨A_a, q_a, rfl, hq_a, hn_a⟩ := r0.sl; unfold maxLen at hn_a
 obtain ⟨A_b, q_b, rfl, hq_b, hn_b⟩ := r1.sl; unfold maxLen at hn_b
 obtain ⟨A_c, q_c, rfl, hq_c, hn_c⟩ := r2.sl; unfold maxLen at hn_c
 refine ws fun K1 hK1 => wl_box (cs := [_, _, _, _, _, _, _, _, _, _, _, _, _]) hF hS rfl (hF.ev rfl) rfl fun g1 w1 a hS _ hF => wl_alloc hF hS rfl zr29 fun g2 w2 a hS _ hF => ge hK1 hF rfl fun a hF => ws fun K2 hK2 => gb 2 1 hF hS rfl rfl rfl fun a hF => ?_
 refine wl_mk hF hS rfl rfl rfl (r_call4 en58 (hF.ev rfl) (hF.ev rfl) ef ef) (stepIf_c (isf := isR) (stf := stepBy readS) (hS.k hm) hw hz hp0 (by kernel_rfl) (by kernel_rfl) (fun w_ n hB_ => by rw [app_0]; exact implIsRead_c) (fun p' z0 z1 gt ot mt ct g l w_ hso hpe hp hmt hpc hS_ => by subst hpe; rw [app_0]; exact stpRead_c hp (Fit.of hso hw hp) hS_)) ?_; rintro vs8 w3 a hS_ hF; replace hS := hS_; clear hS_; dsimp only [List.cons_append, List.nil_append] at hS
 refine ga 2 hF rfl fun a hF => ww 1 hF hS rfl rfl rfl rfl rfl rfl fun w4 hS => ge hK2 hF rfl fun a hF => ?_
 refine xr ?_
 refine ret2c rfl ag29 hF hS (i := 1) rfl sz29 rfl rfl ⟨vs8, ?_, ?_⟩
 · rw [← stepI_of read_steps] <;> rfl
 · rw [← stepI_of read_steps]; exact hS.pick [0] (by decide) rfl
set_option maxRecDepth 20000
theorem implIsFlush_c {W : World} {n : Int} : Calls Tryz.prog 79 #[vi n] W (Ret fun v w' => v = .bool (isF n) ∧ Below W.heap.size W w') := by
 refine cfr Tryz.func79 Tryz.ntmps79 fun a hF => ?_
 have hS := Sep.refl W
 refine rg hF rfl fun a hF => ws fun K2 hK2 => ga 3 hF rfl fun a hF => ?_
 apply wo 3 5 8 hF hS
 ·
  intro hg5 a hF
  refine ga 1 hF rfl fun a hF => ckr hF hS rfl (in_c _ _ _) fun w1 a hS hF => ?_
  exact je 3 hF hS rfl rfl rfl rfl
 intro a w2 hF hS
 refine ge hK2 hF rfl fun a hF => ?_
 refine xr ?_
 exact ret1 rfl hF rfl ⟨rfl, hS.old⟩
theorem stpFlush_c {W w : World} {l : List Res} {g gt ot mt ct p : Nat} {z0 z1 : Slv} {s : Sl.State} {t : Sl.Thread} (hp : p < s.threads.length) (hf : Fit s t) (hS : Sep W (Box g ((s).encv (sv z0) (sv z1) (.slice (some ⟨gt, ot, none⟩) mt ct)) :: Own intEK (sv z0) (s).cells :: Own intEK (sv z1) (s).generations :: Own threadEK (.slice (some ⟨gt, ot, none⟩) mt ct) (s.threads.set p t) :: l) w) : Calls Tryz.prog 80 #[.agg #[.pointer (some ⟨g, 0, none⟩), .pointer (some ⟨gt, ot + p * 19, none⟩), vi (p : Int)]] w (Ret fun v w' => v = .tuple #[] ∧ Sep W (Box g (((flushS s t (p : Int)).1).encv (sv z0) (sv z1) (.slice (some ⟨gt, ot, none⟩) mt ct)) :: Own intEK (sv z0) ((flushS s t (p : Int)).1).cells :: Own intEK (sv z1) ((flushS s t (p : Int)).1).generations :: Own threadEK (.slice (some ⟨gt, ot, none⟩) mt ct) (s.threads.set p (flushS s t (p : Int)).2) :: l) w') := by
 refine cfr Tryz.func80 Tryz.ntmps80 fun a hF => ?_
 have hl0 := hS.own_len (q := 1) rfl
 have hl1 := hS.own_len (q := 2) rfl
 have hmt : mt = s.threads.length := by have := hS.own_len (q := 3) (s := (some ⟨gt, ot, none⟩, mt, ct)) rfl; simpa using this
 have hz1 := hf.sizes; unfold sizesOk at hz1
 refine ws fun K1 hK1 => wl_box (cs := [_, _, _]) hF hS rfl (hF.ev rfl) rfl fun g1 w1 a hS _ hF => wl_nil <| hK1 _ _ <| rh 0 hF hS rfl rfl rfl fun a hF => ws fun K3 hK3 => ga 3 hF rfl fun a hF => wl hF rfl rfl rfl (r_load1 sc3 (hF.ev rfl) (hS.elt1 (q := 4) (j := 0) hp rfl (fun _ => rfl))) fun a hF => ?_
 refine wl_nil <| hK3 _ _ <| wp_block <| rg hF rfl fun a hF => cx 13 hF rfl (fun c13 hF => ?_) fun c13 hF => ?_
 ·
  refine wp_cut (fun a w => Sep W (Box g1 [.pointer (some ⟨g, 0, none⟩), .pointer (some ⟨gt, ot + p * 19, none⟩), vi (p : Int)] :: Box g (s.encv (sv z0) (sv z1) (.slice (some ⟨gt, ot, none⟩) mt ct)) :: Own intEK (sv z0) s.cells :: Own intEK (sv z1) s.generations :: Own threadEK (.slice (some ⟨gt, ot, none⟩) mt ct) (s.threads.set p ({ t with found := (scanF s t) })) :: l) w ∧ Fr 167 [(1, .pointer (some ⟨g1, 0, none⟩)), (2, .pointer (some ⟨gt, ot + p * 19, none⟩))] a) ?_ ?_
  ·
   refine wp_seq_k fun K5 hK5 => wp_region_calm (by kernel_rfl) (by kernel_rfl) <| qb 5 0 hF tk hS rfl rfl rfl fun a hF => wq hF rfl rfl rfl (fun w_ hB_ => r_loadn ag25 (hF.ev rfl) ((hS.ext hB_).boxn (vs := [_, _, _, _, _, _]) (i := 1) (m := 6) rfl rfl) sz25) fun a hF => qa 3 hF tk rfl fun a hF => wq hF rfl rfl rfl (fun w_ hB_ => r_load1 sc3 (hF.ev rfl) ((hS.ext hB_).elt1 (q := 4) (j := 13) hp rfl (fun _ => rfl))) fun a hF => qk hF rfl (fun w_ hB_ => implAnnounceCell_c _ _) fun a hF => ?_
   refine qk hF rfl (fun w_ hB_ => stpLoad_c (fun j u hu => (hS.ext hB_).box7 (i := 1) rfl j u hu) ((hS.ext hB_).own_rd (i := 2) rfl)) fun a hF => qa 1 hF tk rfl fun a hF => ?_
   refine wpQuiet_nil ?_; intro w2 hB_; have hS := hS.ext hB_
   refine hK5 _ _ <| rg hF rfl fun a hF => cx 28 hF rfl (fun c28 hF => ?_) fun c28 hF => ?_
   ·
    obtain ⟨A0_, A1_, A2_, A3_, A4_, k0_, k1_, k2_, k3_, k4_, ⟨n0_, n1_, n2_, n3_, n4_⟩, ⟨q0_, q1_, q2_, q3_, q4_⟩, hS_⟩ := Sep.thr_lend (t := t) (hS.pm 5 [4, 0, 1, 2, 3] rfl) hp; replace hS := hS_; clear hS_; unfold maxLen at n0_ n1_ n2_ n3_ n4_; try dsimp only at n0_ n1_ n2_ n3_ n4_ q0_ q1_ q2_ q3_ q4_
    dsimp only [Thread.encv] at hS
    refine wp_region_lit <| ga 4 hF rfl fun a hF => wl hF rfl rfl rfl (r_load1 sc26 (hF.ev rfl) (hS.but1 (q := 5) (j := 14) rfl rfl)) fun a hF => ga 1 hF rfl fun a hF => wl_bslice intEK [vi (scanA s t)] [scanA s t] rfl hF hS rfl mk26 rfl ⟨rfl, (hF.ev rfl), trivial⟩ rfl rfl rfl rfl fun gl_35 w3 a hS hF => ?_
    refine wl_append (q := 1) hF hS rfl rfl (hS.own_rd (i := 0) rfl) mk26 rfl (hF.ev rfl) (hF.ev rfl) (by first | omega | (simp; omega)) (by unfold maxLen; first | omega | (simp; omega)) ?_; intro A_36 c_36 w4 a hS_ hF; replace hS := hS_; clear hS_; dsimp only [List.set, List.length_cons, List.length_nil] at hS hF
    refine ga 2 hF rfl fun a hF => ?_
    refine wl_bstore (q := 6) (j := 14) hF hS rfl sz26 (hF.ev rfl) rfl (hF.ev rfl) rfl rfl fun w5 hS => ?_; dsimp only [List.set] at hS
    refine wl_nil ?_
    refine xt ?_
    have e0 : (scanF s t) = t.found ++ [scanA s t] := if_neg c28
    replace hS := Sep.thr_back (t' := { t with found := t.found ++ [scanA s t] }) (y0 := (_, _, _)) (y1 := (_, _, _)) (y2 := (_, _, _)) (y3 := (_, _, _)) (y4 := (_, _, _)) (hS.pm 11 [1, 2, 3, 4, 5, 6, 0, 7, 8, 9, 10] rfl) rfl
    rw [e0]
    exact ⟨(hS.pm 6 [2, 3, 4, 5, 0] rfl), ((hF.nil.keepE hF (t := 2) rfl rfl).keepE hF (t := 1) rfl rfl)⟩
   refine wp_skip ?_
   refine xt ?_
   have e0 : (scanF s t) = t.found := if_pos c28
   rw [e0]
   exact ⟨hS, ((hF.nil.keepE hF (t := 2) rfl rfl).keepE hF (t := 1) rfl rfl)⟩
  rintro a w6 ⟨hS, hF⟩
  refine wp_seq_k fun K7 hK7 => ws fun K8 hK8 => ga 3 hF rfl fun a hF => wl hF rfl rfl rfl (r_load1 sc3 (hF.ev rfl) (hS.elt1 (q := 4) (j := 13) hp rfl (fun _ => rfl))) fun a hF => ga 3 hF rfl fun a hF => ?_
  refine es 4 13 hF hS hp rfl rfl rfl rfl rfl rfl fun w7 hS => ?_
  refine wl_nil <| hK8 _ _ <| wp_seq_k fun K9 hK9 => wp_region_calm (by kernel_rfl) (by kernel_rfl) <| qa 3 hF tk rfl fun a hF => wq hF rfl rfl rfl (fun w_ hB_ => r_load1 sc3 (hF.ev rfl) ((hS.ext hB_).elt1 (q := 4) (j := 13) hp rfl (fun _ => rfl))) fun a hF => qb 5 0 hF tk hS rfl rfl rfl fun a hF => qb 2 1 hF tk hS rfl rfl rfl fun a hF => ?_
  refine wpQuiet_nil ?_; intro w8 hB_; have hS := hS.ext hB_
  refine hK9 _ _ <| cx 56 hF rfl (fun c56 hF => ?_) fun c56 hF => ?_
  ·
   refine xr ?_
   refine ret0 rfl hF ⟨rfl, ?_⟩
   unfold flushS
   rw [if_pos c13]
   unfold scanT
   rw [if_pos c56]
   exact (hS.pm 5 [1, 2, 3, 4] rfl)
  refine wp_skip <| hK7 _ _ <| ws fun K10 hK10 => ga 4 hF rfl fun a hF => wl hF rfl rfl rfl (r_load1 sc3 (hF.ev rfl) (hS.elt1 (q := 4) (j := 2) hp rfl (fun _ => rfl))) fun a hF => ge hK10 hF rfl fun a hF => wp_cut (fun a w => Sep W (Box g1 [.pointer (some ⟨g, 0, none⟩), .pointer (some ⟨gt, ot + p * 19, none⟩), vi (p : Int)] :: Box g (s.encv (sv z0) (sv z1) (.slice (some ⟨gt, ot, none⟩) mt ct)) :: Own intEK (sv z0) s.cells :: Own intEK (sv z1) s.generations :: Own threadEK (.slice (some ⟨gt, ot, none⟩) mt ct) (s.threads.set p ({ t with found := (scanF s t), at_ := IntKind.i64.wrap (t.at_ + 1) })) :: l) w ∧ Fr 167 [(1, .pointer (some ⟨g1, 0, none⟩)), (2, .pointer (some ⟨gt, ot + p * 19, none⟩)), (4, vi (keyF t))] a) ?_ ?_
  ·
   refine ws fun K11 hK11 => ga 4 hF rfl fun a hF => wl hF rfl rfl rfl (r_load1 sc3 (hF.ev rfl) (hS.elt1 (q := 4) (j := 1) hp rfl (fun _ => rfl))) fun a hF => ge hK11 hF rfl fun a hF => cx 67 hF rfl (fun c67 hF => ?_) fun c67 hF => ?_
   ·
    refine rl hF rfl fun a hF => ?_
    refine xt ?_
    exact ⟨hS, (((hF.nil.keepE hF (t := 4) rfl (congrArg vi (if_pos c67).symm)).keepE hF (t := 2) rfl rfl).keepE hF (t := 1) rfl rfl)⟩
   refine wp_skip ?_
   refine xt ?_
   exact ⟨hS, (((hF.nil.keepE hF (t := 4) rfl (congrArg vi (if_neg c67).symm)).keepE hF (t := 2) rfl rfl).keepE hF (t := 1) rfl rfl)⟩
  rintro a w9 ⟨hS, hF⟩
  obtain ⟨A0_, A1_, A2_, A3_, A4_, k0_, k1_, k2_, k3_, k4_, ⟨n0_, n1_, n2_, n3_, n4_⟩, ⟨q0_, q1_, q2_, q3_, q4_⟩, hS_⟩ := Sep.thr_lend (t := { t with found := (scanF s t), at_ := IntKind.i64.wrap (t.at_ + 1) }) (hS.pm 5 [4, 0, 1, 2, 3] rfl) hp; replace hS := hS_; clear hS_; unfold maxLen at n0_ n1_ n2_ n3_ n4_; try dsimp only at n0_ n1_ n2_ n3_ n4_ q0_ q1_ q2_ q3_ q4_
  dsimp only [Thread.encv] at hS
  have hsp := splitE_len s.config.policy (keyF t) t.buffer (scanF s t)
  refine wp_seq_k fun K12 hK12 => ?_
  refine wp_region_todo (is := [0, 1, 2, 3, 4, 5, 6, 7, 8, 9, 10, 11, 12, 13, 14, 15, 16, 17, 18, 19, 20]) [] [] (by kernel_rfl) hF hS ⟨trivial, by decide, by decide, by decide⟩ (by kernel_rfl) ?_; intro hl_ wd hSd
  refine tp 1 hl_ rfl <| todo_load [2, 3, 4, 5, 15, 16, 17, 18, 19, 20] hl_ (by kernel_rfl) rfl (gw0 rfl) rfl rfl rfl (fun a w_ hF hB_ => r_load1 sc67 (hF.ev rfl) ((hSd.ext hB_).box (i := 6) rfl rfl)) <| tp 3 hl_ rfl <| todo_load [15, 16, 17, 18, 19, 20] hl_ (by kernel_rfl) rfl (gw0 rfl) rfl rfl rfl (fun a w_ hF hB_ => r_load1 sc3 (hF.ev rfl) ((hSd.ext hB_).box (i := 7) rfl rfl)) <| tp 4 hl_ rfl <| todo_load [15, 16, 17, 18, 19, 20] hl_ (by kernel_rfl) rfl (gw0 rfl) rfl rfl rfl (fun a w_ hF hB_ => r_load1 sc40 (hF.ev rfl) ((hSd.ext hB_).but1 (q := 5) (j := 16) rfl rfl)) <| tp 3 hl_ rfl ?_
  refine todo_load [15, 16, 17, 18, 19, 20] hl_ (by kernel_rfl) rfl (gw0 rfl) rfl rfl rfl (fun a w_ hF hB_ => r_load1 sc26 (hF.ev rfl) ((hSd.ext hB_).but1 (q := 5) (j := 14) rfl rfl)) ?_
  refine todo_mk hl_ rfl (by kernel_rfl) rfl rfl rfl rfl rfl (fun a w_ hF => r_call4 en141 (hF.ev rfl) (hF.ev rfl) (hF.ev rfl) (hF.ev rfl)) (fun w_ hS => implSplitE_c (hS.own_rd (i := 2) rfl) (hS.own_rd (i := 0) rfl) (by omega)) ?_; rintro ⟨⟨Ap84, np84, cp84⟩, Aq84, nq84, cq84⟩
  refine tp 5 hl_ rfl ?_
  refine todo_fin hl_ rfl (by kernel_rfl) (tl := []) rfl ?_; intro a w10 hF hA_
  have hS := hA_.sep; clear hA_
  clear hl_; try clear hSd
  try dsimp only [List.cons_append, List.nil_append, List.set] at hS
  try clear wd
  refine wl_nil ⟨rfl, ?_⟩
  refine hK12 _ _ <| ws fun K13 hK13 => wl hF rfl rfl rfl (r_move (hF.ev rfl)) fun a hF => ?_
  have hnp := hS.own_len (q := 0) (s := (_, _, _)) rfl
  have hnq := hS.own_len (q := 1) (s := (_, _, _)) rfl
  refine ga 5 hF rfl fun a hF => wl hF rfl rfl rfl (r_load1 sc40 (hF.ev rfl) (hS.but1 (q := 7) (j := 17) rfl rfl)) fun a hF => ga 1 hF rfl fun a hF => ?_
  refine wl_append (q := 5) hF hS rfl rfl (hS.own_rd (i := 1) rfl) mk40 rfl (hF.ev rfl) (hF.ev rfl) (by first | omega | (simp; omega)) (by unfold maxLen; first | omega | (simp; omega)) ?_; intro A_95 c_95 w11 a hS_ hF; replace hS := hS_; clear hS_; dsimp only [List.set, List.length_cons, List.length_nil] at hS hF
  refine ga 2 hF rfl fun a hF => ?_
  refine wl_bstore (q := 7) (j := 16) hF hS rfl sz40 (hF.ev rfl) rfl (hF.ev rfl) rfl rfl fun w12 hS => ?_; dsimp only [List.set] at hS
  refine ga 2 hF rfl fun a hF => ?_
  refine wl_bstore (q := 7) (j := 17) hF hS rfl sz40 (hF.ev rfl) rfl (hF.ev rfl) rfl rfl fun w13 hS => ?_; dsimp only [List.set] at hS
  refine wl_nil <| hK13 _ _ <| ws fun K14 hK14 => ga 3 hF rfl fun a hF => ?_
  refine wl_bstore (q := 7) (j := 0) hF hS rfl sz3 (hF.ev rfl) rfl ec rfl rfl fun w14 hS => ?_; dsimp only [List.set] at hS
  refine wl_nil <| hK14 _ _ <| ws fun K15 hK15 => ga 3 hF rfl fun a hF => wl hF rfl rfl rfl (r_load1 sc40 (hF.ev rfl) (hS.but1 (q := 7) (j := 17) rfl rfl)) fun a hF => ge hK15 hF rfl fun a hF => cx 108 hF rfl (fun c108 hF => ?_) fun c108 hF => ?_
  ·
   replace hS := Sep.thr_back (t' := mergeT s t) (y0 := (_, _, _)) (y1 := (_, _, _)) (y2 := (_, _, _)) (y3 := (_, _, _)) (y4 := (_, _, _)) (hS.pm 12 [2, 3, 0, 5, 6, 7, 1, 4, 8, 9, 10, 11] rfl) rfl
   refine wp_region_lit <| gb 1 3 hF hS rfl rfl rfl fun a hF => ?_
   replace hS := hS.pm 7 [4, 0, 1, 2, 3, 5, 6] rfl
   refine ck hF rfl (stpFin_c (s := s) (t := mergeT s t) hp hS) ?_; rintro v w15 a ⟨rfl, hS⟩ hF
   refine wl_nil ?_
   refine xt ?_
   refine ret0n rfl hF ⟨rfl, ?_⟩
   unfold flushS
   rw [if_pos c13]
   unfold scanT
   rw [if_neg c56, if_pos c108]
   exact (hS.pm 7 [0, 5, 6, 1] rfl)
  refine wp_skip ?_
  refine xt ?_
  replace hS := Sep.thr_back (t' := mergeT s t) (y0 := (_, _, _)) (y1 := (_, _, _)) (y2 := (_, _, _)) (y3 := (_, _, _)) (y4 := (_, _, _)) (hS.pm 12 [2, 3, 0, 5, 6, 7, 1, 4, 8, 9, 10, 11] rfl) rfl
  refine ret0n rfl hF ⟨rfl, ?_⟩
  unfold flushS
  rw [if_pos c13]
  unfold scanT
  rw [if_neg c56, if_neg c108]
  exact (hS.pm 7 [4, 5, 6, 0] rfl)
 refine rg hF rfl fun a hF => cx 111 hF rfl (fun c111 hF => ?_) fun c111 hF => ?_
 ·
  obtain ⟨A0_, A1_, A2_, A3_, A4_, k0_, k1_, k2_, k3_, k4_, ⟨n0_, n1_, n2_, n3_, n4_⟩, ⟨q0_, q1_, q2_, q3_, q4_⟩, hS_⟩ := Sep.thr_lend (t := t) (hS.pm 5 [4, 0, 1, 2, 3] rfl) hp; replace hS := hS_; clear hS_; unfold maxLen at n0_ n1_ n2_ n3_ n4_; try dsimp only at n0_ n1_ n2_ n3_ n4_ q0_ q1_ q2_ q3_ q4_
  dsimp only [Thread.encv] at hS
  have hwl := hf.work (by omega)
  have hwx : t.work[0]? = some (at0 t.work 0) := at0_nat (k := 0) (by omega)
  have hh := hf.hand hwl
  obtain ⟨gw, ow, mw, cw, hvw, _⟩ := Rd.idxF (hS.own_rd (i := 3) rfl) hwx; simp only [Value.slice.injEq] at hvw; obtain ⟨rfl, _, _⟩ := hvw
  refine wp_seq_k fun K17 hK17 => ?_
  replace hS := hS.pm 10 [7, 0, 1, 2, 3, 4, 5, 6, 8, 9] rfl
  refine wp_region_J (is := [0, 1, 2, 3, 4, 5, 6, 7, 8, 9, 10, 11, 12, 13, 14]) (fun (f : Int) r => Box g (s.encf (sv z0) (sv z1) (.slice (some ⟨gt, ot, none⟩) mt ct) f) :: r) _ (s.faults) [14] (by kernel_rfl) hF hS (by kernel_rfl) <| tq 1 rfl <| tj_load [11, 12, 13, 14] (by kernel_rfl) rfl (gw0 rfl) rfl rfl (fun a w_ x_ hF hS => r_loadn ag76 (hF.ev rfl) (hS.box_rd (i := 7) rfl) sz76) <| tj_load [10, 11, 12, 13, 14] (by kernel_rfl) rfl (gw0 rfl) rfl rfl (fun a w_ x_ hF hS => r_loadn ag76 (hF.ev rfl) (hS.box_rd (i := 7) rfl) sz76) <| tq 3 rfl <| tj_load [7, 8, 9, 10, 11, 12, 13, 14] (by kernel_rfl) rfl (gw0 rfl) rfl rfl (fun a w_ x_ hF hS => r_load1 sc40 (hF.ev rfl) (hS.but1 (q := 6) (j := 17) rfl rfl)) <| tj_pure (by kernel_rfl) rfl (gw0 rfl) rfl rfl (fun a w_ hF => r_index sl40 (hF.ev rfl) ec (by omega) (by omega)) ?_
  refine tq 1 rfl <| tj_load [10, 11, 12, 13, 14] (by kernel_rfl) rfl (gw0 rfl) rfl rfl (fun a w_ x_ hF hS => r_load1 sc3 (hF.ev rfl) (hS.own_cell (q := 4) (i := 0) (j := 0) rfl hwx rfl)) ?_
  refine tj_mc (by kernel_rfl) rfl (gw0 rfl) rfl rfl (fun a w_ hF => r_call3 en136 (hF.ev rfl) (hF.ev rfl) ec) (fun w_ hS => calls_unit (stpField_c (s := s) hh hf.lg (hS.pm 10 [0, 9, 1, 2, 3, 4, 5, 6, 7, 8] rfl))) (fun _ w_ h_ => ⟨_, (h_.pm 10 [0, 2, 3, 4, 5, 6, 7, 8, 9, 1] rfl)⟩) ?_; intro _
  refine tj_rd (by kernel_rfl) rfl (gw0 rfl) rfl rfl (fun a w_ hF => r_call2 en105 (hF.ev rfl) (hF.ev rfl)) (fun w_ hS => stpLoad_c (fun j u hu => hS.box7 (i := 0) rfl j u hu) (hS.own_rd (i := 9) rfl)) <| tq 2 rfl ?_
  refine tj_fin (tl := [_]) (by kernel_rfl) rfl ?_; intro a w16 hF hS; try dsimp only at hS
  refine wl_bstore (q := 7) (j := 11) hF hS rfl sz3 (hF.ev rfl) rfl (hF.ev rfl) rfl rfl fun w17 hS => ?_; dsimp only [List.set] at hS
  refine wl_nil ⟨rfl, ?_⟩
  refine hK17 _ _ <| wp_region_lit <| ga 3 hF rfl fun a hF => ?_
  refine wl_bstore (q := 7) (j := 0) hF hS rfl sz3 (hF.ev rfl) rfl ec rfl rfl fun w18 hS => ?_; dsimp only [List.set] at hS
  refine wl_nil ?_
  refine xt ?_
  replace hS := Sep.thr_back (t' := { t with seen := loadC s.cells (cellOf s (at0 t.work 0).handle 2), pc := 61 }) (y0 := (_, _, _)) (y1 := (_, _, _)) (y2 := (_, _, _)) (y3 := (_, _, _)) (y4 := (_, _, _)) (hS.pm 10 [2, 3, 4, 5, 6, 7, 0, 1, 8, 9] rfl) rfl
  refine ret0n rfl hF ⟨rfl, ?_⟩
  unfold flushS
  rw [if_neg c13, if_pos c111]
  exact (hS.pm 5 [1, 4, 2, 0] rfl)
 refine rg hF rfl fun a hF => cx 130 hF rfl (fun c130 hF => ?_) fun c130 hF => ?_
 ·
  obtain ⟨A0_, A1_, A2_, A3_, A4_, k0_, k1_, k2_, k3_, k4_, ⟨n0_, n1_, n2_, n3_, n4_⟩, ⟨q0_, q1_, q2_, q3_, q4_⟩, hS_⟩ := Sep.thr_lend (t := t) (hS.pm 5 [4, 0, 1, 2, 3] rfl) hp; replace hS := hS_; clear hS_; unfold maxLen at n0_ n1_ n2_ n3_ n4_; try dsimp only at n0_ n1_ n2_ n3_ n4_ q0_ q1_ q2_ q3_ q4_
  dsimp only [Thread.encv] at hS
  have hwl := hf.work (by omega)
  have hwx : t.work[0]? = some (at0 t.work 0) := at0_nat (k := 0) (by omega)
  have hh := hf.hand hwl
  obtain ⟨gw, ow, mw, cw, hvw, _⟩ := Rd.idxF (hS.own_rd (i := 3) rfl) hwx; simp only [Value.slice.injEq] at hvw; obtain ⟨rfl, _, _⟩ := hvw
  replace hS := hS.pm 10 [7, 8, 0, 1, 2, 3, 4, 5, 6, 9] rfl
  refine wp_region_J (is := [0, 1, 2, 3, 4, 5, 6, 7, 8, 9, 11, 12, 13, 14, 15, 16, 17, 18, 10, 19, 20, 21]) (fun (x : Int × Int × List Int) r => Box g (s.encg (sv z0) (sv z1) (.slice (some ⟨gt, ot, none⟩) mt ct) x.1 x.2.1) :: Own intEK (sv z0) x.2.2 :: r) _ ((s.changes, s.faults, s.cells)) [21] (by kernel_rfl) hF hS (by kernel_rfl) <| tj_load [21] (by kernel_rfl) rfl (gw0 rfl) rfl rfl (fun a w_ x_ hF hS => r_loadn ag76 (hF.ev rfl) (hS.box_rd (i := 8) rfl) sz76) <| tj_load [20, 21] (by kernel_rfl) rfl (gw0 rfl) rfl rfl (fun a w_ x_ hF hS => r_loadn ag76 (hF.ev rfl) (hS.box_rd (i := 8) rfl) sz76) <| tj_load [10, 19, 20, 21] (by kernel_rfl) rfl (gw0 rfl) rfl rfl (fun a w_ x_ hF hS => r_loadn ag76 (hF.ev rfl) (hS.box_rd (i := 8) rfl) sz76) <| tq 3 rfl <| tj_load [7, 8, 9, 10, 19, 20, 21] (by kernel_rfl) rfl (gw0 rfl) rfl rfl (fun a w_ x_ hF hS => r_load1 sc40 (hF.ev rfl) (hS.but1 (q := 7) (j := 17) rfl rfl)) <| tj_pure (by kernel_rfl) rfl (gw0 rfl) rfl rfl (fun a w_ hF => r_index sl40 (hF.ev rfl) ec (by omega) (by omega)) ?_
  refine tq 1 rfl <| tj_load [10, 19, 20, 21] (by kernel_rfl) rfl (gw0 rfl) rfl rfl (fun a w_ x_ hF hS => r_load1 sc3 (hF.ev rfl) (hS.own_cell (q := 5) (i := 0) (j := 0) rfl hwx rfl)) <| tq 3 rfl <| tj_load [20, 21] (by kernel_rfl) rfl (gw0 rfl) rfl rfl (fun a w_ x_ hF hS => r_load1 sc3 (hF.ev rfl) (hS.but1 (q := 7) (j := 11) rfl rfl)) <| tq 3 rfl <| tj_load [19, 20, 21] (by kernel_rfl) rfl (gw0 rfl) rfl rfl (fun a w_ x_ hF hS => r_load1 sc3 (hF.ev rfl) (hS.but1 (q := 7) (j := 11) rfl rfl)) ?_
  refine tj_mc (by kernel_rfl) rfl (gw0 rfl) rfl rfl (fun a w_ hF => r_call3 en136 (hF.ev rfl) (hF.ev rfl) ec) (fun w_ hS => calls_unit (stpField_c (s := s) hh hf.lg (hS.pm 10 [0, 9, 1, 2, 3, 4, 5, 6, 7, 8] rfl))) (fun _ w_ h_ => ⟨(_, _, _), (h_.pm 10 [0, 2, 3, 4, 5, 6, 7, 8, 9, 1] rfl)⟩) ?_; intro _
  refine tj_rd (by kernel_rfl) rfl (gw0 rfl) rfl rfl (fun a w_ hF => r_call1 en143 (hF.ev rfl)) (fun w_ hS => implMarked_c hf.seen) ?_
  refine tj_mc (by kernel_rfl) rfl (gw0 rfl) rfl rfl (fun a w_ hF => r_call4 en128 (hF.ev rfl) (hF.ev rfl) (hF.ev rfl) (hF.ev rfl)) (fun w_ hS => calls_unit (stpSwap_c (s := faultS s (at0 t.work 0).handle) (hS.pm 10 [0, 2, 1, 3, 4, 5, 6, 7, 8, 9] rfl))) (fun _ w_ h_ => ⟨(_, _, _), (h_.pm 10 [0, 1, 3, 4, 5, 6, 7, 8, 9, 2] rfl)⟩) ?_; intro _
  refine tj_fin (tl := [_]) (by kernel_rfl) rfl ?_; intro a w19 hF hS; try dsimp only at hS
  replace hS := Sep.thr_back (t' := t) (y0 := (_, _, _)) (y1 := (_, _, _)) (y2 := (_, _, _)) (y3 := (_, _, _)) (y4 := (_, _, _)) (hS.pm 10 [3, 4, 5, 6, 7, 8, 0, 1, 2, 9] rfl) rfl
  replace hS := hS.pm 5 [1, 0, 2, 3, 4] rfl
  refine ck hF rfl (stpNext_c (s := swapS (faultS s (at0 t.work 0).handle) (cellOf s (at0 t.work 0).handle 2) t.seen (marked t.seen)) hp hS) ?_; rintro v w20 a ⟨rfl, hS⟩ hF
  refine wl_nil ⟨rfl, ?_⟩
  refine xt ?_
  refine ret0n rfl hF ⟨rfl, ?_⟩
  unfold flushS
  rw [if_neg c13, if_neg c111, if_pos c130]
  by_cases hq : hitB s.cells (cellOf s (at0 t.work 0).handle 2) t.seen = true
  · rw [if_pos hq]; rw [show hitB (faultS s (at0 t.work 0).handle).cells (cellOf s (at0 t.work 0).handle 2) t.seen = true from hq] at hS; exact (hS.pm 5 [0, 2, 3, 1] rfl)
  · rw [if_neg hq]; rw [show hitB (faultS s (at0 t.work 0).handle).cells (cellOf s (at0 t.work 0).handle 2) t.seen = false from Bool.eq_false_iff.2 hq] at hS; exact (hS.pm 5 [0, 2, 3, 1] rfl)
 refine rg hF rfl fun a hF => cx 154 hF rfl (fun c154 hF => ?_) fun c154 hF => ?_
 ·
  refine ws fun K20 hK20 => gb 1 0 hF hS rfl rfl rfl fun a hF => ?_
  replace hS := hS.pm 5 [1, 2, 0, 3, 4] rfl
  refine ck hF rfl (stpGuard_c (s := s) hS) ?_; rintro v w21 a ⟨rfl, hS⟩ hF
  refine wl_nil <| hK20 _ _ <| wp_region_lit <| ga 3 hF rfl fun a hF => ?_
  refine es 4 0 hF hS hp rfl rfl rfl rfl rfl rfl fun w22 hS => ?_
  refine wl_nil ?_
  refine xt ?_
  refine ret0n rfl hF ⟨rfl, ?_⟩
  unfold flushS
  rw [if_neg c13, if_neg c111, if_neg c130, if_pos c154]
  exact (hS.pm 5 [0, 1, 3, 4] rfl)
 refine rg hF rfl fun a hF => cx 161 hF rfl (fun c161 hF => ?_) fun c161 hF => ?_
 ·
  refine ws fun K22 hK22 => gb 1 0 hF hS rfl rfl rfl fun a hF => ?_
  replace hS := hS.pm 5 [1, 2, 0, 3, 4] rfl
  refine ck hF rfl (stpGuard_c (s := s) hS) ?_; rintro v w23 a ⟨rfl, hS⟩ hF
  refine wl_nil <| hK22 _ _ <| wp_region_lit <| gb 1 2 hF hS rfl rfl rfl fun a hF => ?_
  replace hS := hS.pm 5 [0, 4, 1, 2, 3] rfl
  refine ck hF rfl (stpFin_c (s := putS s (hazardCell s.config (p : Int) 1) 0) hp hS) ?_; rintro v w24 a ⟨rfl, hS⟩ hF
  refine wl_nil ?_
  refine xt ?_
  refine ret0n rfl hF ⟨rfl, ?_⟩
  unfold flushS
  rw [if_neg c13, if_neg c111, if_neg c130, if_neg c154, if_pos c161]
  exact (hS.pm 5 [0, 2, 4, 1] rfl)
 refine wp_skip ?_
 refine xt ?_
 refine ret0n rfl hF ⟨rfl, ?_⟩
 unfold flushS
 rw [if_neg c13, if_neg c111, if_neg c130, if_neg c154, if_neg c161]
 exact (hS.pm 5 [1, 2, 3, 4] rfl)
theorem implStepFlush_c {W : World} {s : Sl.State} {cs : List Value} {p : Int} (hm : stateEK.K W s cs) (hw : s.wf) (hz : (s.size : Int) ≤ 1048576) (hp0 : int64 p) : Calls Tryz.prog 31 #[.agg cs.toArray, vi p] W (Ret (Mk W (fun vs => .tuple #[.agg (stateEK.cells (stepOf isF flushS s p).1 vs).toArray, .bool (stepOf isF flushS s p).2]) (fun vs => [Part stateEK (stepOf isF flushS s p).1 vs]))) := by
 refine cfr Tryz.func31 Tryz.ntmps31 fun a hF => ?_
 have hS := Sep.refl W
 obtain ⟨v0, v1, v2, rfl, r0, r1, r2⟩ := hm
 have hm : stateEK.K W s (s.encv v0 v1 v2) := ⟨_, _, _, rfl, r0, r1, r2⟩
 obtain ⟨A_a, q_a, rfl, hq_a, hn_a⟩ := r0.sl; unfold maxLen at hn_a
 obtain ⟨A_b, q_b, rfl, hq_b, hn_b⟩ := r1.sl; unfold maxLen at hn_b
 obtain ⟨A_c, q_c, rfl, hq_c, hn_c⟩ := r2.sl; unfold maxLen at hn_c
 refine ws fun K1 hK1 => wl_box (cs := [_, _, _, _, _, _, _, _, _, _, _, _, _]) hF hS rfl (hF.ev rfl) rfl fun g1 w1 a hS _ hF => wl_alloc hF hS rfl zr29 fun g2 w2 a hS _ hF => ge hK1 hF rfl fun a hF => ws fun K2 hK2 => gb 2 1 hF hS rfl rfl rfl fun a hF => ?_
 refine wl_mk hF hS rfl rfl rfl (r_call4 en58 (hF.ev rfl) (hF.ev rfl) ef ef) (stepIf_c (isf := isF) (stf := stepBy flushS) (hS.k hm) hw hz hp0 (by kernel_rfl) (by kernel_rfl) (fun w_ n hB_ => by rw [app_0]; exact implIsFlush_c) (fun p' z0 z1 gt ot mt ct g l w_ hso hpe hp hmt hpc hS_ => by subst hpe; rw [app_0]; exact stpFlush_c hp (Fit.of hso hw hp) hS_)) ?_; rintro vs8 w3 a hS_ hF; replace hS := hS_; clear hS_; dsimp only [List.cons_append, List.nil_append] at hS
 refine ga 2 hF rfl fun a hF => ww 1 hF hS rfl rfl rfl rfl rfl rfl fun w4 hS => ge hK2 hF rfl fun a hF => ?_
 refine xr ?_
 refine ret2c rfl ag29 hF hS (i := 1) rfl sz29 rfl rfl ⟨vs8, ?_, ?_⟩
 · rw [← stepI_of flush_steps] <;> rfl
 · rw [← stepI_of flush_steps]; exact hS.pick [0] (by decide) rfl
set_option maxRecDepth 20000
theorem reclaim1_c {W : World} {n : Int} : Calls Tryz.prog 59 #[vi n] W (Ret fun v w' => v = .bool (isC n) ∧ Below W.heap.size W w') := by
 refine cfr Tryz.func59 Tryz.ntmps59 fun a hF => ?_
 have hS := Sep.refl W
 refine rg hF rfl fun a hF => rg hF rfl fun a hF => ?_
 refine xr ?_
 exact ret1 rfl hF rfl ⟨rfl, hS.old⟩
theorem stpReclaim_c {W w : World} {l : List Res} {g gt ot mt ct p : Nat} {z0 z1 : Slv} {s : Sl.State} {t : Sl.Thread} (hp : p < s.threads.length) (hf : Fit s t) (hS : Sep W (Box g ((s).encv (sv z0) (sv z1) (.slice (some ⟨gt, ot, none⟩) mt ct)) :: Own intEK (sv z0) (s).cells :: Own intEK (sv z1) (s).generations :: Own threadEK (.slice (some ⟨gt, ot, none⟩) mt ct) (s.threads.set p t) :: l) w) : Calls Tryz.prog 60 #[.agg #[.pointer (some ⟨g, 0, none⟩), .pointer (some ⟨gt, ot + p * 19, none⟩), vi (p : Int)]] w (Ret fun v w' => v = .tuple #[] ∧ Sep W (Box g (((reclaimS s t (p : Int)).1).encv (sv z0) (sv z1) (.slice (some ⟨gt, ot, none⟩) mt ct)) :: Own intEK (sv z0) ((reclaimS s t (p : Int)).1).cells :: Own intEK (sv z1) ((reclaimS s t (p : Int)).1).generations :: Own threadEK (.slice (some ⟨gt, ot, none⟩) mt ct) (s.threads.set p (reclaimS s t (p : Int)).2) :: l) w') := by
 refine cfr Tryz.func60 Tryz.ntmps60 fun a hF => ?_
 have hl0 := hS.own_len (q := 1) rfl
 have hl1 := hS.own_len (q := 2) rfl
 have hmt : mt = s.threads.length := by have := hS.own_len (q := 3) (s := (some ⟨gt, ot, none⟩, mt, ct)) rfl; simpa using this
 have hz1 := hf.sizes; unfold sizesOk at hz1
 refine ws fun K1 hK1 => wl_box (cs := [_, _, _]) hF hS rfl (hF.ev rfl) rfl fun g1 w1 a hS _ hF => wl_nil <| hK1 _ _ <| rh 0 hF hS rfl rfl rfl fun a hF => wp_cut (fun a w => Sep W (Box g1 [.pointer (some ⟨g, 0, none⟩), .pointer (some ⟨gt, ot + p * 19, none⟩), vi (p : Int)] :: Box g (s.encv (sv z0) (sv z1) (.slice (some ⟨gt, ot, none⟩) mt ct)) :: Own intEK (sv z0) s.cells :: Own intEK (sv z1) s.generations :: Own threadEK (.slice (some ⟨gt, ot, none⟩) mt ct) (s.threads.set p ({ t with found := (foundN t (scanN s t)) })) :: l) w ∧ Fr 125 [(1, .pointer (some ⟨g1, 0, none⟩)), (2, .pointer (some ⟨gt, ot + p * 19, none⟩))] a) ?_ ?_
 ·
  refine wp_seq_k fun K3 hK3 => wp_region_calm (by kernel_rfl) (by kernel_rfl) <| qb 5 0 hF tk hS rfl rfl rfl fun a hF => wq hF rfl rfl rfl (fun w_ hB_ => r_loadn ag25 (hF.ev rfl) ((hS.ext hB_).boxn (vs := [_, _, _, _, _, _]) (i := 1) (m := 6) rfl rfl) sz25) fun a hF => qa 3 hF tk rfl fun a hF => wq hF rfl rfl rfl (fun w_ hB_ => r_load1 sc3 (hF.ev rfl) ((hS.ext hB_).elt1 (q := 4) (j := 13) hp rfl (fun _ => rfl))) fun a hF => wq hF rfl rfl rfl (fun w_ hB_ => r_quo (by first | decide | omega) (hF.ev rfl) ec) fun a hF => ?_
  refine qa 3 hF tk rfl fun a hF => wq hF rfl rfl rfl (fun w_ hB_ => r_load1 sc3 (hF.ev rfl) ((hS.ext hB_).elt1 (q := 4) (j := 13) hp rfl (fun _ => rfl))) fun a hF => wq hF rfl rfl rfl (fun w_ hB_ => r_rem (by first | decide | omega) (hF.ev rfl) ec) fun a hF => qk hF rfl (fun w_ hB_ => implHazardCell_c _ _ _) fun a hF => qk hF rfl (fun w_ hB_ => stpLoad_c (fun j u hu => (hS.ext hB_).box7 (i := 1) rfl j u hu) ((hS.ext hB_).own_rd (i := 2) rfl)) fun a hF => qa 1 hF tk rfl fun a hF => ?_
  refine wpQuiet_nil ?_; intro w2 hB_; have hS := hS.ext hB_
  refine hK3 _ _ <| rg hF rfl fun a hF => cx 30 hF rfl (fun c30 hF => ?_) fun c30 hF => ?_
  ·
   obtain ⟨A0_, A1_, A2_, A3_, A4_, k0_, k1_, k2_, k3_, k4_, ⟨n0_, n1_, n2_, n3_, n4_⟩, ⟨q0_, q1_, q2_, q3_, q4_⟩, hS_⟩ := Sep.thr_lend (t := t) (hS.pm 5 [4, 0, 1, 2, 3] rfl) hp; replace hS := hS_; clear hS_; unfold maxLen at n0_ n1_ n2_ n3_ n4_; try dsimp only at n0_ n1_ n2_ n3_ n4_ q0_ q1_ q2_ q3_ q4_
   dsimp only [Thread.encv] at hS
   refine wp_region_lit <| ga 4 hF rfl fun a hF => wl hF rfl rfl rfl (r_load1 sc26 (hF.ev rfl) (hS.but1 (q := 5) (j := 14) rfl rfl)) fun a hF => ga 1 hF rfl fun a hF => wl_bslice intEK [vi (scanN s t)] [scanN s t] rfl hF hS rfl mk26 rfl ⟨rfl, (hF.ev rfl), trivial⟩ rfl rfl rfl rfl fun gl_37 w3 a hS hF => ?_
   refine wl_append (q := 1) hF hS rfl rfl (hS.own_rd (i := 0) rfl) mk26 rfl (hF.ev rfl) (hF.ev rfl) (by simp; omega) (by unfold maxLen; simp; omega) ?_; intro A_38 c_38 w4 a hS_ hF; replace hS := hS_; clear hS_; dsimp only [List.set, List.length_cons, List.length_nil] at hS hF
   refine ga 2 hF rfl fun a hF => ?_
   refine wl_bstore (q := 6) (j := 14) hF hS rfl sz26 (hF.ev rfl) rfl (hF.ev rfl) rfl rfl fun w5 hS => ?_; dsimp only [List.set] at hS
   refine wl_nil ?_
   refine xt ?_
   have e0 : (foundN t (scanN s t)) = t.found ++ [scanN s t] := if_neg c30
   replace hS := Sep.thr_back (t' := { t with found := t.found ++ [scanN s t] }) (y0 := (_, _, _)) (y1 := (_, _, _)) (y2 := (_, _, _)) (y3 := (_, _, _)) (y4 := (_, _, _)) (hS.pm 11 [1, 2, 3, 4, 5, 6, 0, 7, 8, 9, 10] rfl) rfl
   rw [e0]
   exact ⟨(hS.pm 6 [2, 3, 4, 5, 0] rfl), ((hF.nil.keepE hF (t := 2) rfl rfl).keepE hF (t := 1) rfl rfl)⟩
  refine wp_skip ?_
  refine xt ?_
  have e0 : (foundN t (scanN s t)) = t.found := if_pos c30
  rw [e0]
  exact ⟨hS, ((hF.nil.keepE hF (t := 2) rfl rfl).keepE hF (t := 1) rfl rfl)⟩
 rintro a w6 ⟨hS, hF⟩
 refine wp_seq_k fun K5 hK5 => ws fun K6 hK6 => ga 3 hF rfl fun a hF => wl hF rfl rfl rfl (r_load1 sc3 (hF.ev rfl) (hS.elt1 (q := 4) (j := 13) hp rfl (fun _ => rfl))) fun a hF => ga 3 hF rfl fun a hF => ?_
 refine es 4 13 hF hS hp rfl rfl rfl rfl rfl rfl fun w7 hS => ?_
 refine wl_nil <| hK6 _ _ <| wp_seq_k fun K7 hK7 => wp_region_calm (by kernel_rfl) (by kernel_rfl) <| qa 3 hF tk rfl fun a hF => wq hF rfl rfl rfl (fun w_ hB_ => r_load1 sc3 (hF.ev rfl) ((hS.ext hB_).elt1 (q := 4) (j := 13) hp rfl (fun _ => rfl))) fun a hF => qb 5 0 hF tk hS rfl rfl rfl fun a hF => qb 3 1 hF tk hS rfl rfl rfl fun a hF => ?_
 refine wpQuiet_nil ?_; intro w8 hB_; have hS := hS.ext hB_
 refine hK7 _ _ <| cx 59 hF rfl (fun c59 hF => ?_) fun c59 hF => ?_
 ·
  refine xr ?_
  refine ret0 rfl hF ⟨rfl, ?_⟩
  unfold reclaimS
  rw [if_pos c59]
  exact (hS.pm 5 [1, 2, 3, 4] rfl)
 obtain ⟨A0_, A1_, A2_, A3_, A4_, k0_, k1_, k2_, k3_, k4_, ⟨n0_, n1_, n2_, n3_, n4_⟩, ⟨q0_, q1_, q2_, q3_, q4_⟩, hS_⟩ := Sep.thr_lend (t := { t with found := (foundN t (scanN s t)), at_ := IntKind.i64.wrap (t.at_ + 1) }) (hS.pm 5 [4, 0, 1, 2, 3] rfl) hp; replace hS := hS_; clear hS_; unfold maxLen at n0_ n1_ n2_ n3_ n4_; try dsimp only at n0_ n1_ n2_ n3_ n4_ q0_ q1_ q2_ q3_ q4_
 dsimp only [Thread.encv] at hS
 have hgl0 := hf.lg
 refine wp_skip <| hK5 _ _ <| wp_seq_k fun K8 hK8 => ?_
 refine wp_region_todo (is := [0, 1, 2, 3, 4, 5, 6, 7, 8, 9, 10, 11, 12, 13]) [] [] (by kernel_rfl) hF hS ⟨trivial, by decide, by decide, by decide⟩ (by kernel_rfl) ?_; intro hl_ wd hSd
 refine tp 3 hl_ rfl <| todo_load [8, 9, 10, 11, 12, 13] hl_ (by kernel_rfl) rfl (gw0 rfl) rfl rfl rfl (fun a w_ hF hB_ => r_load1 sc26 (hF.ev rfl) ((hSd.ext hB_).but1 (q := 5) (j := 18) rfl rfl)) <| tp 3 hl_ rfl <| todo_load [8, 9, 10, 11, 12, 13] hl_ (by kernel_rfl) rfl (gw0 rfl) rfl rfl rfl (fun a w_ hF hB_ => r_load1 sc26 (hF.ev rfl) ((hSd.ext hB_).but1 (q := 5) (j := 14) rfl rfl)) ?_
 refine todo_mk hl_ rfl (by kernel_rfl) rfl rfl rfl rfl rfl (fun a w_ hF => r_call2 en18 (hF.ev rfl) (hF.ev rfl)) (fun w_ hS => implSplit_c (hS.own_rd (i := 4) rfl) (hS.own_rd (i := 0) rfl) (by omega)) ?_; rintro ⟨p69, q69⟩
 refine tp 5 hl_ rfl ?_
 refine todo_fin hl_ rfl (by kernel_rfl) (tl := []) rfl ?_; intro a w9 hF hA_
 have hS := hA_.sep; clear hA_
 clear hl_; try clear hSd
 try dsimp only [List.cons_append, List.nil_append, List.set] at hS
 try clear wd
 refine wl_nil ⟨rfl, ?_⟩
 refine hK8 _ _ <| ws fun K9 hK9 => wl hF rfl rfl rfl (r_move (hF.ev rfl)) fun a hF => ?_
 obtain ⟨⟨Ap, np, cp⟩, rfl⟩ := hS.own_sv (q := 0) rfl; obtain rfl : np = _ := hS.own_len (q := 0) (s := (Ap, np, cp)) rfl
 obtain ⟨⟨Aq, nq, cq⟩, rfl⟩ := hS.own_sv (q := 1) rfl; obtain rfl : nq = _ := hS.own_len (q := 1) (s := (Aq, nq, cq)) rfl
 have hq1 := out_le' t.limbo (foundN t (scanN s t))
 replace hS : Sep W (Own intEK (.slice Ap _ cp) _ :: Own intEK (.slice Aq _ cq) _ :: _) _ := hS
 try dsimp only at hF
 refine ga 3 hF rfl fun a hF => ?_
 refine wl_bstore (q := 7) (j := 18) hF hS rfl sz26 (hF.ev rfl) rfl (hF.ev rfl) rfl rfl fun w10 hS => ?_; dsimp only [List.set] at hS
 refine wl_nil <| hK9 _ _ <| wp_seq_k fun K10 hK10 => rg hF rfl fun a hF => wp_block ?_
 replace hS := hS.pull (p := 7) rfl; dsimp only [List.eraseIdx] at hS
 replace hS := hS.pull (p := 11) rfl; dsimp only [List.eraseIdx] at hS
 replace hS := hS.pull (p := 5) rfl; dsimp only [List.eraseIdx] at hS
 have hL_ := ((((hF.nil.keep hF (t := 77) rfl).keep hF (t := 76) rfl).keep hF (t := 2) rfl).keep hF (t := 1) rfl)
 refine wp_loop_m (σ := Nat × Slv) (fun z L_ => (78, vi z.1) :: L_) (fun z l_ => (Own intEK (sv z.2) (freeAll s.generations t.free ((splitOut t.limbo (foundN t (scanN s t))).take z.1)).2) :: (Own intEK (sv z1) (freeAll s.generations t.free ((splitOut t.limbo (foundN t (scanN s t))).take z.1)).1) :: (OwnBut threadEK (.slice (some ⟨gt, ot, none⟩) mt ct) (s.threads.set p ({ t with found := (foundN t (scanN s t)), at_ := IntKind.i64.wrap (t.at_ + 1) })) p (Thread.encv ({ t with found := (foundN t (scanN s t)), at_ := IntKind.i64.wrap (t.at_ + 1) }) (.slice A0_ (foundN t (scanN s t)).length k0_) (sv z.2) (.slice A2_ t.buffer.length k2_) (.slice A3_ t.work.length k3_) (.slice Ap (splitIn t.limbo (foundN t (scanN s t))).length cp))) :: l_) (fun z => (z.1 ≤ (splitOut t.limbo (foundN t (scanN s t))).length)) (fun z => (splitOut t.limbo (foundN t (scanN s t))).length - z.1) (0, (A1_, t.free.length, k1_)) (hS) (hL_.keepE hF (t := 78) rfl rfl) ?_ ?_
 · exact Nat.zero_le _
 rintro ⟨k, Af, nf, cf⟩ a w11 hk hS hF; try dsimp only at hF; try dsimp only at hS; try dsimp only at hk
 obtain rfl : nf = _ := hS.own_len (q := 0) (s := (Af, nf, cf)) rfl
 replace hS : Sep W (Own intEK (.slice Af _ cf) _ :: _) _ := hS
 refine rg hF rfl fun a hF => wp_seq_k fun K13 hK13 => cx 79 hF rfl (fun c79 hF => ?_) fun c79 hF => ?_
 ·
  have hlt : k < (splitOut t.limbo (foundN t (scanN s t))).length := by omega
  have hx := at0_nat hlt
  have hm_ : at0 (splitOut t.limbo (foundN t (scanN s t))) (k : Int) ∈ splitOut t.limbo (foundN t (scanN s t)) := at0_mem (by omega) (by omega)
  obtain ⟨hh1, hi0, hi1⟩ := hf.nodes hm_
  have hgl := freeAll_len (gs := s.generations) (fr := t.free) (hs := (splitOut t.limbo (foundN t (scanN s t))).take k)
  refine wp_skip <| hK13 _ _ <| wp_seq_k fun K14 hK14 => wp_block <| ws fun K15 hK15 => ?_
  obtain ⟨g80, o80, m80, q80, hv80, hm80, hl80, hc80⟩ := Rd.atF ((hS.own_rd (i := 4) rfl)) (a := a) (X := .tmp 78) (hF.ev rfl) (by omega) (by omega)
  refine wl hF rfl rfl rfl (r_index sl26 ((hF.ev rfl).trans hv80) (hF.ev rfl) (by omega) (by first | omega | (simp at hm80; omega))) fun a hF => ?_
  refine wl hF rfl rfl rfl (r_load1 sc3 (hF.ev rfl) (hc80 0 _ rfl)) fun a hF => ge hK15 hF rfl fun a hF => ws fun K16 hK16 => ga 1 hF rfl fun a hF => ckr hF hS rfl (implIndexOf_c hh1) fun w12 a hS hF => ge hK16 hF rfl fun a hF => ws fun K17 hK17 => ?_
  refine gb 4 9 hF hS rfl rfl rfl fun a hF => gb 2 10 hF hS rfl rfl rfl fun a hF => ?_
  obtain ⟨g90, o90, m90, q90, hv90, hm90, hl90, hc90⟩ := Rd.atF ((hS.own_rd (i := 1) rfl)) (a := a) (X := .tmp 89) (hF.ev rfl) (by omega) (by omega)
  refine wl hF rfl rfl rfl (r_index sl26 ((hF.ev rfl).trans hv90) (hF.ev rfl) (by omega) (by first | omega | (simp at hm90; omega))) fun a hF => ?_
  refine wl hF rfl rfl rfl (r_load1 sc3 (hF.ev rfl) (hc90 0 _ rfl)) fun a hF => ga 2 hF rfl fun a hF => ?_
  apply wa 7 93 100 hF hS
  ·
   intro hg93 a hF
   refine ga 3 hF rfl fun a hF => wl_take hF rfl rfl rfl rfl <| wl hF rfl rfl rfl (r_load1 sc26 (hF.ev rfl) (hS.but1 (q := 2) (j := 15) rfl rfl)) fun a hF => ?_
   exact je 7 hF hS rfl rfl rfl rfl
  intro a w13 hF hS
  refine wl_nil <| hK17 _ _ <| cx 100 hF rfl (fun c100 hF => ?_) fun c100 hF => ?_
  ·
   refine ws fun K18 hK18 => gb 4 9 hF hS rfl rfl rfl fun a hF => gb 2 10 hF hS rfl rfl rfl fun a hF => ?_
   obtain ⟨g107, o107, m107, q107, hv107, hm107, hl107, hc107⟩ := Rd.atF ((hS.own_rd (i := 1) rfl)) (a := a) (X := .tmp 106) (hF.ev rfl) (by omega) (by omega)
   refine wl hF rfl rfl rfl (r_index sl26 ((hF.ev rfl).trans hv107) (hF.ev rfl) (by omega) (by first | omega | (simp at hm107; omega))) fun a hF => ?_
   refine wl hF rfl rfl rfl (r_load1 sc3 (hF.ev rfl) (hc107 0 _ rfl)) fun a hF => ga 1 hF rfl fun a hF => ?_
   obtain ⟨g110, o110, m110, q110, hv110, hm110, hl110, hc110⟩ := Rd.atF ((hS.own_rd (i := 1) rfl)) (a := a) (X := .tmp 106) (hF.ev rfl) (by omega) (by omega)
   refine wl hF rfl rfl rfl (r_index sl26 ((hF.ev rfl).trans hv110) (hF.ev rfl) (by omega) (by first | omega | (simp at hm110; omega))) fun a hF => ?_
   refine wl_istore (q := 1) hF hS rfl hv110 (by omega) (by omega) sz3 (hF.ev rfl) rfl (hF.ev rfl) fun w14 hS => ?_; dsimp only [List.set] at hS
   refine wl_nil <| hK18 _ _ <| wp_region_lit <| ga 4 hF rfl fun a hF => wl hF rfl rfl rfl (r_load1 sc26 (hF.ev rfl) (hS.but1 (q := 2) (j := 15) rfl rfl)) fun a hF => ga 1 hF rfl fun a hF => wl_bslice intEK [vi (indexOf (at0 (splitOut t.limbo (foundN t (scanN s t))) (k : Int)))] [indexOf (at0 (splitOut t.limbo (foundN t (scanN s t))) (k : Int))] rfl hF hS rfl mk26 rfl ⟨rfl, (hF.ev rfl), trivial⟩ rfl rfl rfl rfl fun gl_117 w15 a hS hF => ?_
   refine wl_append (q := 1) hF hS rfl rfl (hS.own_rd (i := 0) rfl) mk26 rfl (hF.ev rfl) (hF.ev rfl) (by simp; omega) (by unfold maxLen; simp; omega) ?_; intro A_118 c_118 w16 a hS_ hF; replace hS := hS_; clear hS_; dsimp only [List.set, List.length_cons, List.length_nil] at hS hF
   refine ga 2 hF rfl fun a hF => ?_
   refine wl_bstore (q := 3) (j := 15) hF hS rfl sz26 (hF.ev rfl) rfl (hF.ev rfl) rfl rfl fun w17 hS => ?_; dsimp only [List.set] at hS
   refine wl_nil ?_
   refine xt ?_
   refine hK14 _ _ <| rl hF rfl fun a hF => ?_
   refine xt ?_
   have e_ := freeAll_yes (gs := s.generations) (fr := t.free) hx c100; have e1 := congrArg Prod.fst e_; have e2 := congrArg Prod.snd e_; dsimp only at e1 e2; rw [← e1, ← e2] at hS
   refine ⟨(k + 1, (_, _, _)), (by dsimp only; omega), (hS.pm 13 [1, 2, 3, 4, 5, 6, 7, 8, 9, 10, 11, 12] rfl), (((((hF.nil.keep hF (t := 77) rfl).keep hF (t := 76) rfl).keep hF (t := 2) rfl).keep hF (t := 1) rfl).keepE hF (t := 78) rfl (wk (by omega))), by dsimp only; omega⟩
  refine wp_skip ?_
  refine xt ?_
  refine hK14 _ _ <| rl hF rfl fun a hF => ?_
  refine xt ?_
  have e_ := freeAll_no (gs := s.generations) (fr := t.free) hx (by omega); rw [← e_] at hS
  refine ⟨(k + 1, (_, _, _)), (by dsimp only; omega), hS, (((((hF.nil.keep hF (t := 77) rfl).keep hF (t := 76) rfl).keep hF (t := 2) rfl).keep hF (t := 1) rfl).keepE hF (t := 78) rfl (wk (by omega))), by dsimp only; omega⟩
 obtain rfl : k = (splitOut t.limbo (foundN t (scanN s t))).length := by omega
 rw [List.take_length] at hS
 replace hS := Sep.thr_back (t' := { t with found := (foundN t (scanN s t)), at_ := IntKind.i64.wrap (t.at_ + 1), limbo := splitIn t.limbo (foundN t (scanN s t)), free := (freeAll s.generations t.free (splitOut t.limbo (foundN t (scanN s t)))).2 }) (y0 := (_, _, _)) (y1 := (_, _, _)) (y2 := (_, _, _)) (y3 := (_, _, _)) (y4 := (_, _, _)) (hS.pm 12 [5, 0, 6, 7, 3, 2, 1, 4, 8, 9, 10, 11] rfl) rfl
 refine wp_exit ?_
 refine xt ?_
 refine hK10 _ _ <| wp_region_lit <| ga 1 hF rfl fun a hF => wl hF rfl rfl rfl (r_build (bd39) trivial) fun a hF => ?_
 refine ck hF rfl (thEnd_c (r := ⟨0, 0⟩) hp hS) ?_; rintro v w18 a ⟨rfl, hS⟩ hF
 refine wl_nil ?_
 refine xt ?_
 refine ret0n rfl hF ⟨rfl, ?_⟩
 unfold reclaimS
 rw [if_neg c59]
 exact (hS.pm 7 [5, 6, 1, 0] rfl)
theorem implStepReclaim_c {W : World} {s : Sl.State} {cs : List Value} {p : Int} (hm : stateEK.K W s cs) (hw : s.wf) (hz : (s.size : Int) ≤ 1048576) (hp0 : int64 p) : Calls Tryz.prog 22 #[.agg cs.toArray, vi p] W (Ret (Mk W (fun vs => .tuple #[.agg (stateEK.cells (stepOf isC reclaimS s p).1 vs).toArray, .bool (stepOf isC reclaimS s p).2]) (fun vs => [Part stateEK (stepOf isC reclaimS s p).1 vs]))) := by
 refine cfr Tryz.func22 Tryz.ntmps22 fun a hF => ?_
 have hS := Sep.refl W
 obtain ⟨v0, v1, v2, rfl, r0, r1, r2⟩ := hm
 have hm : stateEK.K W s (s.encv v0 v1 v2) := ⟨_, _, _, rfl, r0, r1, r2⟩
 obtain ⟨A_a, q_a, rfl, hq_a, hn_a⟩ := r0.sl; unfold maxLen at hn_a
 obtain ⟨A_b, q_b, rfl, hq_b, hn_b⟩ := r1.sl; unfold maxLen at hn_b
 obtain ⟨A_c, q_c, rfl, hq_c, hn_c⟩ := r2.sl; unfold maxLen at hn_c
 refine ws fun K1 hK1 => wl_box (cs := [_, _, _, _, _, _, _, _, _, _, _, _, _]) hF hS rfl (hF.ev rfl) rfl fun g1 w1 a hS _ hF => wl_alloc hF hS rfl zr29 fun g2 w2 a hS _ hF => ge hK1 hF rfl fun a hF => ws fun K2 hK2 => gb 2 1 hF hS rfl rfl rfl fun a hF => ?_
 refine wl_mk hF hS rfl rfl rfl (r_call4 en58 (hF.ev rfl) (hF.ev rfl) ef ef) (stepIf_c (isf := isC) (stf := stepBy reclaimS) (hS.k hm) hw hz hp0 (by kernel_rfl) (by kernel_rfl) (fun w_ n hB_ => by rw [app_0]; exact reclaim1_c) (fun p' z0 z1 gt ot mt ct g l w_ hso hpe hp hmt hpc hS_ => by subst hpe; rw [app_0]; exact stpReclaim_c hp (Fit.of hso hw hp) hS_)) ?_; rintro vs8 w3 a hS_ hF; replace hS := hS_; clear hS_; dsimp only [List.cons_append, List.nil_append] at hS
 refine ga 2 hF rfl fun a hF => ww 1 hF hS rfl rfl rfl rfl rfl rfl fun w4 hS => ge hK2 hF rfl fun a hF => ?_
 refine xr ?_
 refine ret2c rfl ag29 hF hS (i := 1) rfl sz29 rfl rfl ⟨vs8, ?_, ?_⟩
 · rw [← stepI_of reclaim_steps] <;> rfl
 · rw [← stepI_of reclaim_steps]; exact hS.pick [0] (by decide) rfl
theorem en24 : enterB Tryz.prog 24 = true := by kernel_rfl
theorem en26 : enterB Tryz.prog 26 = true := by kernel_rfl
theorem en27 : enterB Tryz.prog 27 = true := by kernel_rfl
theorem en28 : enterB Tryz.prog 28 = true := by kernel_rfl
theorem en29 : enterB Tryz.prog 29 = true := by kernel_rfl
theorem en30 : enterB Tryz.prog 30 = true := by kernel_rfl
theorem en31 : enterB Tryz.prog 31 = true := by kernel_rfl
set_option maxRecDepth 20000
def isE (n : Int) : Bool := decide (n = 80)
theorem scanEnd_steps (s : Sl.State) (t : Sl.Thread) (p : Int) : scanEndS (stepped s) t p = (stepped (scanEndS s t p).1, (scanEndS s t p).2) := rfl
theorem stepEnd_of (s : Sl.State) (p : Int) : stepEnd s p = stepOf isE scanEndS s p := by
 rw [← stepEnd_I, ← stepI_of scanEnd_steps]; rfl
theorem Drawn.h31 {s : Sl.State} (h : Drawn s) : ∀ t ∈ s.threads, H31 s t := fun t ht hp hh => by
  rcases h.p31 t ht hp with h1 | h1
  · exact h1
  · unfold hitB at hh; simp only [Bool.and_eq_true, decide_eq_true_eq] at hh; exact (h1 hh.2).elim
section
variable {s : Sl.State} {t : Sl.Thread} {p : Int}
theorem kB (h : isB t.pc = true) : stepS s t p = beginS s t p := by unfold stepS; rw [if_pos h]
theorem kW (h : isW t.pc = true) : stepS s t p = walkS s t p := by
 unfold stepS; rw [if_neg (by unfold isB; unfold isW at h; simp only [decide_eq_true_eq] at *; omega), if_pos h]
theorem kR (h : isR t.pc = true) : stepS s t p = readS s t p := by
 unfold stepS; rw [if_neg (by unfold isB; unfold isR at h; simp only [decide_eq_true_eq] at *; omega), if_neg (by unfold isW; unfold isR at h; simp only [decide_eq_true_eq] at *; omega), if_pos h]
theorem kX (h : isWr t.pc = true) : stepS s t p = writeS s t p := by
 unfold stepS; rw [if_neg (by unfold isB; unfold isWr at h; simp only [decide_eq_true_eq] at *; omega), if_neg (by unfold isW; unfold isWr at h; simp only [decide_eq_true_eq] at *; omega), if_neg (by unfold isR; unfold isWr at h; simp only [decide_eq_true_eq] at *; omega), if_pos h]; rfl
theorem no4 {n : Int} (h : 50 ≤ n) : ¬ isB n = true ∧ ¬ isW n = true ∧ ¬ isR n = true ∧ ¬ isWr n = true := by
 unfold isB isW isR isWr; simp only [decide_eq_true_eq]; omega
theorem kF (h : isF t.pc = true) : stepS s t p = flushS s t p := by
 have h5 := no4 (n := t.pc) (by unfold isF at h; simp only [Bool.or_eq_true, decide_eq_true_eq] at h; omega)
 unfold stepS; rw [if_neg h5.1, if_neg h5.2.1, if_neg h5.2.2.1, if_neg h5.2.2.2, if_pos h]
theorem kC (h : isC t.pc = true) : stepS s t p = reclaimS s t p := by
 have hq : t.pc = 70 := by unfold isC at h; simpa using h
 have h5 := no4 (n := t.pc) (by omega)
 unfold stepS; rw [if_neg h5.1, if_neg h5.2.1, if_neg h5.2.2.1, if_neg h5.2.2.2, if_neg (by rw [hq]; decide), if_pos hq]
theorem kE (h : isE t.pc = true) : stepS s t p = scanEndS s t p := by
 have hq : t.pc = 80 := by unfold isE at h; simpa using h
 have h5 := no4 (n := t.pc) (by omega)
 unfold stepS; rw [if_neg h5.1, if_neg h5.2.1, if_neg h5.2.2.1, if_neg h5.2.2.2, if_neg (by rw [hq]; decide), if_neg (by omega), if_pos hq]
theorem kind_eq {isf : Int → Bool} {f : Sl.State → Sl.Thread → Int → Sl.State × Sl.Thread} (hk : ∀ {s t p}, isf t.pc = true → stepS s t p = f s t p) (h : (stepOf isf f s p).2 = true) : (stepOf isf f s p).1 = (stepAll s p).1 := by
 unfold stepOf at h ⊢
 split at h
 · rename_i hc
   have hr := running_of hc.1
   unfold stepAll
   rw [if_pos hc, if_pos hc.1]
   show stepBy f (stepped s) p.toNat = stepBy stepS (stepped s) p.toNat
   unfold stepBy
   rw [hk (by rw [show ((p.toNat : Nat) : Int) = p by omega]; exact hc.2)]
 · cases h
theorem run_pc (h : isRunning s p = true) : (at0 s.threads p).pc ∈ pcs ∧ ¬ (at0 s.threads p).pc = 0 := by
 have hr := running_of h
 have ht := state_thread hr.1 hr.2.1 hr.2.2
 unfold threadOk at ht; unfold isRunning at h
 simp only [Bool.and_eq_true, decide_eq_true_eq, Bool.not_eq_true', decide_eq_false_iff_not] at ht h
 exact ⟨ht.1.1.1.2.1.1, h.2⟩
end
theorem drawStp_c {W : World} {vb : Value} {bs : List Int} (hb : byteEK.Rd W vb bs) (hz : bs.length ≤ 1048576) : Calls Tryz.prog 24 #[vb] W (Ret (Mk W (fun z : {z : Sl.State × List Slv × Int // Drawn z.1 ∧ int64 z.2.2} => .tuple #[.agg (stateEK.cells z.1.1 z.1.2.1).toArray, vi z.1.2.2]) (fun z => [Part stateEK z.1.1 z.1.2.1]))) := by
 refine cfr Tryz.func24 Tryz.ntmps24 fun a hF => ?_
 have hS := Sep.refl W
 refine ws fun K1 hK1 => wl_alloc hF hS rfl zr29 fun g1 w1 a hS _ hF => ge hK1 hF rfl fun a hF => ws fun K2 hK2 => wl hF rfl rfl rfl (r_move (hF.ev rfl)) fun a hF => ?_
 have hbs := hb
 refine wl_mk hF hS rfl rfl rfl (r_call1 en37 (hF.ev rfl)) (l10Draw_c (hS.rd hb) (by omega)) ?_; rintro ⟨⟨g9, x9, vs9, p9⟩, hg9, hp9⟩ w2 a hS_ hF; replace hS := hS_; clear hS_; dsimp only [List.cons_append, List.nil_append] at hS
 refine ga 4 hF rfl fun a hF => wl_alloc hF hS rfl zr29 fun g2 w3 a hS _ hF => ga 1 hF rfl fun a hF => ww 0 hF hS rfl rfl rfl rfl rfl rfl fun w4 hS => ge hK2 hF rfl fun a hF => ws fun K3 hK3 => gb 2 0 hF hS rfl rfl rfl fun a hF => ?_
 refine ww 3 hF hS rfl rfl rfl rfl rfl rfl fun w5 hS => ge hK3 hF rfl fun a hF => ?_
 refine xr ?_
 exact ret2c rfl ag29 hF hS (i := 3) rfl sz29 rfl rfl ⟨⟨(x9, vs9, _), hg9, hp9⟩, rfl, hS.pick [1] (by decide) rfl⟩
end Go.Proofs.YtgofolgogfmhgaaGreat.Wk
