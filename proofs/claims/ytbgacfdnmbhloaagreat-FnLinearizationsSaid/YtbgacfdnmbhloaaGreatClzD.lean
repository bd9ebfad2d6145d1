/- Lemmas for the row of RwLz. -/
import Derived.Test.YtbgacfdnmbhloaaGreatClzC
set_option maxHeartbeats 4000000
set_option maxRecDepth 20000
namespace Go.Proofs.YtbgacfdnmbhloaaGreat.Wk
open Go Go.RowKit Sl
set_option linter.unusedVariables false
set_option linter.unusedSimpArgs false
set_option maxRecDepth 20000
def newCells (c : Config) : List Int := if c.ok then (List.replicate (cellCount c).toNat 0).set 0 1 else []
def zeroState : Sl.State := ⟨⟨0, 0, 0, 0, 0, 0⟩, [], [], [], 0, 0, 0, 0⟩
def newState (c : Config) : Sl.State := if c.ok then ⟨c, newCells c, List.replicate c.capacity.toNat 0, List.replicate c.threads.toNat default, 0, 0, 0, 0⟩ else zeroState
theorem _root_.Go.Proofs.YtbgacfdnmbhloaaGreat.Sl.Sep.nilpart {α : Type} {ek : EK α} {x : α} {vs : List Slv} {w0 w : World} {l : List Res} (h : Sep w0 l w) (hin : Sat (ek.inner x vs) (fun _ => False) w) : Sep w0 (Part ek x vs :: l) w := h.new (Below.refl _ _) (hin.mono (fun k hk => hk.elim))
theorem nil_sat {α : Type} (ek : EK α) {l : List Res} {w : World} (h : Sat l (fun _ => False) w) : Sat (Own ek (sv (none, 0, 0)) [] :: l) (fun _ => False) w := Sat.cons (S1 := fun _ => False) (S' := fun _ => False) h (own_nil ek _ w) (fun k hk => hk) (fun k hk => hk) (fun k hk _ => hk)
theorem state_inner0 (w : World) : Sat (stateEK.inner zeroState []) (fun _ => False) w := nil_sat intEK (nil_sat intEK (nil_sat threadEK (Sat.nil _ _)))
theorem newCells_len {c : Config} (h : c.ok) : (newCells c).length = (cellCount c).toNat := by unfold newCells; rw [if_pos h]; simp
theorem rep_nx {α : Type} (k : Nat) (x : α) : List.replicate k x ++ [x] = List.replicate (k + 1) x := List.replicate_succ'.symm
theorem newState_size {c : Config} : (newState c).size ≤ 200 := by
 unfold newState
 split
 · rename_i hok
   have hc := newCells_len hok
   have hb := hok
   unfold Config.ok at hb
   have hcc := cellCount_eq hok
   have hz : ∀ n : Nat, crow Sl.Thread.size (List.replicate n default) = 0 := fun n => by
     induction n with
     | zero => rfl
     | succ n ih => rw [List.replicate_succ]; simp only [crow, ih]; rfl
   unfold Sl.State.size
   simp only [List.length_replicate, hz, hc]
   omega
 · unfold zeroState Sl.State.size; simp [crow]
theorem thread0_wf : (default : Sl.Thread).wf := ⟨int64_zero, ⟨int64_zero, int64_zero, int64_zero⟩, ⟨int64_zero, int64_zero⟩, int64_zero, int64_zero, int64_zero, int64_zero, int64_zero, int64_zero, int64_zero, int64_zero, (fun _ h => by cases h), (fun _ h => by cases h), (fun _ h => by cases h), (fun _ h => by cases h), (fun _ h => by cases h)⟩
theorem ok_cwf {c : Config} (h : c.ok) : c.wf := by
 unfold Config.ok at h; refine ⟨?_, ?_, ?_, ?_, ?_, ?_⟩ <;> (unfold int64; omega)
theorem newCells_wf {c : Config} : ∀ x ∈ newCells c, int64 x := by
 unfold newCells
 split
 · intro x hx
   rcases List.mem_or_eq_of_mem_set hx with h | h
   · rw [(List.mem_replicate.1 h).2]; exact int64_zero
   · subst h; unfold int64; omega
 · intro x hx; cases hx
theorem new_eq {c : Config} (h : c.ok) : newState c = ⟨c, newCells c, List.replicate c.capacity.toNat 0, List.replicate c.threads.toNat default, 0, 0, 0, 0⟩ := if_pos h
theorem good_new {c : Config} (h : c.ok) : Good (newState c) := by
 have hb := h; unfold Config.ok at hb
 have hcc := cellCount_eq h
 have hcl := newCells_len h
 have hz := newState_size (c := c)
 refine ⟨?_, ?_, by omega, ?_⟩ <;> rw [new_eq h] <;> try dsimp only
 · refine ⟨h, ?_, ?_, ?_⟩ <;> dsimp only
   · rw [hcl]; omega
   · rw [List.length_replicate]; omega
   · rw [List.length_replicate]; omega
 · refine ⟨ok_cwf h, newCells_wf, ?_, ?_, int64_zero, int64_zero, int64_zero, int64_zero⟩
   · intro x hx; rw [(List.mem_replicate.1 hx).2]; exact int64_zero
   · intro x hx; rw [(List.mem_replicate.1 hx).2]; exact thread0_wf
 · intro t ht; rw [(List.mem_replicate.1 ht).2]; intro h0; exact absurd h0 (by decide)
theorem specNewCells_c {W : World} (c : Config) : Calls Tryz.prog 70 #[.agg c.enc.toArray] W (Ret (Mk W (fun z : Slv => sv z) (fun z => [Own intEK (sv z) (newCells c)]))) := by
 refine cfr Tryz.func70 Tryz.ntmps70 fun a hF => ?_
 have hS := Sep.refl W
 refine ws fun K1 hK1 => wl_box (cs := [_, _, _, _, _, _]) hF hS rfl (hF.ev rfl) rfl fun g1 w1 a hS _ hF => ge hK1 hF rfl fun a hF => wp_seq_k fun K2 hK2 => ws fun K3 hK3 => gB 1 0 hF hS rfl rfl rfl fun a hF => ckr hF hS rfl (specIsConfig_c _) fun w2 a hS hF => ?_
 refine ge hK3 hF rfl fun a hF => cx 6 hF rfl (fun c6 hF => ?_) fun c6 hF => ?_
 ·
  refine ws fun K4 hK4 => wl_bslice intEK [] [] rfl hF hS rfl mk29 rfl trivial rfl rfl rfl rfl fun gl_7 w3 a hS hF => ge hK4 hF rfl fun a hF => ?_
  refine xr ?_
  first
    | (refine ret1 rfl hF rfl ⟨(_, _, _), rfl, ?_⟩; rw [show newCells c = [] from if_neg c6]; exact hS.pick [0] (by decide) rfl)
    | (refine ret1 rfl hF rfl ⟨(_, _, _), rfl, ?_⟩; rw [show newCells c = _ from if_pos c6]; exact hS.pick [99] (by decide) rfl)
 have hb := c6; unfold Config.ok at hb
 have hcc := cellCount_eq c6
 refine wp_skip <| hK2 _ _ <| ws fun K5 hK5 => gB 1 0 hF hS rfl rfl rfl fun a hF => ckr hF hS rfl (specCellCount_c _) fun w4 a hS hF => ?_
 refine wl_make intEK 0 [] hF hS rfl mk29 rfl (fun _ => Sat.nil _ _) ((hF.ev rfl).trans (show vi (cellCount c) = Value.int .i64 ((Int.toNat (cellCount c) : Nat) : Int) from by rw [Int.toNat_of_nonneg (by omega)])) (by omega) (by unfold maxLen; omega) fun gm_10 w5 a hS hF => ?_
 refine ge hK5 hF rfl fun a hF => ws fun K6 hK6 => ga 1 hF rfl fun a hF => ?_
 refine wl_call hF rfl rfl rfl (r_call0 en81 ) (specClockCell_c) ?_; rintro v w6 a ⟨rfl, hB_⟩ hF; have hS := hS.ext hB_
 obtain ⟨g13, o13, m13, q13, hv13, hm13, hl13, hc13⟩ := Rd.atF ((hS.own_rd (i := 0) rfl)) (a := a) (X := .tmp 12) (hF.ev rfl) (by omega) (by simp; omega)
 refine wl hF rfl rfl rfl (r_index sl29 ((hF.ev rfl).trans hv13) (hF.ev rfl) (by omega) (by first | omega | (simp at hm13; omega))) fun a hF => ?_
 refine wl_istore (q := 0) hF hS rfl hv13 (by omega) (by omega) sz3 (hF.ev rfl) rfl ec fun w7 hS => ?_; dsimp only [List.set] at hS
 refine wl_nil <| hK6 _ _ <| rg hF rfl fun a hF => ?_
 refine xr ?_
 first
   | (refine ret1 rfl hF rfl ⟨(_, _, _), rfl, ?_⟩; rw [show newCells c = [] from if_neg c6]; exact hS.pick [99] (by decide) rfl)
   | (refine ret1 rfl hF rfl ⟨(_, _, _), rfl, ?_⟩; rw [show newCells c = _ from if_pos c6]; exact hS.pick [0] (by decide) rfl)
theorem specNewState_c {W : World} (c : Config) : Calls Tryz.prog 60 #[.agg c.enc.toArray] W (Ret (Mk W (fun vs => .agg (stateEK.cells (newState c) vs).toArray) (fun vs => [Part stateEK (newState c) vs]))) := by
 refine cfr Tryz.func60 Tryz.ntmps60 fun a hF => ?_
 have hS := Sep.refl W
 refine ws fun K1 hK1 => wl_box (cs := [_, _, _, _, _, _]) hF hS rfl (hF.ev rfl) rfl fun g1 w1 a hS _ hF => wl_alloc hF hS rfl zr75 fun g2 w2 a hS _ hF => wl_nil <| hK1 _ _ <| wp_seq_k fun K2 hK2 => ws fun K3 hK3 => gB 1 1 hF hS rfl rfl rfl fun a hF => ?_
 refine ckr hF hS rfl (specIsConfig_c _) fun w3 a hS hF => ge hK3 hF rfl fun a hF => cx 7 hF rfl (fun c7 hF => ?_) fun c7 hF => ?_
 ·
  refine ws fun K4 hK4 => wl hF rfl rfl rfl (r_build (bd75) trivial) fun a hF => ww 0 hF hS rfl rfl rfl rfl rfl rfl fun w4 hS => wl_nil (hK4 _ _ ?_)
  refine xr ?_
  first
    | (refine ret1c rfl ag75 hF hS (i := 0) rfl sz75 rfl ⟨[], ?_, ?_⟩
       · rw [show newState c = zeroState from if_neg c7]; rfl
       · rw [show newState c = zeroState from if_neg c7]; exact (Sep.nilpart (hS.pick [] (by decide) rfl) (state_inner0 _)))
    | (obtain rfl : k = c.threads.toNat := by omega
       have e : newState c = ⟨c, newCells c, List.replicate c.capacity.toNat 0, List.replicate c.threads.toNat default, 0, 0, 0, 0⟩ := if_pos c7
       refine ret1c rfl ag75 hF hS (i := 0) rfl sz75 rfl ⟨[s11, (some ⟨gm_14, 0, none⟩, c.capacity.toNat, c.capacity.toNat), q], ?_, ?_⟩
       · rw [e]; rfl
       · rw [e]; exact hS.part_of [99, 99, 99] (by decide) rfl)
 have hb := c7; unfold Config.ok at hb
 refine wp_skip <| hK2 _ _ <| wp_seq_k fun K5 hK5 => ?_
 refine wp_region_todo (is := [0, 1, 3, 4, 2, 5, 6, 8]) [(7, 3, [.int .i64 0, .int .i64 0, .int .i64 0, .int .i64 0, .int .i64 0, .int .i64 0, .slice none 0 0, .slice none 0 0, .slice none 0 0, .int .i64 0, .int .i64 0, .int .i64 0, .int .i64 0])] [8] (by kernel_rfl) hF hS ⟨⟨⟨_, _, _, rfl, zr75⟩, trivial⟩, by decide, by decide, by decide⟩ (by kernel_rfl) ?_; intro hl_ wd hSd
 refine todo_load [6, 8] hl_ (by kernel_rfl) rfl (gw0 rfl) rfl rfl rfl (fun a w_ hF hB_ => r_loadn ag25 (hF.ev rfl) ((hSd.ext hB_).box_rd (i := 1) rfl) sz25) <| todo_load [2, 6, 8] hl_ (by kernel_rfl) rfl (gw0 rfl) rfl rfl rfl (fun a w_ hF hB_ => r_loadn ag25 (hF.ev rfl) ((hSd.ext hB_).box_rd (i := 1) rfl) sz25) <| tp 1 hl_ rfl <| todo_load [5, 6, 8] hl_ (by kernel_rfl) rfl (gw0 rfl) rfl rfl rfl (fun a w_ hF hB_ => r_load1 sc3 (hF.ev rfl) ((hSd.ext hB_).box (i := 1) rfl rfl)) <| todo_fork [(2, [5, 6, 8]), (5, [2, 6, 8])] hl_ rfl (by kernel_rfl) (List.forall_mem_cons.2 ⟨?_, List.forall_mem_cons.2 ⟨?_, fun _ h_ => nomatch h_⟩⟩)
 ·
  refine op_mk rfl rfl (gw0 rfl) rfl rfl rfl (fun a w_ hF => r_call1 en70 (hF.ev rfl)) (fun w_ hS => specNewCells_c _) ?_; rintro s11
  refine todo_op hl_ rfl (by kernel_rfl) rfl rfl rfl rfl rfl (fun a w_ hF hS => r_make0 intEK 0 [] mk29 rfl (fun _ => Sat.nil _ _) ((hF.ev rfl).trans (show vi (c.capacity) = Value.int .i64 ((Int.toNat (c.capacity) : Nat) : Int) from by rw [Int.toNat_of_nonneg (by omega)])) (by omega) (by unfold maxLen; omega)) ?_; intro gm_14
  refine todo_pure hl_ (by kernel_rfl) rfl (gw0 rfl) rfl rfl rfl (fun a w_ hF => r_build (bd75_0_1_2 _ _ _ _ _ _ _ _ _ _ _ _) ⟨rfl, (hF.ev rfl), rfl, (hF.ev rfl), rfl, (hF.ev rfl), trivial⟩) ?_
  refine todo_fin hl_ rfl (by kernel_rfl) (tl := [_]) rfl ?_; intro a w6 hF hA_
  obtain ⟨g3, hS, he_0⟩ := hA_.open1; clear hA_
  replace hF := hF.more he_0; clear he_0
  clear hl_; try clear hSd
  try dsimp only [List.cons_append, List.nil_append, List.set] at hS
  try clear wd
  refine ww 0 hF hS rfl rfl rfl rfl rfl rfl fun w7 hS => wl_nil ⟨rfl, ?_⟩
  refine hK5 _ _ <| wp_seq_k fun K6 hK6 => rg hF rfl fun a hF => wp_block ?_
  replace hS := hS.own_nil threadEK
  replace hS := hS.pull (p := 1) rfl; dsimp only [List.eraseIdx] at hS
  replace hS := hS.pull (p := 1) rfl; dsimp only [List.eraseIdx] at hS
  have hL_ := (((hF.nil.keep hF (t := 3) rfl).keep hF (t := 2) rfl).keep hF (t := 1) rfl)
  refine wp_loop_m (σ := Nat × Slv) (fun z L_ => (4, vi z.1) :: L_) (fun z l_ => (Own threadEK (sv z.2) (List.replicate z.1 default)) :: (Box g3 [vi c.threads, vi c.keys, vi c.capacity, vi c.batch, vi c.policy, vi c.clockMax, sv s11, .slice (some ⟨gm_14, 0, none⟩) c.capacity.toNat c.capacity.toNat, sv z.2, vi 0, vi 0, vi 0, vi 0]) :: l_) (fun z => ((z.1 : Int) ≤ c.threads)) (fun z => c.threads.toNat - z.1) (0, (none, 0, 0)) (hS) (hL_.keepE hF (t := 4) rfl rfl) ?_ ?_
  · exact by dsimp only; omega
  rintro ⟨k, q⟩ a w8 hk hS hF; try dsimp only at hF; try dsimp only at hS; try dsimp only at hk
  refine wp_seq_k fun K8 hK8 => rh 5 hF hS rfl rfl rfl fun a hF => cx 19 hF rfl (fun c19 hF => ?_) fun c19 hF => ?_
  ·
   refine wp_skip <| hK8 _ _ <| wp_seq_k fun K10 hK10 => wp_block <| wp_region_lit <| gB 2 1 hF hS rfl rfl rfl fun a hF => wl hF rfl rfl rfl (r_build (bd110) trivial) fun a hF => ?_
   replace hS := hS.nilpart (ek := threadEK) (x := default) (vs := []) (thread_inner0 _)
   refine wl_bslice (rawEK threadEK.sz) [.agg (threadEK.cells (default) []).toArray] [raw threadEK (default) []] rfl hF hS rfl mk73 rfl ⟨rfl, (hF.ev rfl), trivial⟩ rfl rfl rfl rfl fun gl_25 w9 a hS hF => ?_
   have hu_ := hS.own_rd (i := 0) rfl
   replace hS := hS.pull (p := 1) rfl; dsimp only [List.eraseIdx] at hS
   replace hS := hS.pull (p := 2) rfl; dsimp only [List.eraseIdx] at hS
   refine wl_appendn (ek := threadEK) hF hS rfl hu_ mk73 rfl (hF.ev rfl) (hF.ev rfl) (by simp; omega) (by unfold maxLen; simp; omega) ?_; clear hF a hu_; intro A_26 c_26 w10 a hS_ hF; replace hS := hS_; clear hS_
   refine ga 1 hF rfl fun a hF => wv 2 hF hS rfl rfl rfl rfl rfl rfl fun w11 hS => wl_nil ?_
   refine xt ?_
   refine hK10 _ _ <| rl hF rfl fun a hF => ?_
   refine xt ?_
   rw [rep_nx] at hS
   refine ⟨(k + 1, (_, _, _)), (by dsimp only; omega), (hS.pick [0, 2, 3, 4, 5, 6] (by decide) rfl), ((((hF.nil.keep hF (t := 3) rfl).keep hF (t := 2) rfl).keep hF (t := 1) rfl).keepE hF (t := 4) rfl (wk (by omega))), by dsimp only; omega⟩
  refine wp_exit ?_
  refine xt ?_
  refine hK6 _ _ <| ws fun K11 hK11 => gB 1 1 hF hS rfl rfl rfl fun a hF => ww 4 hF hS rfl rfl rfl rfl rfl rfl fun w12 hS => wl_nil (hK11 _ _ ?_)
  refine xr ?_
  first
    | (refine ret1c rfl ag75 hF hS (i := 4) rfl sz75 rfl ⟨[], ?_, ?_⟩
       · rw [show newState c = zeroState from if_neg c7]; rfl
       · rw [show newState c = zeroState from if_neg c7]; exact (Sep.nilpart (hS.pick [] (by decide) rfl) (state_inner0 _)))
    | (obtain rfl : k = c.threads.toNat := by omega
       have e : newState c = ⟨c, newCells c, List.replicate c.capacity.toNat 0, List.replicate c.threads.toNat default, 0, 0, 0, 0⟩ := if_pos c7
       refine ret1c rfl ag75 hF hS (i := 4) rfl sz75 rfl ⟨[s11, (some ⟨gm_14, 0, none⟩, c.capacity.toNat, c.capacity.toNat), q], ?_, ?_⟩
       · rw [e]; rfl
       · rw [e]; exact hS.part_of [3, 2, 0] (by decide) rfl)
 ·
  refine op_op rfl rfl (gw0 rfl) rfl rfl rfl (fun a w_ hF hS => r_make0 intEK 0 [] mk29 rfl (fun _ => Sat.nil _ _) ((hF.ev rfl).trans (show vi (c.capacity) = Value.int .i64 ((Int.toNat (c.capacity) : Nat) : Int) from by rw [Int.toNat_of_nonneg (by omega)])) (by omega) (by unfold maxLen; omega)) ?_; intro gm_14
  refine todo_mk hl_ rfl (by kernel_rfl) rfl rfl rfl rfl rfl (fun a w_ hF => r_call1 en70 (hF.ev rfl)) (fun w_ hS => specNewCells_c _) ?_; rintro s11
  refine todo_pure hl_ (by kernel_rfl) rfl (gw0 rfl) rfl rfl rfl (fun a w_ hF => r_build (bd75_0_1_2 _ _ _ _ _ _ _ _ _ _ _ _) ⟨rfl, (hF.ev rfl), rfl, (hF.ev rfl), rfl, (hF.ev rfl), trivial⟩) ?_
  refine todo_fin hl_ rfl (by kernel_rfl) (tl := [_]) rfl ?_; intro a w14 hF hA_
  obtain ⟨g3, hS, he_0⟩ := hA_.open1; clear hA_
  replace hF := hF.more he_0; clear he_0
  clear hl_; try clear hSd
  try dsimp only [List.cons_append, List.nil_append, List.set] at hS
  try clear wd
  refine ww 0 hF hS rfl rfl rfl rfl rfl rfl fun w15 hS => wl_nil ⟨rfl, ?_⟩
  refine hK5 _ _ <| wp_seq_k fun K12 hK12 => rg hF rfl fun a hF => wp_block ?_
  replace hS := hS.own_nil threadEK
  replace hS := hS.pull (p := 1) rfl; dsimp only [List.eraseIdx] at hS
  replace hS := hS.pull (p := 1) rfl; dsimp only [List.eraseIdx] at hS
  have hL_ := (((hF.nil.keep hF (t := 3) rfl).keep hF (t := 2) rfl).keep hF (t := 1) rfl)
  refine wp_loop_m (σ := Nat × Slv) (fun z L_ => (4, vi z.1) :: L_) (fun z l_ => (Own threadEK (sv z.2) (List.replicate z.1 default)) :: (Box g3 [vi c.threads, vi c.keys, vi c.capacity, vi c.batch, vi c.policy, vi c.clockMax, sv s11, .slice (some ⟨gm_14, 0, none⟩) c.capacity.toNat c.capacity.toNat, sv z.2, vi 0, vi 0, vi 0, vi 0]) :: l_) (fun z => ((z.1 : Int) ≤ c.threads)) (fun z => c.threads.toNat - z.1) (0, (none, 0, 0)) (hS) (hL_.keepE hF (t := 4) rfl rfl) ?_ ?_
  · exact by dsimp only; omega
  rintro ⟨k, q⟩ a w16 hk hS hF; try dsimp only at hF; try dsimp only at hS; try dsimp only at hk
  refine wp_seq_k fun K14 hK14 => rh 5 hF hS rfl rfl rfl fun a hF => cx 19 hF rfl (fun c19 hF => ?_) fun c19 hF => ?_
  ·
   refine wp_skip <| hK14 _ _ <| wp_seq_k fun K16 hK16 => wp_block <| wp_region_lit <| gB 2 1 hF hS rfl rfl rfl fun a hF => wl hF rfl rfl rfl (r_build (bd110) trivial) fun a hF => ?_
   replace hS := hS.nilpart (ek := threadEK) (x := default) (vs := []) (thread_inner0 _)
   refine wl_bslice (rawEK threadEK.sz) [.agg (threadEK.cells (default) []).toArray] [raw threadEK (default) []] rfl hF hS rfl mk73 rfl ⟨rfl, (hF.ev rfl), trivial⟩ rfl rfl rfl rfl fun gl_25 w17 a hS hF => ?_
   have hu_ := hS.own_rd (i := 0) rfl
   replace hS := hS.pull (p := 1) rfl; dsimp only [List.eraseIdx] at hS
   replace hS := hS.pull (p := 2) rfl; dsimp only [List.eraseIdx] at hS
   refine wl_appendn (ek := threadEK) hF hS rfl hu_ mk73 rfl (hF.ev rfl) (hF.ev rfl) (by simp; omega) (by unfold maxLen; simp; omega) ?_; clear hF a hu_; intro A_26 c_26 w18 a hS_ hF; replace hS := hS_; clear hS_
   refine ga 1 hF rfl fun a hF => wv 2 hF hS rfl rfl rfl rfl rfl rfl fun w19 hS => wl_nil ?_
   refine xt ?_
   refine hK16 _ _ <| rl hF rfl fun a hF => ?_
   refine xt ?_
   rw [rep_nx] at hS
   refine ⟨(k + 1, (_, _, _)), (by dsimp only; omega), (hS.pick [0, 2, 3, 4, 5, 6] (by decide) rfl), ((((hF.nil.keep hF (t := 3) rfl).keep hF (t := 2) rfl).keep hF (t := 1) rfl).keepE hF (t := 4) rfl (wk (by omega))), by dsimp only; omega⟩
  refine wp_exit ?_
  refine xt ?_
  refine hK12 _ _ <| ws fun K17 hK17 => gB 1 1 hF hS rfl rfl rfl fun a hF => ww 4 hF hS rfl rfl rfl rfl rfl rfl fun w20 hS => wl_nil (hK17 _ _ ?_)
  refine xr ?_
  first
    | (refine ret1c rfl ag75 hF hS (i := 4) rfl sz75 rfl ⟨[], ?_, ?_⟩
       · rw [show newState c = zeroState from if_neg c7]; rfl
       · rw [show newState c = zeroState from if_neg c7]; exact (Sep.nilpart (hS.pick [] (by decide) rfl) (state_inner0 _)))
    | (obtain rfl : k = c.threads.toNat := by omega
       have e : newState c = ⟨c, newCells c, List.replicate c.capacity.toNat 0, List.replicate c.threads.toNat default, 0, 0, 0, 0⟩ := if_pos c7
       refine ret1c rfl ag75 hF hS (i := 4) rfl sz75 rfl ⟨[s11, (some ⟨gm_14, 0, none⟩, c.capacity.toNat, c.capacity.toNat), q], ?_, ?_⟩
       · rw [e]; rfl
       · rw [e]; exact hS.part_of [2, 3, 0] (by decide) rfl)
set_option maxRecDepth 20000
def zeroMachine : Sl.Machine := ⟨zeroState, [], [], [], 0⟩
def newMachine (c : Config) (ps : List (List Sl.Op)) : Sl.Machine × Bool := if progsOk c ps = true then (⟨newState c, ps, List.replicate c.threads.toNat 0, [], 0⟩, true) else (zeroMachine, false)
theorem machine_inner0 (w : World) : Sat (machineEK.inner zeroMachine []) (fun _ => False) w := nil_sat intEK (nil_sat intEK (nil_sat threadEK (nil_sat (sliceEK opEK) (nil_sat intEK (nil_sat eventEK (Sat.nil _ _))))))
theorem specNewMachine_c {W : World} {c : Config} {va : Value} {ps : List (List Sl.Op)} (ha : (sliceEK opEK).Rd W va ps) (hz : ps.length + crow List.length ps ≤ 1048576) : Calls Tryz.prog 43 #[.agg c.enc.toArray, va] W (Ret (Mk W (fun vs => .tuple #[.agg (machineEK.cells (newMachine c ps).1 vs).toArray, .bool (newMachine c ps).2]) (fun vs => [Part machineEK (newMachine c ps).1 vs]))) := by
 refine cfr Tryz.func43 Tryz.ntmps43 fun a hF => ?_
 have hS := Sep.refl W
 obtain ⟨A_a, q_a, rfl, hq_a, hn_a⟩ := ha.sl; unfold maxLen at hn_a
 refine ws fun K1 hK1 => wl_box (cs := [_, _, _, _, _, _]) hF hS rfl (hF.ev rfl) rfl fun g1 w1 a hS _ hF => wl_alloc hF hS rfl zr78 fun g2 w2 a hS _ hF => ge hK1 hF rfl fun a hF => wp_seq_k fun K2 hK2 => ws fun K3 hK3 => gB 1 1 hF hS rfl rfl rfl fun a hF => ?_
 refine ckr hF hS rfl (specIsConfig_c _) fun w3 a hS hF => ga 2 hF rfl fun a hF => ?_
 apply wo 6 11 17 hF hS
 ·
  intro hg11 a hF
  exact jf 6 1 hF hS rfl rfl rfl rfl rfl rfl
 intro a w4 hF hS
 refine wl_nil <| hK3 _ _ <| cx 17 hF rfl (fun c17 hF => ?_) fun c17 hF => ?_
 ·
  refine ws fun K4 hK4 => wl hF rfl rfl rfl (r_build (bd78) trivial) fun a hF => ww 0 hF hS rfl rfl rfl rfl rfl rfl fun w5 hS => ge hK4 hF rfl fun a hF => ?_
  refine xr ?_
  first
    | (have e : newMachine c ps = (zeroMachine, false) := if_neg (by unfold progsOk; rcases c17 with h | h <;> simp [h])
       refine ret2c rfl ag78 hF hS (i := 0) rfl sz78 rfl rfl ⟨[], ?_, ?_⟩
       · rw [e]; rfl
       · rw [e]; exact (Sep.nilpart (hS.pick [] (by decide) rfl) (machine_inner0 _)))
    | (have e : newMachine c ps = (zeroMachine, false) := if_neg (by unfold progsOk; rw [all_no hx c36]; simp)
       refine ret2c rfl ag78 hF hS (i := 0) rfl sz78 rfl rfl ⟨[], ?_, ?_⟩
       · rw [e]; rfl
       · rw [e]; exact (Sep.nilpart (hS.pick [] (by decide) rfl) (machine_inner0 _)))
 have hb := c17.1; unfold Config.ok at hb
 refine wp_skip <| hK2 _ _ <| wp_seq_k fun K5 hK5 => ?_
 refine wp_region_todo (is := [0, 2, 3, 1, 4, 5, 7]) [(6, 6, [.int .i64 0, .int .i64 0, .int .i64 0, .int .i64 0, .int .i64 0, .int .i64 0, .slice none 0 0, .slice none 0 0, .slice none 0 0, .int .i64 0, .int .i64 0, .int .i64 0, .int .i64 0, .slice none 0 0, .slice none 0 0, .slice none 0 0, .int .i64 0])] [7] (by kernel_rfl) hF hS ⟨⟨⟨_, _, _, rfl, zr78⟩, trivial⟩, by decide, by decide, by decide⟩ (by kernel_rfl) ?_; intro hl_ wd hSd
 refine todo_load [1, 5, 7] hl_ (by kernel_rfl) rfl (gw0 rfl) rfl rfl rfl (fun a w_ hF hB_ => r_loadn ag25 (hF.ev rfl) ((hSd.ext hB_).box_rd (i := 1) rfl) sz25) <| tp 1 hl_ rfl <| todo_load [4, 5, 7] hl_ (by kernel_rfl) rfl (gw0 rfl) rfl rfl rfl (fun a w_ hF hB_ => r_load1 sc3 (hF.ev rfl) ((hSd.ext hB_).box (i := 1) rfl rfl)) <| todo_fork [(1, [4, 5, 7]), (4, [1, 5, 7])] hl_ rfl (by kernel_rfl) (List.forall_mem_cons.2 ⟨?_, List.forall_mem_cons.2 ⟨?_, fun _ h_ => nomatch h_⟩⟩)
 ·
  refine op_mk rfl rfl (gw0 rfl) rfl rfl rfl (fun a w_ hF => r_call1 en60 (hF.ev rfl)) (fun w_ hS => specNewState_c _) ?_; rintro vs20
  refine todo_op hl_ rfl (by kernel_rfl) rfl rfl rfl rfl rfl (fun a w_ hF hS => r_make0 intEK 0 [] mk29 rfl (fun _ => Sat.nil _ _) ((hF.ev rfl).trans (show vi (c.threads) = Value.int .i64 ((Int.toNat (c.threads) : Nat) : Int) from by rw [Int.toNat_of_nonneg (by omega)])) (by omega) (by unfold maxLen; omega)) ?_; intro gm_23
  refine todo_pure hl_ (by kernel_rfl) rfl (gw0 rfl) rfl rfl rfl (fun a w_ hF => r_build (bd78_0_2 _ _ _ _ _ _ _ _ _ _ _ _ _ _ _ _ _ _ _ _ _ _) ⟨rfl, (hF.ev rfl), rfl, (hF.ev rfl), trivial⟩) ?_
  refine todo_fin hl_ rfl (by kernel_rfl) (tl := [_]) rfl ?_; intro a w7 hF hA_
  obtain ⟨g3, hS, he_0⟩ := hA_.open1; clear hA_
  replace hF := hF.more he_0; clear he_0
  clear hl_; try clear hSd
  try dsimp only [List.cons_append, List.nil_append, List.set] at hS
  try clear wd
  refine ww 0 hF hS rfl rfl rfl rfl rfl rfl fun w8 hS => wl_nil ⟨rfl, ?_⟩
  refine hK5 _ _ <| wp_seq_k fun K6 hK6 => rg hF rfl fun a hF => wp_block ?_
  replace hS := hS.own_nil (sliceEK opEK)
  replace hS := hS.pull (p := 1) rfl; dsimp only [List.eraseIdx] at hS
  replace hS := hS.pull (p := 1) rfl; dsimp only [List.eraseIdx] at hS
  have hL_ := ((((hF.nil.keep hF (t := 6) rfl).keep hF (t := 5) rfl).keep hF (t := 4) rfl).keep hF (t := 1) rfl)
  refine wp_loop_m (σ := Nat × Slv) (fun z L_ => (7, vi z.1) :: L_) (fun z l_ => (Own (sliceEK opEK) (sv z.2) (ps.take z.1)) :: (Box g3 (Sl.Machine.encv ⟨newState c, [], [], [], 0⟩ (sv (vs20.getD 0 (none, 0, 0))) (sv (vs20.getD 1 (none, 0, 0))) (sv (vs20.getD 2 (none, 0, 0))) (sv z.2) (.slice (some ⟨gm_23, 0, none⟩) c.threads.toNat c.threads.toNat) (.slice none 0 0))) :: l_) (fun z => (z.1 ≤ ps.length) ∧ ((ps.take z.1).all progOk = true)) (fun z => ps.length - z.1) (0, (none, 0, 0)) (hS) (hL_.keepE hF (t := 7) rfl rfl) ?_ ?_
  · exact ⟨Nat.zero_le _, rfl⟩
  rintro ⟨k, q⟩ a w9 ⟨hk, hp⟩ hS hF; try dsimp only at hF; try dsimp only at hS; try dsimp only at hk; try dsimp only at hp
  dsimp only [Sl.Machine.encv] at hS
  refine wp_seq_k fun K8 hK8 => rg hF rfl fun a hF => cx 28 hF rfl (fun c28 hF => ?_) fun c28 hF => ?_
  ·
   have hlt : k < ps.length := by omega
   have hx := at0_nat hlt
   have hc1 := crow_le1 (c := List.length) hx
   refine wp_skip <| hK8 _ _ <| wp_seq_k fun K10 hK10 => wp_block <| wp_seq_k fun K11 hK11 => ws fun K12 hK12 => ga 2 hF rfl fun a hF => ?_
   obtain ⟨g33, o33, m33, q33, cs33, hv33, hm33, hl33, hk33, hz33, hc33⟩ := Rd.at (ha) (a := a) (X := .tmp 32) (hF.ev rfl) (by omega) (by omega)
   obtain ⟨v33, rfl, hr33⟩ := hk33; obtain ⟨Ae33, qe33, rfl, _, hme33⟩ := hr33.sl; unfold maxLen at hme33
   refine wl hF rfl rfl rfl (r_index sl76 ((hF.ev rfl).trans hv33) (hF.ev rfl) (by omega) (by first | omega | (simp at hm33; omega))) fun a hF => ?_
   refine wl hF rfl rfl rfl (r_load1 sc96 (hF.ev rfl) (cellB hS.old (hc33 0 _ rfl))) fun a hF => ckr hF hS rfl (specProgram_c (hS.rd hr33)) fun w10 a hS hF => ge hK12 hF rfl fun a hF => cx 36 hF rfl (fun c36 hF => ?_) fun c36 hF => ?_
   ·
    refine ws fun K13 hK13 => wl hF rfl rfl rfl (r_build (bd78) trivial) fun a hF => ww 4 hF hS rfl rfl rfl rfl rfl rfl fun w11 hS => ge hK13 hF rfl fun a hF => ?_
    refine xr ?_
    first
      | (have e : newMachine c ps = (zeroMachine, false) := if_neg (by unfold progsOk; rcases c17 with h | h <;> simp [h])
         refine ret2c rfl ag78 hF hS (i := 4) rfl sz78 rfl rfl ⟨[], ?_, ?_⟩
         · rw [e]; rfl
         · rw [e]; exact (Sep.nilpart (hS.pick [] (by decide) rfl) (machine_inner0 _)))
      | (have e : newMachine c ps = (zeroMachine, false) := if_neg (by unfold progsOk; rw [all_no hx c36]; simp)
         refine ret2c rfl ag78 hF hS (i := 4) rfl sz78 rfl rfl ⟨[], ?_, ?_⟩
         · rw [e]; rfl
         · rw [e]; exact (Sep.nilpart (hS.pick [] (by decide) rfl) (machine_inner0 _)))
   refine wp_skip <| hK11 _ _ ?_
   refine wp_region_todo (is := [0, 1, 3, 4, 5, 6, 2, 7, 8, 9, 10, 11]) [] [9, 10, 11] (by kernel_rfl) hF hS ⟨trivial, by decide, by decide, by decide⟩ (by kernel_rfl) ?_; intro hl_ wd hSd
   refine tp 1 hl_ rfl <| todo_load [9, 10, 11] hl_ (by kernel_rfl) rfl (gw0 rfl) rfl rfl rfl (fun a w_ hF hB_ => r_load1 sc76 (hF.ev rfl) ((hSd.ext hB_).box (i := 1) rfl rfl)) <| tp 2 hl_ rfl ?_
   obtain ⟨g43, o43, m43, q43, cs43, hv43, hm43, hl43, hk43, hz43, hc43⟩ := Rd.idx (ha) hx
   obtain ⟨v43, rfl, hr43⟩ := hk43; obtain ⟨Ae43, qe43, rfl, _, hme43⟩ := hr43.sl; unfold maxLen at hme43
   refine todo_pure hl_ (by kernel_rfl) rfl (gw0 rfl) rfl rfl rfl (fun a w_ hF => r_index sl76 ((hF.ev rfl).trans hv43) (hF.ev rfl) (by omega) (by omega)) <| todo_load [7, 8, 9, 10, 11] hl_ (by kernel_rfl) rfl (gw0 rfl) rfl rfl rfl (fun a w_ hF hB_ => r_load1 sc96 (hF.ev rfl) (cellB (hSd.ext hB_).old (hc43 0 _ rfl))) ?_
   refine todo_op hl_ rfl (by kernel_rfl) rfl rfl rfl rfl rfl (fun a w_ hF hS => r_bslice opEK [] [] rfl mk96 rfl trivial rfl rfl rfl rfl) ?_; intro gl_40
   refine todo_op hl_ rfl (by kernel_rfl) rfl rfl rfl rfl rfl (fun a w_ hF hS => r_append0 (hS.rd hr43) mk96 rfl (by omega) (by unfold maxLen; omega) (hF.ev rfl) (hF.ev rfl)) ?_; intro s45
   refine todo_op hl_ rfl (by kernel_rfl) rfl rfl rfl rfl rfl (fun a w_ hF hS => r_bslice (rawEK 1) [sv s45] [raw (sliceEK opEK) (at0 ps (k : Int)) [s45]] rfl mk76 rfl ⟨rfl, (hF.ev rfl), trivial⟩ rfl rfl rfl rfl) ?_; intro gl_46
   refine todo_fin hl_ rfl (by kernel_rfl) (tl := [_, _, _]) rfl ?_; intro a w15 hF hA_
   have hS := hA_.sep; clear hA_
   clear hl_; try clear hSd
   try dsimp only [List.cons_append, List.nil_append, List.set] at hS
   try clear wd
   have hu_ := hS.own_rd (i := 0) rfl
   replace hS := hS.pull (p := 1) rfl; dsimp only [List.eraseIdx] at hS
   replace hS := hS.own_part (s := (_, _, _))
   replace hS := hS.pull (p := 3) rfl; dsimp only [List.eraseIdx] at hS
   refine wl_appendn (ek := (sliceEK opEK)) hF hS rfl hu_ mk76 rfl (hF.ev rfl) (hF.ev rfl) (by simp; omega) (by unfold maxLen; simp; omega) ?_; clear hF a hu_; intro A_47 c_47 w16 a hS_ hF; replace hS := hS_; clear hS_
   refine ga 1 hF rfl fun a hF => wv 3 hF hS rfl rfl rfl rfl rfl rfl fun w17 hS => wl_nil ⟨rfl, ?_⟩
   refine xt ?_
   refine hK10 _ _ <| rl hF rfl fun a hF => ?_
   refine xt ?_
   rw [← take_at0 (by omega)] at hS
   refine ⟨(k + 1, (_, _, _)), ⟨by dsimp only; omega, all_nxt hp hx c36⟩, (hS.pick [0, 3, 4, 5, 6, 7] (by decide) rfl), (((((hF.nil.keep hF (t := 6) rfl).keep hF (t := 5) rfl).keep hF (t := 4) rfl).keep hF (t := 1) rfl).keepE hF (t := 7) rfl (wk (by omega))), by dsimp only; omega⟩
  refine wp_exit ?_
  refine xt ?_
  refine hK6 _ _ <| ws fun K14 hK14 => gB 1 1 hF hS rfl rfl rfl fun a hF => ww 4 hF hS rfl rfl rfl rfl rfl rfl fun w18 hS => ge hK14 hF rfl fun a hF => ?_
  refine xr ?_
  obtain rfl : k = ps.length := by omega
  rw [List.take_length] at hS
  first
    | (have e : newMachine c ps = (⟨newState c, ps, List.replicate c.threads.toNat 0, [], 0⟩, true) := if_pos (by unfold progsOk; rw [decide_eq_true c17.1, decide_eq_true c17.2, all_done hp (Nat.le_refl _)]; rfl)
       replace hS := hS.pull (p := 3) rfl; dsimp only [List.eraseIdx] at hS
       replace hS : Sep W (Own intEK (sv (vs20.getD 0 (none, 0, 0))) (newState c).cells :: Own intEK (sv (vs20.getD 1 (none, 0, 0))) (newState c).generations :: Own threadEK (sv (vs20.getD 2 (none, 0, 0))) (newState c).threads :: _) _ := hS.part_open
       replace hS := hS.own_nil eventEK
       refine ret2c rfl ag78 hF hS (i := 7) rfl sz78 rfl rfl ⟨[vs20.getD 0 (none, 0, 0), vs20.getD 1 (none, 0, 0), vs20.getD 2 (none, 0, 0), q, (some ⟨gm_23, 0, none⟩, c.threads.toNat, c.threads.toNat), (none, 0, 0)], ?_, ?_⟩
       · rw [e]; rfl
       · rw [e]; exact hS.part_of [1, 2, 3, 4, 6, 0] (by decide) rfl)
 ·
  refine op_op rfl rfl (gw0 rfl) rfl rfl rfl (fun a w_ hF hS => r_make0 intEK 0 [] mk29 rfl (fun _ => Sat.nil _ _) ((hF.ev rfl).trans (show vi (c.threads) = Value.int .i64 ((Int.toNat (c.threads) : Nat) : Int) from by rw [Int.toNat_of_nonneg (by omega)])) (by omega) (by unfold maxLen; omega)) ?_; intro gm_23
  refine todo_mk hl_ rfl (by kernel_rfl) rfl rfl rfl rfl rfl (fun a w_ hF => r_call1 en60 (hF.ev rfl)) (fun w_ hS => specNewState_c _) ?_; rintro vs20
  refine todo_pure hl_ (by kernel_rfl) rfl (gw0 rfl) rfl rfl rfl (fun a w_ hF => r_build (bd78_0_2 _ _ _ _ _ _ _ _ _ _ _ _ _ _ _ _ _ _ _ _ _ _) ⟨rfl, (hF.ev rfl), rfl, (hF.ev rfl), trivial⟩) ?_
  refine todo_fin hl_ rfl (by kernel_rfl) (tl := [_]) rfl ?_; intro a w20 hF hA_
  obtain ⟨g3, hS, he_0⟩ := hA_.open1; clear hA_
  replace hF := hF.more he_0; clear he_0
  clear hl_; try clear hSd
  try dsimp only [List.cons_append, List.nil_append, List.set] at hS
  try clear wd
  refine ww 0 hF hS rfl rfl rfl rfl rfl rfl fun w21 hS => wl_nil ⟨rfl, ?_⟩
  refine hK5 _ _ <| wp_seq_k fun K15 hK15 => rg hF rfl fun a hF => wp_block ?_
  replace hS := hS.own_nil (sliceEK opEK)
  replace hS := hS.pull (p := 1) rfl; dsimp only [List.eraseIdx] at hS
  replace hS := hS.pull (p := 1) rfl; dsimp only [List.eraseIdx] at hS
  have hL_ := ((((hF.nil.keep hF (t := 6) rfl).keep hF (t := 5) rfl).keep hF (t := 4) rfl).keep hF (t := 1) rfl)
  refine wp_loop_m (σ := Nat × Slv) (fun z L_ => (7, vi z.1) :: L_) (fun z l_ => (Own (sliceEK opEK) (sv z.2) (ps.take z.1)) :: (Box g3 (Sl.Machine.encv ⟨newState c, [], [], [], 0⟩ (sv (vs20.getD 0 (none, 0, 0))) (sv (vs20.getD 1 (none, 0, 0))) (sv (vs20.getD 2 (none, 0, 0))) (sv z.2) (.slice (some ⟨gm_23, 0, none⟩) c.threads.toNat c.threads.toNat) (.slice none 0 0))) :: l_) (fun z => (z.1 ≤ ps.length) ∧ ((ps.take z.1).all progOk = true)) (fun z => ps.length - z.1) (0, (none, 0, 0)) (hS) (hL_.keepE hF (t := 7) rfl rfl) ?_ ?_
  · exact ⟨Nat.zero_le _, rfl⟩
  rintro ⟨k, q⟩ a w22 ⟨hk, hp⟩ hS hF; try dsimp only at hF; try dsimp only at hS; try dsimp only at hk; try dsimp only at hp
  dsimp only [Sl.Machine.encv] at hS
  refine wp_seq_k fun K17 hK17 => rg hF rfl fun a hF => cx 28 hF rfl (fun c28 hF => ?_) fun c28 hF => ?_
  ·
   have hlt : k < ps.length := by omega
   have hx := at0_nat hlt
   have hc1 := crow_le1 (c := List.length) hx
   refine wp_skip <| hK17 _ _ <| wp_seq_k fun K19 hK19 => wp_block <| wp_seq_k fun K20 hK20 => ws fun K21 hK21 => ga 2 hF rfl fun a hF => ?_
   obtain ⟨g33, o33, m33, q33, cs33, hv33, hm33, hl33, hk33, hz33, hc33⟩ := Rd.at (ha) (a := a) (X := .tmp 32) (hF.ev rfl) (by omega) (by omega)
   obtain ⟨v33, rfl, hr33⟩ := hk33; obtain ⟨Ae33, qe33, rfl, _, hme33⟩ := hr33.sl; unfold maxLen at hme33
   refine wl hF rfl rfl rfl (r_index sl76 ((hF.ev rfl).trans hv33) (hF.ev rfl) (by omega) (by first | omega | (simp at hm33; omega))) fun a hF => ?_
   refine wl hF rfl rfl rfl (r_load1 sc96 (hF.ev rfl) (cellB hS.old (hc33 0 _ rfl))) fun a hF => ckr hF hS rfl (specProgram_c (hS.rd hr33)) fun w23 a hS hF => ge hK21 hF rfl fun a hF => cx 36 hF rfl (fun c36 hF => ?_) fun c36 hF => ?_
   ·
    refine ws fun K22 hK22 => wl hF rfl rfl rfl (r_build (bd78) trivial) fun a hF => ww 4 hF hS rfl rfl rfl rfl rfl rfl fun w24 hS => ge hK22 hF rfl fun a hF => ?_
    refine xr ?_
    first
      | (have e : newMachine c ps = (zeroMachine, false) := if_neg (by unfold progsOk; rcases c17 with h | h <;> simp [h])
         refine ret2c rfl ag78 hF hS (i := 4) rfl sz78 rfl rfl ⟨[], ?_, ?_⟩
         · rw [e]; rfl
         · rw [e]; exact (Sep.nilpart (hS.pick [] (by decide) rfl) (machine_inner0 _)))
      | (have e : newMachine c ps = (zeroMachine, false) := if_neg (by unfold progsOk; rw [all_no hx c36]; simp)
         refine ret2c rfl ag78 hF hS (i := 4) rfl sz78 rfl rfl ⟨[], ?_, ?_⟩
         · rw [e]; rfl
         · rw [e]; exact (Sep.nilpart (hS.pick [] (by decide) rfl) (machine_inner0 _)))
   refine wp_skip <| hK20 _ _ ?_
   refine wp_region_todo (is := [0, 1, 3, 4, 5, 6, 2, 7, 8, 9, 10, 11]) [] [9, 10, 11] (by kernel_rfl) hF hS ⟨trivial, by decide, by decide, by decide⟩ (by kernel_rfl) ?_; intro hl_ wd hSd
   refine tp 1 hl_ rfl <| todo_load [9, 10, 11] hl_ (by kernel_rfl) rfl (gw0 rfl) rfl rfl rfl (fun a w_ hF hB_ => r_load1 sc76 (hF.ev rfl) ((hSd.ext hB_).box (i := 1) rfl rfl)) <| tp 2 hl_ rfl ?_
   obtain ⟨g43, o43, m43, q43, cs43, hv43, hm43, hl43, hk43, hz43, hc43⟩ := Rd.idx (ha) hx
   obtain ⟨v43, rfl, hr43⟩ := hk43; obtain ⟨Ae43, qe43, rfl, _, hme43⟩ := hr43.sl; unfold maxLen at hme43
   refine todo_pure hl_ (by kernel_rfl) rfl (gw0 rfl) rfl rfl rfl (fun a w_ hF => r_index sl76 ((hF.ev rfl).trans hv43) (hF.ev rfl) (by omega) (by omega)) <| todo_load [7, 8, 9, 10, 11] hl_ (by kernel_rfl) rfl (gw0 rfl) rfl rfl rfl (fun a w_ hF hB_ => r_load1 sc96 (hF.ev rfl) (cellB (hSd.ext hB_).old (hc43 0 _ rfl))) ?_
   refine todo_op hl_ rfl (by kernel_rfl) rfl rfl rfl rfl rfl (fun a w_ hF hS => r_bslice opEK [] [] rfl mk96 rfl trivial rfl rfl rfl rfl) ?_; intro gl_40
   refine todo_op hl_ rfl (by kernel_rfl) rfl rfl rfl rfl rfl (fun a w_ hF hS => r_append0 (hS.rd hr43) mk96 rfl (by omega) (by unfold maxLen; omega) (hF.ev rfl) (hF.ev rfl)) ?_; intro s45
   refine todo_op hl_ rfl (by kernel_rfl) rfl rfl rfl rfl rfl (fun a w_ hF hS => r_bslice (rawEK 1) [sv s45] [raw (sliceEK opEK) (at0 ps (k : Int)) [s45]] rfl mk76 rfl ⟨rfl, (hF.ev rfl), trivial⟩ rfl rfl rfl rfl) ?_; intro gl_46
   refine todo_fin hl_ rfl (by kernel_rfl) (tl := [_, _, _]) rfl ?_; intro a w28 hF hA_
   have hS := hA_.sep; clear hA_
   clear hl_; try clear hSd
   try dsimp only [List.cons_append, List.nil_append, List.set] at hS
   try clear wd
   have hu_ := hS.own_rd (i := 0) rfl
   replace hS := hS.pull (p := 1) rfl; dsimp only [List.eraseIdx] at hS
   replace hS := hS.own_part (s := (_, _, _))
   replace hS := hS.pull (p := 3) rfl; dsimp only [List.eraseIdx] at hS
   refine wl_appendn (ek := (sliceEK opEK)) hF hS rfl hu_ mk76 rfl (hF.ev rfl) (hF.ev rfl) (by simp; omega) (by unfold maxLen; simp; omega) ?_; clear hF a hu_; intro A_47 c_47 w29 a hS_ hF; replace hS := hS_; clear hS_
   refine ga 1 hF rfl fun a hF => wv 3 hF hS rfl rfl rfl rfl rfl rfl fun w30 hS => wl_nil ⟨rfl, ?_⟩
   refine xt ?_
   refine hK19 _ _ <| rl hF rfl fun a hF => ?_
   refine xt ?_
   rw [← take_at0 (by omega)] at hS
   refine ⟨(k + 1, (_, _, _)), ⟨by dsimp only; omega, all_nxt hp hx c36⟩, (hS.pick [0, 3, 4, 5, 6, 7] (by decide) rfl), (((((hF.nil.keep hF (t := 6) rfl).keep hF (t := 5) rfl).keep hF (t := 4) rfl).keep hF (t := 1) rfl).keepE hF (t := 7) rfl (wk (by omega))), by dsimp only; omega⟩
  refine wp_exit ?_
  refine xt ?_
  refine hK15 _ _ <| ws fun K23 hK23 => gB 1 1 hF hS rfl rfl rfl fun a hF => ww 4 hF hS rfl rfl rfl rfl rfl rfl fun w31 hS => ge hK23 hF rfl fun a hF => ?_
  refine xr ?_
  obtain rfl : k = ps.length := by omega
  rw [List.take_length] at hS
  first
    | (have e : newMachine c ps = (⟨newState c, ps, List.replicate c.threads.toNat 0, [], 0⟩, true) := if_pos (by unfold progsOk; rw [decide_eq_true c17.1, decide_eq_true c17.2, all_done hp (Nat.le_refl _)]; rfl)
       replace hS := hS.pull (p := 2) rfl; dsimp only [List.eraseIdx] at hS
       replace hS : Sep W (Own intEK (sv (vs20.getD 0 (none, 0, 0))) (newState c).cells :: Own intEK (sv (vs20.getD 1 (none, 0, 0))) (newState c).generations :: Own threadEK (sv (vs20.getD 2 (none, 0, 0))) (newState c).threads :: _) _ := hS.part_open
       replace hS := hS.own_nil eventEK
       refine ret2c rfl ag78 hF hS (i := 7) rfl sz78 rfl rfl ⟨[vs20.getD 0 (none, 0, 0), vs20.getD 1 (none, 0, 0), vs20.getD 2 (none, 0, 0), q, (some ⟨gm_23, 0, none⟩, c.threads.toNat, c.threads.toNat), (none, 0, 0)], ?_, ?_⟩
       · rw [e]; rfl
       · rw [e]; exact hS.part_of [1, 2, 3, 4, 6, 0] (by decide) rfl)
theorem ag44 : aggB Tryz.prog 44 = true := by kernel_rfl
theorem bd78_0_2_3_4 (x0) (x1) (x2) (x3) (x4) (x5) (x6) (x7) (x8) (x9) (x10) (x11) (x12) (x13) (x14) (x15) (x16) (x17) (x18) (x19) (x20) (x21) (x22) (x23) (x24) (x25) : Tryz.prog.built 78 [(0, .agg #[.int .i64 x0, .int .i64 x1, .int .i64 x2, .int .i64 x3, .int .i64 x4, .int .i64 x5, .slice x6 x7 x8, .slice x9 x10 x11, .slice x12 x13 x14, .int .i64 x15, .int .i64 x16, .int .i64 x17, .int .i64 x18]), (2, .slice x19 x20 x21), (3, .slice x22 x23 x24), (4, .int .i64 x25)] = some [.int .i64 x0, .int .i64 x1, .int .i64 x2, .int .i64 x3, .int .i64 x4, .int .i64 x5, .slice x6 x7 x8, .slice x9 x10 x11, .slice x12 x13 x14, .int .i64 x15, .int .i64 x16, .int .i64 x17, .int .i64 x18, .slice none 0 0, .slice x19 x20 x21, .slice x22 x23 x24, .int .i64 x25].toArray := by kernel_rfl
theorem mk26 : mkB Tryz.prog 26 = some ([.int .i64 0, .int .i64 0, .int .i64 0, .int .i64 0, .int .i64 0, .int .i64 0, .int .i64 0, .int .i64 0], 8, 64) := by kernel_rfl
set_option maxRecDepth 20000
theorem l5Program_h {W : World} {g : Nat} {vb : Value} {bs : List Int} (hbs : byteEK.Rd W vb bs) {l : List Res} {w : World} {k n : Int} (hk : k ≤ 10) (hn : 0 ≤ n ∧ n ≤ 10) (hS : Sep W (Cur g vb bs.length :: l) w) : Calls Tryz.prog 62 #[.pointer (some ⟨g, 0, none⟩), vi k, vi n] w (Ret fun v w' => ∃ z : List Sl.Op × Slv, (v = sv z.2 ∧ (∀ x ∈ z.1, x.ok) ∧ (z.1.length : Int) ≤ n) ∧ Sep W (Own opEK (sv z.2) z.1 :: Cur g vb bs.length :: l) w') := by
 refine cfr Tryz.func62 Tryz.ntmps62 fun a hF => ?_
 refine rg hF rfl fun a hF => ws fun K2 hK2 => wl_bslice opEK [] [] rfl hF hS rfl mk96 rfl trivial rfl rfl rfl rfl fun gl_10 w1 a hS hF => ge hK2 hF rfl fun a hF => wp_seq_k fun K3 hK3 => ws fun K4 hK4 => ga 3 hF rfl fun a hF => ?_
 refine ck hF rfl (l1Below_c hbs (q := 1) _ hS rfl) ?_; rintro v w2 a ⟨⟨x14, rfl, h14⟩, hS⟩ hF
 refine ge hK4 hF rfl fun a hF => wp_block ?_
 replace hS := hS.pull (p := 0) rfl; dsimp only [List.eraseIdx] at hS
 have hL_ := (((hF.nil.keep hF (t := 6) rfl).keep hF (t := 1) rfl).keep hF (t := 0) rfl)
 refine wp_loop_m (σ := Int × List Sl.Op × Slv) (fun z L_ => (8, vi z.1) :: (7, sv z.2.2) :: L_) (fun z l_ => (Own opEK (sv z.2.2) z.2.1) :: l_) (fun z => (∀ x ∈ z.2.1, x.ok) ∧ (0 ≤ z.1 ∧ z.1 + (z.2.1.length : Int) ≤ n)) (fun z => z.1.toNat) (x14, [], (some ⟨gl_10, 0, none⟩, 0, 0)) (hS) ((hL_.keepE hF (t := 7) rfl rfl).keepE hF (t := 8) rfl rfl) ?_ ?_
 · exact ⟨(fun _ h => by cases h), by rw [w64_id (by omega) (by omega)] at h14; dsimp only; simp; omega⟩
 rintro ⟨m, xs, q⟩ a w3 ⟨hx, hm⟩ hS hF; try dsimp only at hF; try dsimp only at hS; try dsimp only at hx; try dsimp only at hm
 refine wp_seq_k fun K5 hK5 => rg hF rfl fun a hF => cx 16 hF rfl (fun c16 hF => ?_) fun c16 hF => ?_
 ·
  refine wp_skip <| hK5 _ _ <| wp_seq_k fun K7 hK7 => wp_block <| ws fun K8 hK8 => ga 2 hF rfl fun a hF => ?_
  refine ck hF rfl (l5Op_c hbs (q := 1) (by omega) hS rfl) ?_; rintro v w4 a ⟨⟨o21, rfl, h21⟩, hS⟩ hF
  refine wl_alloc hF hS rfl zr42 fun g1 w5 a hS _ hF => ?_
  refine wl_storen (cs' := [_, _, _]) hF hS (i := 0) rfl (hF.ev rfl) (hF.ev rfl) sz42 ⟨rfl, rfl⟩ rfl rfl fun w6 hS => ?_; dsimp only [List.set] at hS
  refine wl_nil <| hK8 _ _ <| wp_region_lit <| gB 2 0 hF hS rfl rfl rfl fun a hF => wl_bslice opEK [.agg o21.enc.toArray] [o21] rfl hF hS rfl mk96 rfl ⟨rfl, (hF.ev rfl), trivial⟩ rfl rfl rfl rfl fun gl_24 w7 a hS hF => ?_
  refine wl_append (q := 2) hF hS rfl rfl (hS.own_rd (i := 0) rfl) mk96 rfl (hF.ev rfl) (hF.ev rfl) (by simp; omega) (by unfold maxLen; simp; omega) ?_; intro A_25 c_25 w8 a hS_ hF; replace hS := hS_; clear hS_; dsimp only [List.set, List.length_cons, List.length_nil] at hS hF
  refine ga 1 hF rfl fun a hF => wl_nil ?_
  refine xt ?_
  refine hK7 _ _ <| rl hF rfl fun a hF => ?_
  refine xt ?_
  refine ⟨(m - 1, xs ++ [_], (_, _, _)), ⟨all_snoc hx h21, by dsimp only; simp; omega⟩, (hS.pm 4 [2, 3] rfl), (((((hF.nil.keep hF (t := 6) rfl).keep hF (t := 1) rfl).keep hF (t := 0) rfl).keepE hF (t := 7) rfl rfl).keepE hF (t := 8) rfl (congrArg vi (w64_id (by omega) (by omega)))), by dsimp only; omega⟩
 refine wp_exit ?_
 refine xt ?_
 refine hK3 _ _ <| rg hF rfl fun a hF => ?_
 refine xr ?_
 exact ret1 rfl hF rfl ⟨(xs, q), ⟨rfl, hx, by dsimp only; omega⟩, (hS.pm 2 [0, 1] rfl)⟩
theorem l18Picks_h {W : World} {g : Nat} {vb : Value} {bs : List Int} (hbs : byteEK.Rd W vb bs) {l : List Res} {w : World} {k : Int} (hk : k ≤ 20) (hS : Sep W (Cur g vb bs.length :: l) w) : Calls Tryz.prog 46 #[.pointer (some ⟨g, 0, none⟩), vi k] w (Ret fun v w' => ∃ z : List Int × Slv, (v = sv z.2 ∧ (∀ x ∈ z.1, int64 x) ∧ z.1.length ≤ 200) ∧ Sep W (Own intEK (sv z.2) z.1 :: Cur g vb bs.length :: l) w') := by
 refine cfr Tryz.func46 Tryz.ntmps46 fun a hF => ?_
 refine rg hF rfl fun a hF => ws fun K2 hK2 => wl_bslice intEK [] [] rfl hF hS rfl mk29 rfl trivial rfl rfl rfl rfl fun gl_9 w1 a hS hF => ge hK2 hF rfl fun a hF => wp_seq_k fun K3 hK3 => ws fun K4 hK4 => ga 2 hF rfl fun a hF => ?_
 refine ck hF rfl (l1Below_c hbs (q := 1) _ hS rfl) ?_; rintro v w2 a ⟨⟨x12, rfl, h12⟩, hS⟩ hF
 refine ge hK4 hF rfl fun a hF => wp_block ?_
 replace hS := hS.pull (p := 0) rfl; dsimp only [List.eraseIdx] at hS
 have hL_ := ((hF.nil.keep hF (t := 4) rfl).keep hF (t := 0) rfl)
 refine wp_loop_m (σ := Int × List Int × Slv) (fun z L_ => (6, vi z.1) :: (5, sv z.2.2) :: L_) (fun z l_ => (Own intEK (sv z.2.2) z.2.1) :: l_) (fun z => (∀ x ∈ z.2.1, int64 x) ∧ (0 ≤ z.1 ∧ 10 * z.1 + (z.2.1.length : Int) ≤ 200)) (fun z => z.1.toNat) (x12, [], (some ⟨gl_9, 0, none⟩, 0, 0)) (hS) ((hL_.keepE hF (t := 5) rfl rfl).keepE hF (t := 6) rfl rfl) ?_ ?_
 · exact ⟨(fun _ h => by cases h), by dsimp only; simp; omega⟩
 rintro ⟨n, xs, q⟩ a w3 ⟨hx, hn⟩ hS hF; try dsimp only at hF; try dsimp only at hS; try dsimp only at hx; try dsimp only at hn
 refine wp_seq_k fun K5 hK5 => rg hF rfl fun a hF => cx 14 hF rfl (fun c14 hF => ?_) fun c14 hF => ?_
 ·
  refine wp_skip <| hK5 _ _ <| wp_seq_k fun K7 hK7 => wp_block <| ws fun K8 hK8 => ga 1 hF rfl fun a hF => ?_
  refine ck hF rfl (l1Below_c hbs (q := 1) _ hS rfl) ?_; rintro v w4 a ⟨⟨x18, rfl, h18⟩, hS⟩ hF
  refine ge hK8 hF rfl fun a hF => ws fun K9 hK9 => ga 1 hF rfl fun a hF => ?_
  refine ck hF rfl (l1Below_c hbs (q := 1) _ hS rfl) ?_; rintro v w5 a ⟨⟨x21, rfl, h21⟩, hS⟩ hF
  refine ge hK9 hF rfl fun a hF => wp_block ?_
  replace hS := hS.pull (p := 0) rfl; dsimp only [List.eraseIdx] at hS
  have hL_ := ((((hF.nil.keep hF (t := 7) rfl).keep hF (t := 6) rfl).keep hF (t := 4) rfl).keep hF (t := 0) rfl)
  refine wp_loop_m (σ := Int × List Int × Slv) (fun y L_ => (8, vi y.1) :: (5, sv y.2.2) :: L_) (fun y l_ => (Own intEK (sv y.2.2) y.2.1) :: l_) (fun y => (∀ x ∈ y.2.1, int64 x) ∧ (0 ≤ y.1 ∧ y.1 + (y.2.1.length : Int) ≤ 9 + xs.length)) (fun y => y.1.toNat) (1 + x21, xs, q) (hS) ((hL_.keepE hF (t := 5) rfl rfl).keepE hF (t := 8) rfl (congrArg vi (w64_id (by omega) (by omega)))) ?_ ?_
  · exact ⟨hx, by dsimp only; omega⟩
  rintro ⟨m, ys, qy⟩ a w6 ⟨hy, hm⟩ hS hF; try dsimp only at hF; try dsimp only at hS; try dsimp only at hy; try dsimp only at hm
  refine wp_seq_k fun K10 hK10 => rg hF rfl fun a hF => cx 24 hF rfl (fun c24 hF => ?_) fun c24 hF => ?_
  ·
   refine wp_skip <| hK10 _ _ <| wp_seq_k fun K12 hK12 => wp_block <| wp_region_lit <| ga 2 hF rfl fun a hF => wl_bslice intEK [vi (IntKind.i64.wrap (x18 - 1))] [IntKind.i64.wrap (x18 - 1)] rfl hF hS rfl mk29 rfl ⟨rfl, (hF.ev rfl), trivial⟩ rfl rfl rfl rfl fun gl_29 w7 a hS hF => ?_
   refine wl_append (q := 1) hF hS rfl rfl (hS.own_rd (i := 0) rfl) mk29 rfl (hF.ev rfl) (hF.ev rfl) (by simp; omega) (by unfold maxLen; simp; omega) ?_; intro A_30 c_30 w8 a hS_ hF; replace hS := hS_; clear hS_; dsimp only [List.set, List.length_cons, List.length_nil] at hS hF
   refine ga 1 hF rfl fun a hF => wl_nil ?_
   refine xt ?_
   refine hK12 _ _ <| rl hF rfl fun a hF => ?_
   refine xt ?_
   refine ⟨(m - 1, ys ++ [_], (_, _, _)), ⟨all_snoc hy (int64_wrap _), by dsimp only; simp; omega⟩, (hS.pm 3 [1, 2] rfl), ((((((hF.nil.keep hF (t := 7) rfl).keep hF (t := 6) rfl).keep hF (t := 4) rfl).keep hF (t := 0) rfl).keepE hF (t := 5) rfl rfl).keepE hF (t := 8) rfl (congrArg vi (w64_id (by omega) (by omega)))), by dsimp only; omega⟩
  refine wp_exit ?_
  refine xt ?_
  refine hK7 _ _ <| rl hF rfl fun a hF => ?_
  refine xt ?_
  refine ⟨(n - 1, ys, qy), ⟨hy, by dsimp only; omega⟩, hS, ((((hF.nil.keep hF (t := 4) rfl).keep hF (t := 0) rfl).keepE hF (t := 5) rfl rfl).keepE hF (t := 6) rfl (congrArg vi (w64_id (by omega) (by omega)))), by dsimp only; omega⟩
 refine wp_exit ?_
 refine xt ?_
 refine hK3 _ _ <| rg hF rfl fun a hF => ?_
 refine xr ?_
 exact ret1 rfl hF rfl ⟨(xs, q), ⟨rfl, hx, by dsimp only; omega⟩, (hS.pm 2 [0, 1] rfl)⟩
set_option maxRecDepth 20000
theorem l18Programs_h {W : World} {g : Nat} {vb : Value} {bs : List Int} (hbs : byteEK.Rd W vb bs) {l : List Res} {w : World} {c : Config} {n : Int} (hc : c.ok) (hn : 0 ≤ n ∧ n ≤ 10) (hS : Sep W (Cur g vb bs.length :: l) w) : Calls Tryz.prog 44 #[.pointer (some ⟨g, 0, none⟩), .agg c.enc.toArray, vi n] w (Ret fun v w' => ∃ z : List (List Sl.Op) × Slv, (v = sv z.2 ∧ (z.1.length : Int) = c.threads ∧ (∀ x ∈ z.1, (∀ y ∈ x, y.ok) ∧ (x.length : Int) ≤ n + 1)) ∧ Sep W (Own (sliceEK opEK) (sv z.2) z.1 :: Cur g vb bs.length :: l) w') := by
 refine cfr Tryz.func44 Tryz.ntmps44 fun a hF => ?_
 refine ws fun K1 hK1 => wl_box (cs := [_, _, _, _, _, _]) hF hS rfl (hF.ev rfl) rfl fun g1 w1 a hS _ hF => ge hK1 hF rfl fun a hF => ws fun K2 hK2 => wl_bslice (rawEK 1) [] [] rfl hF hS rfl mk76 rfl trivial rfl rfl rfl rfl fun gl_10 w2 a hS hF => ?_
 replace hS := hS.tail.own_nilA (sliceEK opEK) (some ⟨gl_10, 0, none⟩)
 refine ge hK2 hF rfl fun a hF => wp_seq_k fun K3 hK3 => rg hF rfl fun a hF => wp_block ?_
 replace hS := hS.pull (p := 0) rfl; dsimp only [List.eraseIdx] at hS
 have hL_ := ((((hF.nil.keep hF (t := 6) rfl).keep hF (t := 4) rfl).keep hF (t := 2) rfl).keep hF (t := 0) rfl)
 refine wp_loop_m (σ := Nat × List (List Sl.Op) × Slv) (fun z L_ => (8, vi z.1) :: (7, sv z.2.2) :: L_) (fun z l_ => (Own (sliceEK opEK) (sv z.2.2) z.2.1) :: l_) (fun z => (∀ x ∈ z.2.1, (∀ y ∈ x, y.ok) ∧ (x.length : Int) ≤ n + 1) ∧ (z.2.1.length = z.1 ∧ (z.1 : Int) ≤ c.threads)) (fun z => c.threads.toNat - z.1) (0, [], (some ⟨gl_10, 0, none⟩, 0, 0)) (hS) ((hL_.keepE hF (t := 7) rfl rfl).keepE hF (t := 8) rfl rfl) ?_ ?_
 · exact ⟨(fun _ h => by cases h), by have hb := hc; unfold Config.ok at hb; dsimp only; simp; omega⟩
 rintro ⟨k, xs, q⟩ a w3 ⟨hx, hk⟩ hS hF; try dsimp only at hF; try dsimp only at hS; try dsimp only at hx; try dsimp only at hk
 have hb := hc; unfold Config.ok at hb
 refine wp_seq_k fun K5 hK5 => rh 1 hF hS rfl rfl rfl fun a hF => cx 14 hF rfl (fun c14 hF => ?_) fun c14 hF => ?_
 ·
  refine wp_skip <| hK5 _ _ <| wp_seq_k fun K7 hK7 => wp_block <| ws fun K8 hK8 => gB 4 1 hF hS rfl rfl rfl fun a hF => ?_
  replace hS := hS.pull (p := 2) rfl; dsimp only [List.eraseIdx] at hS
  refine ck hF rfl (l5Program_h hbs (by omega) (by omega) hS) ?_; rintro v w4 a ⟨⟨xs21, q21⟩, ⟨rfl, hx21, hn21⟩, hS⟩ hF
  try dsimp only at hz21
  try dsimp only at hx21 hn21
  refine ge hK8 hF rfl fun a hF => wp_seq_k fun K9 hK9 => ws fun K10 hK10 => ga 1 hF rfl fun a hF => ?_
  refine ck hF rfl (l1Once_c hbs (q := 1) _ hS rfl) ?_; rintro v w5 a ⟨⟨b23, rfl⟩, hS⟩ hF
  refine wl_nil <| hK10 _ _ <| cx 23 hF rfl (fun c23 hF => ?_) fun c23 hF => ?_
  ·
   refine wp_region_lit <| wl hF rfl rfl rfl (r_build (bd42_0 _) ⟨rfl, ec, trivial⟩) fun a hF => wl_bslice opEK [.agg (Sl.Op.enc (⟨1, 0, 0⟩ : Sl.Op)).toArray] [(⟨1, 0, 0⟩ : Sl.Op)] rfl hF hS rfl mk96 rfl ⟨rfl, (hF.ev rfl), trivial⟩ rfl rfl rfl rfl fun gl_25 w6 a hS hF => ga 1 hF rfl fun a hF => ?_
   refine wl_append (q := 0) hF hS rfl rfl (hS.own_rd (i := 1) rfl) mk96 rfl (hF.ev rfl) (hF.ev rfl) (by simp; omega) (by unfold maxLen; simp; omega) ?_; intro A_27 c_27 w7 a hS_ hF; replace hS := hS_; clear hS_; dsimp only [List.set, List.length_cons, List.length_nil] at hS hF
   refine ge hK9 hF rfl fun a hF => wp_region_lit <| ga 2 hF rfl fun a hF => wl_bslice (rawEK 1) [sv (A_27, 0 + 1 + xs21.length, c_27)] [raw (sliceEK opEK) ([(⟨1, 0, 0⟩ : Sl.Op)] ++ xs21) [(A_27, 0 + 1 + xs21.length, c_27)]] rfl hF hS rfl mk76 rfl ⟨rfl, (hF.ev rfl), trivial⟩ rfl rfl rfl rfl fun gl_30 w8 a hS hF => ?_
   have hu_ := hS.own_rd (i := 0) rfl
   replace hS := hS.pull (p := 1) rfl; dsimp only [List.eraseIdx] at hS
   replace hS := hS.own_part (s := (_, _, _))
   replace hS := hS.pull (p := 4) rfl; dsimp only [List.eraseIdx] at hS
   refine wl_appendn (ek := (sliceEK opEK)) hF hS rfl hu_ mk76 rfl (hF.ev rfl) (hF.ev rfl) (by first | omega | (simp; omega)) (by unfold maxLen; first | omega | (simp; omega)) ?_; clear hF a hu_; intro A_31 c_31 w9 a hS_ hF; replace hS := hS_; clear hS_
   refine ga 1 hF rfl fun a hF => wl_nil ?_
   refine xt ?_
   refine hK7 _ _ <| rl hF rfl fun a hF => ?_
   refine xt ?_
   refine ⟨(k + 1, xs ++ [_], (_, _, _)), ⟨all_snoc hx (by first | exact ⟨hx21, by omega⟩ | exact ⟨fun y hy => (List.mem_cons.1 hy).elim (fun e => e ▸ (by decide)) (hx21 y), by simp; omega⟩), by dsimp only; simp; omega⟩, (hS.pm 5 [0, 4, 3] rfl), ((((((hF.nil.keep hF (t := 6) rfl).keep hF (t := 4) rfl).keep hF (t := 2) rfl).keep hF (t := 0) rfl).keepE hF (t := 7) rfl rfl).keepE hF (t := 8) rfl (wk (by omega))), by dsimp only; omega⟩
  refine wp_skip <| hK9 _ _ <| wp_region_lit <| ga 2 hF rfl fun a hF => wl_bslice (rawEK 1) [sv q21] [raw (sliceEK opEK) (xs21) [q21]] rfl hF hS rfl mk76 rfl ⟨rfl, (hF.ev rfl), trivial⟩ rfl rfl rfl rfl fun gl_30 w10 a hS hF => ?_
  have hu_ := hS.own_rd (i := 0) rfl
  replace hS := hS.pull (p := 1) rfl; dsimp only [List.eraseIdx] at hS
  replace hS := hS.own_part (s := (_, _, _))
  replace hS := hS.pull (p := 3) rfl; dsimp only [List.eraseIdx] at hS
  refine wl_appendn (ek := (sliceEK opEK)) hF hS rfl hu_ mk76 rfl (hF.ev rfl) (hF.ev rfl) (by first | omega | (simp; omega)) (by unfold maxLen; first | omega | (simp; omega)) ?_; clear hF a hu_; intro A_31 c_31 w11 a hS_ hF; replace hS := hS_; clear hS_
  refine ga 1 hF rfl fun a hF => wl_nil ?_
  refine xt ?_
  refine hK7 _ _ <| rl hF rfl fun a hF => ?_
  refine xt ?_
  refine ⟨(k + 1, xs ++ [_], (_, _, _)), ⟨all_snoc hx (by first | exact ⟨hx21, by omega⟩ | exact ⟨fun y hy => (List.mem_cons.1 hy).elim (fun e => e ▸ (by decide)) (hx21 y), by simp; omega⟩), by dsimp only; simp; omega⟩, (hS.pm 4 [0, 3, 2] rfl), ((((((hF.nil.keep hF (t := 6) rfl).keep hF (t := 4) rfl).keep hF (t := 2) rfl).keep hF (t := 0) rfl).keepE hF (t := 7) rfl rfl).keepE hF (t := 8) rfl (wk (by omega))), by dsimp only; omega⟩
 refine wp_exit ?_
 refine xt ?_
 refine hK3 _ _ <| rg hF rfl fun a hF => ?_
 refine xr ?_
 exact ret1 rfl hF rfl ⟨(xs, q), ⟨rfl, by dsimp only; omega, hx⟩, (hS.pm 3 [0, 2] rfl)⟩
set_option maxRecDepth 20000
/-- what is kept of a machine that runs -/
structure MGood (m : Sl.Machine) : Prop where
  gs : Good m.state
  wp : ∀ x ∈ m.programs, ∀ y ∈ x, y.wf
  zp : m.programs.length + crow List.length m.programs ≤ 100
  wn : ∀ x ∈ m.next, int64 x
  zn : m.next.length ≤ 4
  we : ∀ x ∈ m.events, x.wf
  ze : m.events.length ≤ 80
  wt : int64 m.time
theorem MGood.wf {m : Sl.Machine} (h : MGood m) : m.wf := ⟨h.gs.wf, h.wp, h.wn, h.we, h.wt⟩
theorem MGood.size {m : Sl.Machine} (h : MGood m) : m.size ≤ 2400 := by
 have := h.gs.sz; have := h.zp; have := h.zn; have := h.ze
 unfold Sl.Machine.size; omega
theorem set_all {α : Type} {P : α → Prop} {xs : List α} {i : Nat} {y : α} (h : ∀ x ∈ xs, P x) (hy : P y) : ∀ x ∈ xs.set i y, P x := fun x hx => by
  rcases List.mem_or_eq_of_mem_set hx with h1 | h1
  · exact h x h1
  · rw [h1]; exact hy
theorem mod_range {k n : Int} (hk : int64 k) (h0 : 0 < n) (h1 : n ≤ 100) : 0 ≤ (IntKind.i64.wrap (k.tmod n + n)).tmod n ∧ (IntKind.i64.wrap (k.tmod n + n)).tmod n < n := by
 have h2 := Int.lt_tmod_of_pos k h0; have h3 := Int.tmod_lt_of_pos k h0
 rw [w64_id (by omega) (by omega)]
 exact ⟨Int.tmod_nonneg _ (by omega), Int.tmod_lt_of_pos _ h0⟩
theorem l18Copy_c {W : World} {m : Sl.Machine} {cs : List Value} (hm : machineEK.K W m cs) (hz : m.size ≤ 1048576) : Calls Tryz.prog 63 #[.agg cs.toArray] W (Ret (Mk W (fun vs => .agg (machineEK.cells m vs).toArray) (fun vs => [Part machineEK m vs]))) := by
 refine cfr Tryz.func63 Tryz.ntmps63 fun a hF => ?_
 have hS := Sep.refl W
 obtain ⟨v0, v1, v2, v3, v4, v5, rfl, r0, r1, r2, r3, r4, r5⟩ := hm
 have hms : stateEK.K W m.state (m.state.encv v0 v1 v2) := ⟨_, _, _, rfl, r0, r1, r2⟩
 obtain ⟨A_a, q_a, rfl, hq_a, hn_a⟩ := r0.sl; unfold maxLen at hn_a
 obtain ⟨A_b, q_b, rfl, hq_b, hn_b⟩ := r1.sl; unfold maxLen at hn_b
 obtain ⟨A_c, q_c, rfl, hq_c, hn_c⟩ := r2.sl; unfold maxLen at hn_c
 obtain ⟨A_d, q_d, rfl, hq_d, hn_d⟩ := r3.sl; unfold maxLen at hn_d
 obtain ⟨A_e, q_e, rfl, hq_e, hn_e⟩ := r4.sl; unfold maxLen at hn_e
 obtain ⟨A_f, q_f, rfl, hq_f, hn_f⟩ := r5.sl; unfold maxLen at hn_f
 have hz1 := hz; unfold Sl.Machine.size at hz1
 refine ws fun K1 hK1 => wl_box (cs := [_, _, _, _, _, _, _, _, _, _, _, _, _, _, _, _, _]) hF hS rfl (hF.ev rfl) rfl fun g1 w1 a hS _ hF => wl_alloc hF hS rfl zr78 fun g2 w2 a hS _ hF => wl_nil <| hK1 _ _ <| wp_seq_k fun K2 hK2 => ?_
 refine wp_region_todo (is := [0, 1, 4, 5, 8, 9, 11, 12, 2, 3, 6, 7, 10, 13, 15]) [(14, 3, [.int .i64 0, .int .i64 0, .int .i64 0, .int .i64 0, .int .i64 0, .int .i64 0, .slice none 0 0, .slice none 0 0, .slice none 0 0, .int .i64 0, .int .i64 0, .int .i64 0, .int .i64 0, .slice none 0 0, .slice none 0 0, .slice none 0 0, .int .i64 0])] [15] (by kernel_rfl) hF hS ⟨⟨⟨_, _, _, rfl, zr78⟩, trivial⟩, by decide, by decide, by decide⟩ (by kernel_rfl) ?_; intro hl_ wd hSd
 refine tp 1 hl_ rfl <| todo_load [2, 6, 10, 13, 15] hl_ (by kernel_rfl) rfl (gw0 rfl) rfl rfl rfl (fun a w_ hF hB_ => r_loadn ag75 (hF.ev rfl) ((hSd.ext hB_).boxn (vs := [_, _, _, _, _, _, _, _, _, _, _, _, _]) (i := 1) (m := 13) rfl rfl) sz75) <| tp 1 hl_ rfl <| todo_load [6, 10, 13, 15] hl_ (by kernel_rfl) rfl (gw0 rfl) rfl rfl rfl (fun a w_ hF hB_ => r_load1 sc29 (hF.ev rfl) ((hSd.ext hB_).box (i := 1) rfl rfl)) <| tp 1 hl_ rfl <| todo_load [10, 13, 15] hl_ (by kernel_rfl) rfl (gw0 rfl) rfl rfl rfl (fun a w_ hF hB_ => r_load1 sc26 (hF.ev rfl) ((hSd.ext hB_).box (i := 1) rfl rfl)) <| tp 1 hl_ rfl ?_
 refine todo_load [13, 15] hl_ (by kernel_rfl) rfl (gw0 rfl) rfl rfl rfl (fun a w_ hF hB_ => r_load1 sc3 (hF.ev rfl) ((hSd.ext hB_).box (i := 1) rfl rfl)) <| todo_fork [(2, [3, 6, 7, 10, 13, 15]), (3, [2, 6, 7, 10, 13, 15]), (7, [2, 3, 6, 10, 13, 15])] hl_ rfl (by kernel_rfl) (List.forall_mem_cons.2 ⟨?_, List.forall_mem_cons.2 ⟨?_, List.forall_mem_cons.2 ⟨?_, fun _ h_ => nomatch h_⟩⟩⟩)
 ·
  refine op_mk rfl rfl (gw0 rfl) rfl rfl rfl (fun a w_ hF => r_call1 en72 (hF.ev rfl)) (fun w_ hS => l8Copy_c (hS.k hms) (by omega)) ?_; rintro vs7
  refine todo_fork [(3, [6, 7, 10, 13, 15]), (7, [3, 6, 10, 13, 15])] hl_ rfl (by kernel_rfl) (List.forall_mem_cons.2 ⟨?_, List.forall_mem_cons.2 ⟨?_, fun _ h_ => nomatch h_⟩⟩)
  ·
   refine op_op rfl rfl (gw0 rfl) rfl rfl rfl (fun a w_ hF hS => r_bslice intEK [] [] rfl mk29 rfl trivial rfl rfl rfl rfl) ?_; intro gl_8
   refine todo_fork [(6, [7, 10, 13, 15]), (7, [6, 10, 13, 15])] hl_ rfl (by kernel_rfl) (List.forall_mem_cons.2 ⟨?_, List.forall_mem_cons.2 ⟨?_, fun _ h_ => nomatch h_⟩⟩)
   ·
    refine op_op rfl rfl (gw0 rfl) rfl rfl rfl (fun a w_ hF hS => r_append0 (hS.rd r4) mk29 rfl (by omega) (by unfold maxLen; omega) (hF.ev rfl) (hF.ev rfl)) ?_; intro s11
    refine todo_op hl_ rfl (by kernel_rfl) rfl rfl rfl rfl rfl (fun a w_ hF hS => r_bslice eventEK [] [] rfl mk26 rfl trivial rfl rfl rfl rfl) ?_; intro gl_12
    refine todo_op hl_ rfl (by kernel_rfl) rfl rfl rfl rfl rfl (fun a w_ hF hS => r_append0 (hS.rd r5) mk26 rfl (by omega) (by unfold maxLen; omega) (hF.ev rfl) (hF.ev rfl)) ?_; intro s15
    refine todo_pure hl_ (by kernel_rfl) rfl (gw0 rfl) rfl rfl rfl (fun a w_ hF => r_build (bd78_0_2_3_4 _ _ _ _ _ _ _ _ _ _ _ _ _ _ _ _ _ _ _ _ _ _ _ _ _ _) ⟨rfl, (hF.ev rfl), rfl, (hF.ev rfl), rfl, (hF.ev rfl), rfl, (hF.ev rfl), trivial⟩) ?_
    refine todo_fin hl_ rfl (by kernel_rfl) (tl := [_]) rfl ?_; intro a w7 hF hA_
    obtain ⟨g3, hS, he_0⟩ := hA_.open1; clear hA_
    replace hF := hF.more he_0; clear he_0
    clear hl_; try clear hSd
    try dsimp only [List.cons_append, List.nil_append, List.set] at hS
    try clear wd
    refine ww 0 hF hS rfl rfl rfl rfl rfl rfl fun w8 hS => wl_nil ⟨rfl, ?_⟩
    refine hK2 _ _ <| wp_seq_k fun K3 hK3 => rg hF rfl fun a hF => wp_block ?_
    replace hS := hS.own_nil (sliceEK opEK)
    replace hS := hS.pull (p := 1) rfl; dsimp only [List.eraseIdx] at hS
    replace hS := hS.pull (p := 1) rfl; dsimp only [List.eraseIdx] at hS
    have hL_ := (((hF.nil.keep hF (t := 3) rfl).keep hF (t := 2) rfl).keep hF (t := 1) rfl)
    refine wp_loop_m (σ := Nat × Slv) (fun z L_ => (4, vi z.1) :: L_) (fun z l_ => (Own (sliceEK opEK) (sv z.2) (m.programs.take z.1)) :: (Box g3 (m.encv (sv (vs7.getD 0 (none, 0, 0))) (sv (vs7.getD 1 (none, 0, 0))) (sv (vs7.getD 2 (none, 0, 0))) (sv z.2) (sv s11) (sv s15))) :: l_) (fun z => (z.1 ≤ m.programs.length)) (fun z => m.programs.length - z.1) (0, (none, 0, 0)) (hS) (hL_.keepE hF (t := 4) rfl rfl) ?_ ?_
    · exact Nat.zero_le _
    rintro ⟨k, q⟩ a w9 hk hS hF; try dsimp only at hF; try dsimp only at hS; try dsimp only at hk
    dsimp only [Sl.Machine.encv] at hS
    refine wp_seq_k fun K5 hK5 => rh 8 hF hS rfl rfl rfl fun a hF => cx 23 hF rfl (fun c23 hF => ?_) fun c23 hF => ?_
    ·
     have hlt : k < m.programs.length := by omega
     have hx := at0_nat hlt
     have hc1 := crow_le1 (c := List.length) hx
     refine wp_skip <| hK5 _ _ <| wp_seq_k fun K7 hK7 => wp_block ?_
     refine wp_region_todo (is := [0, 1, 3, 4, 5, 6, 7, 2, 8, 9, 10, 11, 12]) [] [10, 11, 12] (by kernel_rfl) hF hS ⟨trivial, by decide, by decide, by decide⟩ (by kernel_rfl) ?_; intro hl_ wd hSd
     refine tp 1 hl_ rfl <| todo_load [10, 11, 12] hl_ (by kernel_rfl) rfl (gw0 rfl) rfl rfl rfl (fun a w_ hF hB_ => r_load1 sc76 (hF.ev rfl) ((hSd.ext hB_).box (i := 1) rfl rfl)) <| tp 1 hl_ rfl <| todo_load [6, 7, 8, 9, 10, 11, 12] hl_ (by kernel_rfl) rfl (gw0 rfl) rfl rfl rfl (fun a w_ hF hB_ => r_load1 sc76 (hF.ev rfl) ((hSd.ext hB_).box (i := 8) rfl rfl)) <| tp 1 hl_ rfl ?_
     obtain ⟨g32, o32, m32, q32, cs32, hv32, hm32, hl32, hk32, hz32, hc32⟩ := Rd.idx (r3) hx
     obtain ⟨v32, rfl, hr32⟩ := hk32; obtain ⟨Ae32, qe32, rfl, _, hme32⟩ := hr32.sl; unfold maxLen at hme32
     refine todo_pure hl_ (by kernel_rfl) rfl (gw0 rfl) rfl rfl rfl (fun a w_ hF => r_index sl76 ((hF.ev rfl).trans hv32) (hF.ev rfl) (by omega) (by omega)) <| todo_load [8, 9, 10, 11, 12] hl_ (by kernel_rfl) rfl (gw0 rfl) rfl rfl rfl (fun a w_ hF hB_ => r_load1 sc96 (hF.ev rfl) (cellB (hSd.ext hB_).old (hc32 0 _ rfl))) ?_
     refine todo_op hl_ rfl (by kernel_rfl) rfl rfl rfl rfl rfl (fun a w_ hF hS => r_bslice opEK [] [] rfl mk96 rfl trivial rfl rfl rfl rfl) ?_; intro gl_28
     refine todo_op hl_ rfl (by kernel_rfl) rfl rfl rfl rfl rfl (fun a w_ hF hS => r_append0 (hS.rd hr32) mk96 rfl (by omega) (by unfold maxLen; omega) (hF.ev rfl) (hF.ev rfl)) ?_; intro s34
     refine todo_op hl_ rfl (by kernel_rfl) rfl rfl rfl rfl rfl (fun a w_ hF hS => r_bslice (rawEK 1) [sv s34] [raw (sliceEK opEK) (at0 m.programs (k : Int)) [s34]] rfl mk76 rfl ⟨rfl, (hF.ev rfl), trivial⟩ rfl rfl rfl rfl) ?_; intro gl_35
     refine todo_fin hl_ rfl (by kernel_rfl) (tl := [_, _, _]) rfl ?_; intro a w13 hF hA_
     have hS := hA_.sep; clear hA_
     clear hl_; try clear hSd
     try dsimp only [List.cons_append, List.nil_append, List.set] at hS
     try clear wd
     have hu_ := hS.own_rd (i := 0) rfl
     replace hS := hS.pull (p := 1) rfl; dsimp only [List.eraseIdx] at hS
     replace hS := hS.own_part (s := (_, _, _))
     replace hS := hS.pull (p := 3) rfl; dsimp only [List.eraseIdx] at hS
     refine wl_appendn (ek := (sliceEK opEK)) hF hS rfl hu_ mk76 rfl (hF.ev rfl) (hF.ev rfl) (by simp; omega) (by unfold maxLen; simp; omega) ?_; clear hF a hu_; intro A_36 c_36 w14 a hS_ hF; replace hS := hS_; clear hS_
     refine ga 1 hF rfl fun a hF => wv 3 hF hS rfl rfl rfl rfl rfl rfl fun w15 hS => wl_nil ⟨rfl, ?_⟩
     refine xt ?_
     refine hK7 _ _ <| rl hF rfl fun a hF => ?_
     refine xt ?_
     rw [← take_at0 (by omega)] at hS
     refine ⟨(k + 1, (_, _, _)), (by dsimp only; omega), (hS.pick [0, 3, 4, 5, 6, 7, 8, 9, 10] (by decide) rfl), ((((hF.nil.keep hF (t := 3) rfl).keep hF (t := 2) rfl).keep hF (t := 1) rfl).keepE hF (t := 4) rfl (wk (by omega))), by dsimp only; omega⟩
    refine wp_exit ?_
    refine xt ?_
    refine hK3 _ _ <| ws fun K8 hK8 => gB 1 1 hF hS rfl rfl rfl fun a hF => ww 7 hF hS rfl rfl rfl rfl rfl rfl fun w16 hS => wl_nil (hK8 _ _ ?_)
    refine xr ?_
    obtain rfl : k = m.programs.length := by omega
    rw [List.take_length] at hS
    replace hS := hS.pull (p := 6) rfl; dsimp only [List.eraseIdx] at hS
    replace hS : Sep W (Own intEK (sv (vs7.getD 0 (none, 0, 0))) m.state.cells :: Own intEK (sv (vs7.getD 1 (none, 0, 0))) m.state.generations :: Own threadEK (sv (vs7.getD 2 (none, 0, 0))) m.state.threads :: _) _ := hS.part_open
    refine ret1c rfl ag78 hF hS (i := 9) rfl sz78 rfl ⟨[vs7.getD 0 (none, 0, 0), vs7.getD 1 (none, 0, 0), vs7.getD 2 (none, 0, 0), q, s11, s15], rfl, hS.part_of [0, 1, 2, 3, 7, 5] (by decide) rfl⟩
   ·
    refine op_op rfl rfl (gw0 rfl) rfl rfl rfl (fun a w_ hF hS => r_bslice eventEK [] [] rfl mk26 rfl trivial rfl rfl rfl rfl) ?_; intro gl_12
    refine todo_op hl_ rfl (by kernel_rfl) rfl rfl rfl rfl rfl (fun a w_ hF hS => r_append0 (hS.rd r4) mk29 rfl (by omega) (by unfold maxLen; omega) (hF.ev rfl) (hF.ev rfl)) ?_; intro s11
    refine todo_op hl_ rfl (by kernel_rfl) rfl rfl rfl rfl rfl (fun a w_ hF hS => r_append0 (hS.rd r5) mk26 rfl (by omega) (by unfold maxLen; omega) (hF.ev rfl) (hF.ev rfl)) ?_; intro s15
    refine todo_pure hl_ (by kernel_rfl) rfl (gw0 rfl) rfl rfl rfl (fun a w_ hF => r_build (bd78_0_2_3_4 _ _ _ _ _ _ _ _ _ _ _ _ _ _ _ _ _ _ _ _ _ _ _ _ _ _) ⟨rfl, (hF.ev rfl), rfl, (hF.ev rfl), rfl, (hF.ev rfl), rfl, (hF.ev rfl), trivial⟩) ?_
    refine todo_fin hl_ rfl (by kernel_rfl) (tl := [_]) rfl ?_; intro a w20 hF hA_
    obtain ⟨g3, hS, he_0⟩ := hA_.open1; clear hA_
    replace hF := hF.more he_0; clear he_0
    clear hl_; try clear hSd
    try dsimp only [List.cons_append, List.nil_append, List.set] at hS
    try clear wd
    refine ww 0 hF hS rfl rfl rfl rfl rfl rfl fun w21 hS => wl_nil ⟨rfl, ?_⟩
    refine hK2 _ _ <| wp_seq_k fun K9 hK9 => rg hF rfl fun a hF => wp_block ?_
    replace hS := hS.own_nil (sliceEK opEK)
    replace hS := hS.pull (p := 1) rfl; dsimp only [List.eraseIdx] at hS
    replace hS := hS.pull (p := 1) rfl; dsimp only [List.eraseIdx] at hS
    have hL_ := (((hF.nil.keep hF (t := 3) rfl).keep hF (t := 2) rfl).keep hF (t := 1) rfl)
    refine wp_loop_m (σ := Nat × Slv) (fun z L_ => (4, vi z.1) :: L_) (fun z l_ => (Own (sliceEK opEK) (sv z.2) (m.programs.take z.1)) :: (Box g3 (m.encv (sv (vs7.getD 0 (none, 0, 0))) (sv (vs7.getD 1 (none, 0, 0))) (sv (vs7.getD 2 (none, 0, 0))) (sv z.2) (sv s11) (sv s15))) :: l_) (fun z => (z.1 ≤ m.programs.length)) (fun z => m.programs.length - z.1) (0, (none, 0, 0)) (hS) (hL_.keepE hF (t := 4) rfl rfl) ?_ ?_
    · exact Nat.zero_le _
    rintro ⟨k, q⟩ a w22 hk hS hF; try dsimp only at hF; try dsimp only at hS; try dsimp only at hk
    dsimp only [Sl.Machine.encv] at hS
    refine wp_seq_k fun K11 hK11 => rh 8 hF hS rfl rfl rfl fun a hF => cx 23 hF rfl (fun c23 hF => ?_) fun c23 hF => ?_
    ·
     have hlt : k < m.programs.length := by omega
     have hx := at0_nat hlt
     have hc1 := crow_le1 (c := List.length) hx
     refine wp_skip <| hK11 _ _ <| wp_seq_k fun K13 hK13 => wp_block ?_
     refine wp_region_todo (is := [0, 1, 3, 4, 5, 6, 7, 2, 8, 9, 10, 11, 12]) [] [10, 11, 12] (by kernel_rfl) hF hS ⟨trivial, by decide, by decide, by decide⟩ (by kernel_rfl) ?_; intro hl_ wd hSd
     refine tp 1 hl_ rfl <| todo_load [10, 11, 12] hl_ (by kernel_rfl) rfl (gw0 rfl) rfl rfl rfl (fun a w_ hF hB_ => r_load1 sc76 (hF.ev rfl) ((hSd.ext hB_).box (i := 1) rfl rfl)) <| tp 1 hl_ rfl <| todo_load [6, 7, 8, 9, 10, 11, 12] hl_ (by kernel_rfl) rfl (gw0 rfl) rfl rfl rfl (fun a w_ hF hB_ => r_load1 sc76 (hF.ev rfl) ((hSd.ext hB_).box (i := 8) rfl rfl)) <| tp 1 hl_ rfl ?_
     obtain ⟨g32, o32, m32, q32, cs32, hv32, hm32, hl32, hk32, hz32, hc32⟩ := Rd.idx (r3) hx
     obtain ⟨v32, rfl, hr32⟩ := hk32; obtain ⟨Ae32, qe32, rfl, _, hme32⟩ := hr32.sl; unfold maxLen at hme32
     refine todo_pure hl_ (by kernel_rfl) rfl (gw0 rfl) rfl rfl rfl (fun a w_ hF => r_index sl76 ((hF.ev rfl).trans hv32) (hF.ev rfl) (by omega) (by omega)) <| todo_load [8, 9, 10, 11, 12] hl_ (by kernel_rfl) rfl (gw0 rfl) rfl rfl rfl (fun a w_ hF hB_ => r_load1 sc96 (hF.ev rfl) (cellB (hSd.ext hB_).old (hc32 0 _ rfl))) ?_
     refine todo_op hl_ rfl (by kernel_rfl) rfl rfl rfl rfl rfl (fun a w_ hF hS => r_bslice opEK [] [] rfl mk96 rfl trivial rfl rfl rfl rfl) ?_; intro gl_28
     refine todo_op hl_ rfl (by kernel_rfl) rfl rfl rfl rfl rfl (fun a w_ hF hS => r_append0 (hS.rd hr32) mk96 rfl (by omega) (by unfold maxLen; omega) (hF.ev rfl) (hF.ev rfl)) ?_; intro s34
     refine todo_op hl_ rfl (by kernel_rfl) rfl rfl rfl rfl rfl (fun a w_ hF hS => r_bslice (rawEK 1) [sv s34] [raw (sliceEK opEK) (at0 m.programs (k : Int)) [s34]] rfl mk76 rfl ⟨rfl, (hF.ev rfl), trivial⟩ rfl rfl rfl rfl) ?_; intro gl_35
     refine todo_fin hl_ rfl (by kernel_rfl) (tl := [_, _, _]) rfl ?_; intro a w26 hF hA_
     have hS := hA_.sep; clear hA_
     clear hl_; try clear hSd
     try dsimp only [List.cons_append, List.nil_append, List.set] at hS
     try clear wd
     have hu_ := hS.own_rd (i := 0) rfl
     replace hS := hS.pull (p := 1) rfl; dsimp only [List.eraseIdx] at hS
     replace hS := hS.own_part (s := (_, _, _))
     replace hS := hS.pull (p := 3) rfl; dsimp only [List.eraseIdx] at hS
     refine wl_appendn (ek := (sliceEK opEK)) hF hS rfl hu_ mk76 rfl (hF.ev rfl) (hF.ev rfl) (by simp; omega) (by unfold maxLen; simp; omega) ?_; clear hF a hu_; intro A_36 c_36 w27 a hS_ hF; replace hS := hS_; clear hS_
     refine ga 1 hF rfl fun a hF => wv 3 hF hS rfl rfl rfl rfl rfl rfl fun w28 hS => wl_nil ⟨rfl, ?_⟩
     refine xt ?_
     refine hK13 _ _ <| rl hF rfl fun a hF => ?_
     refine xt ?_
     rw [← take_at0 (by omega)] at hS
     refine ⟨(k + 1, (_, _, _)), (by dsimp only; omega), (hS.pick [0, 3, 4, 5, 6, 7, 8, 9, 10] (by decide) rfl), ((((hF.nil.keep hF (t := 3) rfl).keep hF (t := 2) rfl).keep hF (t := 1) rfl).keepE hF (t := 4) rfl (wk (by omega))), by dsimp only; omega⟩
    refine wp_exit ?_
    refine xt ?_
    refine hK9 _ _ <| ws fun K14 hK14 => gB 1 1 hF hS rfl rfl rfl fun a hF => ww 7 hF hS rfl rfl rfl rfl rfl rfl fun w29 hS => wl_nil (hK14 _ _ ?_)
    refine xr ?_
    obtain rfl : k = m.programs.length := by omega
    rw [List.take_length] at hS
    replace hS := hS.pull (p := 6) rfl; dsimp only [List.eraseIdx] at hS
    replace hS : Sep W (Own intEK (sv (vs7.getD 0 (none, 0, 0))) m.state.cells :: Own intEK (sv (vs7.getD 1 (none, 0, 0))) m.state.generations :: Own threadEK (sv (vs7.getD 2 (none, 0, 0))) m.state.threads :: _) _ := hS.part_open
    refine ret1c rfl ag78 hF hS (i := 9) rfl sz78 rfl ⟨[vs7.getD 0 (none, 0, 0), vs7.getD 1 (none, 0, 0), vs7.getD 2 (none, 0, 0), q, s11, s15], rfl, hS.part_of [0, 1, 2, 3, 6, 5] (by decide) rfl⟩
  ·
   refine op_op rfl rfl (gw0 rfl) rfl rfl rfl (fun a w_ hF hS => r_bslice eventEK [] [] rfl mk26 rfl trivial rfl rfl rfl rfl) ?_; intro gl_12
   refine todo_op hl_ rfl (by kernel_rfl) rfl rfl rfl rfl rfl (fun a w_ hF hS => r_bslice intEK [] [] rfl mk29 rfl trivial rfl rfl rfl rfl) ?_; intro gl_8
   refine todo_op hl_ rfl (by kernel_rfl) rfl rfl rfl rfl rfl (fun a w_ hF hS => r_append0 (hS.rd r4) mk29 rfl (by omega) (by unfold maxLen; omega) (hF.ev rfl) (hF.ev rfl)) ?_; intro s11
   refine todo_op hl_ rfl (by kernel_rfl) rfl rfl rfl rfl rfl (fun a w_ hF hS => r_append0 (hS.rd r5) mk26 rfl (by omega) (by unfold maxLen; omega) (hF.ev rfl) (hF.ev rfl)) ?_; intro s15
   refine todo_pure hl_ (by kernel_rfl) rfl (gw0 rfl) rfl rfl rfl (fun a w_ hF => r_build (bd78_0_2_3_4 _ _ _ _ _ _ _ _ _ _ _ _ _ _ _ _ _ _ _ _ _ _ _ _ _ _) ⟨rfl, (hF.ev rfl), rfl, (hF.ev rfl), rfl, (hF.ev rfl), rfl, (hF.ev rfl), trivial⟩) ?_
   refine todo_fin hl_ rfl (by kernel_rfl) (tl := [_]) rfl ?_; intro a w34 hF hA_
   obtain ⟨g3, hS, he_0⟩ := hA_.open1; clear hA_
   replace hF := hF.more he_0; clear he_0
   clear hl_; try clear hSd
   try dsimp only [List.cons_append, List.nil_append, List.set] at hS
   try clear wd
   refine ww 0 hF hS rfl rfl rfl rfl rfl rfl fun w35 hS => wl_nil ⟨rfl, ?_⟩
   refine hK2 _ _ <| wp_seq_k fun K15 hK15 => rg hF rfl fun a hF => wp_block ?_
   replace hS := hS.own_nil (sliceEK opEK)
   replace hS := hS.pull (p := 1) rfl; dsimp only [List.eraseIdx] at hS
   replace hS := hS.pull (p := 1) rfl; dsimp only [List.eraseIdx] at hS
   have hL_ := (((hF.nil.keep hF (t := 3) rfl).keep hF (t := 2) rfl).keep hF (t := 1) rfl)
   refine wp_loop_m (σ := Nat × Slv) (fun z L_ => (4, vi z.1) :: L_) (fun z l_ => (Own (sliceEK opEK) (sv z.2) (m.programs.take z.1)) :: (Box g3 (m.encv (sv (vs7.getD 0 (none, 0, 0))) (sv (vs7.getD 1 (none, 0, 0))) (sv (vs7.getD 2 (none, 0, 0))) (sv z.2) (sv s11) (sv s15))) :: l_) (fun z => (z.1 ≤ m.programs.length)) (fun z => m.programs.length - z.1) (0, (none, 0, 0)) (hS) (hL_.keepE hF (t := 4) rfl rfl) ?_ ?_
   · exact Nat.zero_le _
   rintro ⟨k, q⟩ a w36 hk hS hF; try dsimp only at hF; try dsimp only at hS; try dsimp only at hk
   dsimp only [Sl.Machine.encv] at hS
   refine wp_seq_k fun K17 hK17 => rh 8 hF hS rfl rfl rfl fun a hF => cx 23 hF rfl (fun c23 hF => ?_) fun c23 hF => ?_
   ·
    have hlt : k < m.programs.length := by omega
    have hx := at0_nat hlt
    have hc1 := crow_le1 (c := List.length) hx
    refine wp_skip <| hK17 _ _ <| wp_seq_k fun K19 hK19 => wp_block ?_
    refine wp_region_todo (is := [0, 1, 3, 4, 5, 6, 7, 2, 8, 9, 10, 11, 12]) [] [10, 11, 12] (by kernel_rfl) hF hS ⟨trivial, by decide, by decide, by decide⟩ (by kernel_rfl) ?_; intro hl_ wd hSd
    refine tp 1 hl_ rfl <| todo_load [10, 11, 12] hl_ (by kernel_rfl) rfl (gw0 rfl) rfl rfl rfl (fun a w_ hF hB_ => r_load1 sc76 (hF.ev rfl) ((hSd.ext hB_).box (i := 1) rfl rfl)) <| tp 1 hl_ rfl <| todo_load [6, 7, 8, 9, 10, 11, 12] hl_ (by kernel_rfl) rfl (gw0 rfl) rfl rfl rfl (fun a w_ hF hB_ => r_load1 sc76 (hF.ev rfl) ((hSd.ext hB_).box (i := 8) rfl rfl)) <| tp 1 hl_ rfl ?_
    obtain ⟨g32, o32, m32, q32, cs32, hv32, hm32, hl32, hk32, hz32, hc32⟩ := Rd.idx (r3) hx
    obtain ⟨v32, rfl, hr32⟩ := hk32; obtain ⟨Ae32, qe32, rfl, _, hme32⟩ := hr32.sl; unfold maxLen at hme32
    refine todo_pure hl_ (by kernel_rfl) rfl (gw0 rfl) rfl rfl rfl (fun a w_ hF => r_index sl76 ((hF.ev rfl).trans hv32) (hF.ev rfl) (by omega) (by omega)) <| todo_load [8, 9, 10, 11, 12] hl_ (by kernel_rfl) rfl (gw0 rfl) rfl rfl rfl (fun a w_ hF hB_ => r_load1 sc96 (hF.ev rfl) (cellB (hSd.ext hB_).old (hc32 0 _ rfl))) ?_
    refine todo_op hl_ rfl (by kernel_rfl) rfl rfl rfl rfl rfl (fun a w_ hF hS => r_bslice opEK [] [] rfl mk96 rfl trivial rfl rfl rfl rfl) ?_; intro gl_28
    refine todo_op hl_ rfl (by kernel_rfl) rfl rfl rfl rfl rfl (fun a w_ hF hS => r_append0 (hS.rd hr32) mk96 rfl (by omega) (by unfold maxLen; omega) (hF.ev rfl) (hF.ev rfl)) ?_; intro s34
    refine todo_op hl_ rfl (by kernel_rfl) rfl rfl rfl rfl rfl (fun a w_ hF hS => r_bslice (rawEK 1) [sv s34] [raw (sliceEK opEK) (at0 m.programs (k : Int)) [s34]] rfl mk76 rfl ⟨rfl, (hF.ev rfl), trivial⟩ rfl rfl rfl rfl) ?_; intro gl_35
    refine todo_fin hl_ rfl (by kernel_rfl) (tl := [_, _, _]) rfl ?_; intro a w40 hF hA_
    have hS := hA_.sep; clear hA_
    clear hl_; try clear hSd
    try dsimp only [List.cons_append, List.nil_append, List.set] at hS
    try clear wd
    have hu_ := hS.own_rd (i := 0) rfl
    replace hS := hS.pull (p := 1) rfl; dsimp only [List.eraseIdx] at hS
    replace hS := hS.own_part (s := (_, _, _))
    replace hS := hS.pull (p := 3) rfl; dsimp only [List.eraseIdx] at hS
    refine wl_appendn (ek := (sliceEK opEK)) hF hS rfl hu_ mk76 rfl (hF.ev rfl) (hF.ev rfl) (by simp; omega) (by unfold maxLen; simp; omega) ?_; clear hF a hu_; intro A_36 c_36 w41 a hS_ hF; replace hS := hS_; clear hS_
    refine ga 1 hF rfl fun a hF => wv 3 hF hS rfl rfl rfl rfl rfl rfl fun w42 hS => wl_nil ⟨rfl, ?_⟩
    refine xt ?_
    refine hK19 _ _ <| rl hF rfl fun a hF => ?_
    refine xt ?_
    rw [← take_at0 (by omega)] at hS
    refine ⟨(k + 1, (_, _, _)), (by dsimp only; omega), (hS.pick [0, 3, 4, 5, 6, 7, 8, 9, 10] (by decide) rfl), ((((hF.nil.keep hF (t := 3) rfl).keep hF (t := 2) rfl).keep hF (t := 1) rfl).keepE hF (t := 4) rfl (wk (by omega))), by dsimp only; omega⟩
   refine wp_exit ?_
   refine xt ?_
   refine hK15 _ _ <| ws fun K20 hK20 => gB 1 1 hF hS rfl rfl rfl fun a hF => ww 7 hF hS rfl rfl rfl rfl rfl rfl fun w43 hS => wl_nil (hK20 _ _ ?_)
   refine xr ?_
   obtain rfl : k = m.programs.length := by omega
   rw [List.take_length] at hS
   replace hS := hS.pull (p := 6) rfl; dsimp only [List.eraseIdx] at hS
   replace hS : Sep W (Own intEK (sv (vs7.getD 0 (none, 0, 0))) m.state.cells :: Own intEK (sv (vs7.getD 1 (none, 0, 0))) m.state.generations :: Own threadEK (sv (vs7.getD 2 (none, 0, 0))) m.state.threads :: _) _ := hS.part_open
   refine ret1c rfl ag78 hF hS (i := 9) rfl sz78 rfl ⟨[vs7.getD 0 (none, 0, 0), vs7.getD 1 (none, 0, 0), vs7.getD 2 (none, 0, 0), q, s11, s15], rfl, hS.part_of [0, 1, 2, 3, 6, 5] (by decide) rfl⟩
 ·
  refine op_op rfl rfl (gw0 rfl) rfl rfl rfl (fun a w_ hF hS => r_bslice intEK [] [] rfl mk29 rfl trivial rfl rfl rfl rfl) ?_; intro gl_8
  refine todo_fork [(2, [6, 7, 10, 13, 15]), (7, [2, 6, 10, 13, 15])] hl_ rfl (by kernel_rfl) (List.forall_mem_cons.2 ⟨?_, List.forall_mem_cons.2 ⟨?_, fun _ h_ => nomatch h_⟩⟩)
  ·
   refine op_mk rfl rfl (gw0 rfl) rfl rfl rfl (fun a w_ hF => r_call1 en72 (hF.ev rfl)) (fun w_ hS => l8Copy_c (hS.k hms) (by omega)) ?_; rintro vs7
   refine todo_fork [(6, [7, 10, 13, 15]), (7, [6, 10, 13, 15])] hl_ rfl (by kernel_rfl) (List.forall_mem_cons.2 ⟨?_, List.forall_mem_cons.2 ⟨?_, fun _ h_ => nomatch h_⟩⟩)
   ·
    refine op_op rfl rfl (gw0 rfl) rfl rfl rfl (fun a w_ hF hS => r_append0 (hS.rd r4) mk29 rfl (by omega) (by unfold maxLen; omega) (hF.ev rfl) (hF.ev rfl)) ?_; intro s11
    refine todo_op hl_ rfl (by kernel_rfl) rfl rfl rfl rfl rfl (fun a w_ hF hS => r_bslice eventEK [] [] rfl mk26 rfl trivial rfl rfl rfl rfl) ?_; intro gl_12
    refine todo_op hl_ rfl (by kernel_rfl) rfl rfl rfl rfl rfl (fun a w_ hF hS => r_append0 (hS.rd r5) mk26 rfl (by omega) (by unfold maxLen; omega) (hF.ev rfl) (hF.ev rfl)) ?_; intro s15
    refine todo_pure hl_ (by kernel_rfl) rfl (gw0 rfl) rfl rfl rfl (fun a w_ hF => r_build (bd78_0_2_3_4 _ _ _ _ _ _ _ _ _ _ _ _ _ _ _ _ _ _ _ _ _ _ _ _ _ _) ⟨rfl, (hF.ev rfl), rfl, (hF.ev rfl), rfl, (hF.ev rfl), rfl, (hF.ev rfl), trivial⟩) ?_
    refine todo_fin hl_ rfl (by kernel_rfl) (tl := [_]) rfl ?_; intro a w48 hF hA_
    obtain ⟨g3, hS, he_0⟩ := hA_.open1; clear hA_
    replace hF := hF.more he_0; clear he_0
    clear hl_; try clear hSd
    try dsimp only [List.cons_append, List.nil_append, List.set] at hS
    try clear wd
    refine ww 0 hF hS rfl rfl rfl rfl rfl rfl fun w49 hS => wl_nil ⟨rfl, ?_⟩
    refine hK2 _ _ <| wp_seq_k fun K21 hK21 => rg hF rfl fun a hF => wp_block ?_
    replace hS := hS.own_nil (sliceEK opEK)
    replace hS := hS.pull (p := 1) rfl; dsimp only [List.eraseIdx] at hS
    replace hS := hS.pull (p := 1) rfl; dsimp only [List.eraseIdx] at hS
    have hL_ := (((hF.nil.keep hF (t := 3) rfl).keep hF (t := 2) rfl).keep hF (t := 1) rfl)
    refine wp_loop_m (σ := Nat × Slv) (fun z L_ => (4, vi z.1) :: L_) (fun z l_ => (Own (sliceEK opEK) (sv z.2) (m.programs.take z.1)) :: (Box g3 (m.encv (sv (vs7.getD 0 (none, 0, 0))) (sv (vs7.getD 1 (none, 0, 0))) (sv (vs7.getD 2 (none, 0, 0))) (sv z.2) (sv s11) (sv s15))) :: l_) (fun z => (z.1 ≤ m.programs.length)) (fun z => m.programs.length - z.1) (0, (none, 0, 0)) (hS) (hL_.keepE hF (t := 4) rfl rfl) ?_ ?_
    · exact Nat.zero_le _
    rintro ⟨k, q⟩ a w50 hk hS hF; try dsimp only at hF; try dsimp only at hS; try dsimp only at hk
    dsimp only [Sl.Machine.encv] at hS
    refine wp_seq_k fun K23 hK23 => rh 8 hF hS rfl rfl rfl fun a hF => cx 23 hF rfl (fun c23 hF => ?_) fun c23 hF => ?_
    ·
     have hlt : k < m.programs.length := by omega
     have hx := at0_nat hlt
     have hc1 := crow_le1 (c := List.length) hx
     refine wp_skip <| hK23 _ _ <| wp_seq_k fun K25 hK25 => wp_block ?_
     refine wp_region_todo (is := [0, 1, 3, 4, 5, 6, 7, 2, 8, 9, 10, 11, 12]) [] [10, 11, 12] (by kernel_rfl) hF hS ⟨trivial, by decide, by decide, by decide⟩ (by kernel_rfl) ?_; intro hl_ wd hSd
     refine tp 1 hl_ rfl <| todo_load [10, 11, 12] hl_ (by kernel_rfl) rfl (gw0 rfl) rfl rfl rfl (fun a w_ hF hB_ => r_load1 sc76 (hF.ev rfl) ((hSd.ext hB_).box (i := 1) rfl rfl)) <| tp 1 hl_ rfl <| todo_load [6, 7, 8, 9, 10, 11, 12] hl_ (by kernel_rfl) rfl (gw0 rfl) rfl rfl rfl (fun a w_ hF hB_ => r_load1 sc76 (hF.ev rfl) ((hSd.ext hB_).box (i := 8) rfl rfl)) <| tp 1 hl_ rfl ?_
     obtain ⟨g32, o32, m32, q32, cs32, hv32, hm32, hl32, hk32, hz32, hc32⟩ := Rd.idx (r3) hx
     obtain ⟨v32, rfl, hr32⟩ := hk32; obtain ⟨Ae32, qe32, rfl, _, hme32⟩ := hr32.sl; unfold maxLen at hme32
     refine todo_pure hl_ (by kernel_rfl) rfl (gw0 rfl) rfl rfl rfl (fun a w_ hF => r_index sl76 ((hF.ev rfl).trans hv32) (hF.ev rfl) (by omega) (by omega)) <| todo_load [8, 9, 10, 11, 12] hl_ (by kernel_rfl) rfl (gw0 rfl) rfl rfl rfl (fun a w_ hF hB_ => r_load1 sc96 (hF.ev rfl) (cellB (hSd.ext hB_).old (hc32 0 _ rfl))) ?_
     refine todo_op hl_ rfl (by kernel_rfl) rfl rfl rfl rfl rfl (fun a w_ hF hS => r_bslice opEK [] [] rfl mk96 rfl trivial rfl rfl rfl rfl) ?_; intro gl_28
     refine todo_op hl_ rfl (by kernel_rfl) rfl rfl rfl rfl rfl (fun a w_ hF hS => r_append0 (hS.rd hr32) mk96 rfl (by omega) (by unfold maxLen; omega) (hF.ev rfl) (hF.ev rfl)) ?_; intro s34
     refine todo_op hl_ rfl (by kernel_rfl) rfl rfl rfl rfl rfl (fun a w_ hF hS => r_bslice (rawEK 1) [sv s34] [raw (sliceEK opEK) (at0 m.programs (k : Int)) [s34]] rfl mk76 rfl ⟨rfl, (hF.ev rfl), trivial⟩ rfl rfl rfl rfl) ?_; intro gl_35
     refine todo_fin hl_ rfl (by kernel_rfl) (tl := [_, _, _]) rfl ?_; intro a w54 hF hA_
     have hS := hA_.sep; clear hA_
     clear hl_; try clear hSd
     try dsimp only [List.cons_append, List.nil_append, List.set] at hS
     try clear wd
     have hu_ := hS.own_rd (i := 0) rfl
     replace hS := hS.pull (p := 1) rfl; dsimp only [List.eraseIdx] at hS
     replace hS := hS.own_part (s := (_, _, _))
     replace hS := hS.pull (p := 3) rfl; dsimp only [List.eraseIdx] at hS
     refine wl_appendn (ek := (sliceEK opEK)) hF hS rfl hu_ mk76 rfl (hF.ev rfl) (hF.ev rfl) (by simp; omega) (by unfold maxLen; simp; omega) ?_; clear hF a hu_; intro A_36 c_36 w55 a hS_ hF; replace hS := hS_; clear hS_
     refine ga 1 hF rfl fun a hF => wv 3 hF hS rfl rfl rfl rfl rfl rfl fun w56 hS => wl_nil ⟨rfl, ?_⟩
     refine xt ?_
     refine hK25 _ _ <| rl hF rfl fun a hF => ?_
     refine xt ?_
     rw [← take_at0 (by omega)] at hS
     refine ⟨(k + 1, (_, _, _)), (by dsimp only; omega), (hS.pick [0, 3, 4, 5, 6, 7, 8, 9, 10] (by decide) rfl), ((((hF.nil.keep hF (t := 3) rfl).keep hF (t := 2) rfl).keep hF (t := 1) rfl).keepE hF (t := 4) rfl (wk (by omega))), by dsimp only; omega⟩
    refine wp_exit ?_
    refine xt ?_
    refine hK21 _ _ <| ws fun K26 hK26 => gB 1 1 hF hS rfl rfl rfl fun a hF => ww 7 hF hS rfl rfl rfl rfl rfl rfl fun w57 hS => wl_nil (hK26 _ _ ?_)
    refine xr ?_
    obtain rfl : k = m.programs.length := by omega
    rw [List.take_length] at hS
    replace hS := hS.pull (p := 5) rfl; dsimp only [List.eraseIdx] at hS
    replace hS : Sep W (Own intEK (sv (vs7.getD 0 (none, 0, 0))) m.state.cells :: Own intEK (sv (vs7.getD 1 (none, 0, 0))) m.state.generations :: Own threadEK (sv (vs7.getD 2 (none, 0, 0))) m.state.threads :: _) _ := hS.part_open
    refine ret1c rfl ag78 hF hS (i := 9) rfl sz78 rfl ⟨[vs7.getD 0 (none, 0, 0), vs7.getD 1 (none, 0, 0), vs7.getD 2 (none, 0, 0), q, s11, s15], rfl, hS.part_of [0, 1, 2, 3, 7, 5] (by decide) rfl⟩
   ·
    refine op_op rfl rfl (gw0 rfl) rfl rfl rfl (fun a w_ hF hS => r_bslice eventEK [] [] rfl mk26 rfl trivial rfl rfl rfl rfl) ?_; intro gl_12
    refine todo_op hl_ rfl (by kernel_rfl) rfl rfl rfl rfl rfl (fun a w_ hF hS => r_append0 (hS.rd r4) mk29 rfl (by omega) (by unfold maxLen; omega) (hF.ev rfl) (hF.ev rfl)) ?_; intro s11
    refine todo_op hl_ rfl (by kernel_rfl) rfl rfl rfl rfl rfl (fun a w_ hF hS => r_append0 (hS.rd r5) mk26 rfl (by omega) (by unfold maxLen; omega) (hF.ev rfl) (hF.ev rfl)) ?_; intro s15
    refine todo_pure hl_ (by kernel_rfl) rfl (gw0 rfl) rfl rfl rfl (fun a w_ hF => r_build (bd78_0_2_3_4 _ _ _ _ _ _ _ _ _ _ _ _ _ _ _ _ _ _ _ _ _ _ _ _ _ _) ⟨rfl, (hF.ev rfl), rfl, (hF.ev rfl), rfl, (hF.ev rfl), rfl, (hF.ev rfl), trivial⟩) ?_
    refine todo_fin hl_ rfl (by kernel_rfl) (tl := [_]) rfl ?_; intro a w61 hF hA_
    obtain ⟨g3, hS, he_0⟩ := hA_.open1; clear hA_
    replace hF := hF.more he_0; clear he_0
    clear hl_; try clear hSd
    try dsimp only [List.cons_append, List.nil_append, List.set] at hS
    try clear wd
    refine ww 0 hF hS rfl rfl rfl rfl rfl rfl fun w62 hS => wl_nil ⟨rfl, ?_⟩
    refine hK2 _ _ <| wp_seq_k fun K27 hK27 => rg hF rfl fun a hF => wp_block ?_
    replace hS := hS.own_nil (sliceEK opEK)
    replace hS := hS.pull (p := 1) rfl; dsimp only [List.eraseIdx] at hS
    replace hS := hS.pull (p := 1) rfl; dsimp only [List.eraseIdx] at hS
    have hL_ := (((hF.nil.keep hF (t := 3) rfl).keep hF (t := 2) rfl).keep hF (t := 1) rfl)
    refine wp_loop_m (σ := Nat × Slv) (fun z L_ => (4, vi z.1) :: L_) (fun z l_ => (Own (sliceEK opEK) (sv z.2) (m.programs.take z.1)) :: (Box g3 (m.encv (sv (vs7.getD 0 (none, 0, 0))) (sv (vs7.getD 1 (none, 0, 0))) (sv (vs7.getD 2 (none, 0, 0))) (sv z.2) (sv s11) (sv s15))) :: l_) (fun z => (z.1 ≤ m.programs.length)) (fun z => m.programs.length - z.1) (0, (none, 0, 0)) (hS) (hL_.keepE hF (t := 4) rfl rfl) ?_ ?_
    · exact Nat.zero_le _
    rintro ⟨k, q⟩ a w63 hk hS hF; try dsimp only at hF; try dsimp only at hS; try dsimp only at hk
    dsimp only [Sl.Machine.encv] at hS
    refine wp_seq_k fun K29 hK29 => rh 8 hF hS rfl rfl rfl fun a hF => cx 23 hF rfl (fun c23 hF => ?_) fun c23 hF => ?_
    ·
     have hlt : k < m.programs.length := by omega
     have hx := at0_nat hlt
     have hc1 := crow_le1 (c := List.length) hx
     refine wp_skip <| hK29 _ _ <| wp_seq_k fun K31 hK31 => wp_block ?_
     refine wp_region_todo (is := [0, 1, 3, 4, 5, 6, 7, 2, 8, 9, 10, 11, 12]) [] [10, 11, 12] (by kernel_rfl) hF hS ⟨trivial, by decide, by decide, by decide⟩ (by kernel_rfl) ?_; intro hl_ wd hSd
     refine tp 1 hl_ rfl <| todo_load [10, 11, 12] hl_ (by kernel_rfl) rfl (gw0 rfl) rfl rfl rfl (fun a w_ hF hB_ => r_load1 sc76 (hF.ev rfl) ((hSd.ext hB_).box (i := 1) rfl rfl)) <| tp 1 hl_ rfl <| todo_load [6, 7, 8, 9, 10, 11, 12] hl_ (by kernel_rfl) rfl (gw0 rfl) rfl rfl rfl (fun a w_ hF hB_ => r_load1 sc76 (hF.ev rfl) ((hSd.ext hB_).box (i := 8) rfl rfl)) <| tp 1 hl_ rfl ?_
     obtain ⟨g32, o32, m32, q32, cs32, hv32, hm32, hl32, hk32, hz32, hc32⟩ := Rd.idx (r3) hx
     obtain ⟨v32, rfl, hr32⟩ := hk32; obtain ⟨Ae32, qe32, rfl, _, hme32⟩ := hr32.sl; unfold maxLen at hme32
     refine todo_pure hl_ (by kernel_rfl) rfl (gw0 rfl) rfl rfl rfl (fun a w_ hF => r_index sl76 ((hF.ev rfl).trans hv32) (hF.ev rfl) (by omega) (by omega)) <| todo_load [8, 9, 10, 11, 12] hl_ (by kernel_rfl) rfl (gw0 rfl) rfl rfl rfl (fun a w_ hF hB_ => r_load1 sc96 (hF.ev rfl) (cellB (hSd.ext hB_).old (hc32 0 _ rfl))) ?_
     refine todo_op hl_ rfl (by kernel_rfl) rfl rfl rfl rfl rfl (fun a w_ hF hS => r_bslice opEK [] [] rfl mk96 rfl trivial rfl rfl rfl rfl) ?_; intro gl_28
     refine todo_op hl_ rfl (by kernel_rfl) rfl rfl rfl rfl rfl (fun a w_ hF hS => r_append0 (hS.rd hr32) mk96 rfl (by omega) (by unfold maxLen; omega) (hF.ev rfl) (hF.ev rfl)) ?_; intro s34
     refine todo_op hl_ rfl (by kernel_rfl) rfl rfl rfl rfl rfl (fun a w_ hF hS => r_bslice (rawEK 1) [sv s34] [raw (sliceEK opEK) (at0 m.programs (k : Int)) [s34]] rfl mk76 rfl ⟨rfl, (hF.ev rfl), trivial⟩ rfl rfl rfl rfl) ?_; intro gl_35
     refine todo_fin hl_ rfl (by kernel_rfl) (tl := [_, _, _]) rfl ?_; intro a w67 hF hA_
     have hS := hA_.sep; clear hA_
     clear hl_; try clear hSd
     try dsimp only [List.cons_append, List.nil_append, List.set] at hS
     try clear wd
     have hu_ := hS.own_rd (i := 0) rfl
     replace hS := hS.pull (p := 1) rfl; dsimp only [List.eraseIdx] at hS
     replace hS := hS.own_part (s := (_, _, _))
     replace hS := hS.pull (p := 3) rfl; dsimp only [List.eraseIdx] at hS
     refine wl_appendn (ek := (sliceEK opEK)) hF hS rfl hu_ mk76 rfl (hF.ev rfl) (hF.ev rfl) (by simp; omega) (by unfold maxLen; simp; omega) ?_; clear hF a hu_; intro A_36 c_36 w68 a hS_ hF; replace hS := hS_; clear hS_
     refine ga 1 hF rfl fun a hF => wv 3 hF hS rfl rfl rfl rfl rfl rfl fun w69 hS => wl_nil ⟨rfl, ?_⟩
     refine xt ?_
     refine hK31 _ _ <| rl hF rfl fun a hF => ?_
     refine xt ?_
     rw [← take_at0 (by omega)] at hS
     refine ⟨(k + 1, (_, _, _)), (by dsimp only; omega), (hS.pick [0, 3, 4, 5, 6, 7, 8, 9, 10] (by decide) rfl), ((((hF.nil.keep hF (t := 3) rfl).keep hF (t := 2) rfl).keep hF (t := 1) rfl).keepE hF (t := 4) rfl (wk (by omega))), by dsimp only; omega⟩
    refine wp_exit ?_
    refine xt ?_
    refine hK27 _ _ <| ws fun K32 hK32 => gB 1 1 hF hS rfl rfl rfl fun a hF => ww 7 hF hS rfl rfl rfl rfl rfl rfl fun w70 hS => wl_nil (hK32 _ _ ?_)
    refine xr ?_
    obtain rfl : k = m.programs.length := by omega
    rw [List.take_length] at hS
    replace hS := hS.pull (p := 5) rfl; dsimp only [List.eraseIdx] at hS
    replace hS : Sep W (Own intEK (sv (vs7.getD 0 (none, 0, 0))) m.state.cells :: Own intEK (sv (vs7.getD 1 (none, 0, 0))) m.state.generations :: Own threadEK (sv (vs7.getD 2 (none, 0, 0))) m.state.threads :: _) _ := hS.part_open
    refine ret1c rfl ag78 hF hS (i := 9) rfl sz78 rfl ⟨[vs7.getD 0 (none, 0, 0), vs7.getD 1 (none, 0, 0), vs7.getD 2 (none, 0, 0), q, s11, s15], rfl, hS.part_of [0, 1, 2, 3, 6, 5] (by decide) rfl⟩
  ·
   refine op_op rfl rfl (gw0 rfl) rfl rfl rfl (fun a w_ hF hS => r_bslice eventEK [] [] rfl mk26 rfl trivial rfl rfl rfl rfl) ?_; intro gl_12
   refine todo_mk hl_ rfl (by kernel_rfl) rfl rfl rfl rfl rfl (fun a w_ hF => r_call1 en72 (hF.ev rfl)) (fun w_ hS => l8Copy_c (hS.k hms) (by omega)) ?_; rintro vs7
   refine todo_op hl_ rfl (by kernel_rfl) rfl rfl rfl rfl rfl (fun a w_ hF hS => r_append0 (hS.rd r4) mk29 rfl (by omega) (by unfold maxLen; omega) (hF.ev rfl) (hF.ev rfl)) ?_; intro s11
   refine todo_op hl_ rfl (by kernel_rfl) rfl rfl rfl rfl rfl (fun a w_ hF hS => r_append0 (hS.rd r5) mk26 rfl (by omega) (by unfold maxLen; omega) (hF.ev rfl) (hF.ev rfl)) ?_; intro s15
   refine todo_pure hl_ (by kernel_rfl) rfl (gw0 rfl) rfl rfl rfl (fun a w_ hF => r_build (bd78_0_2_3_4 _ _ _ _ _ _ _ _ _ _ _ _ _ _ _ _ _ _ _ _ _ _ _ _ _ _) ⟨rfl, (hF.ev rfl), rfl, (hF.ev rfl), rfl, (hF.ev rfl), rfl, (hF.ev rfl), trivial⟩) ?_
   refine todo_fin hl_ rfl (by kernel_rfl) (tl := [_]) rfl ?_; intro a w74 hF hA_
   obtain ⟨g3, hS, he_0⟩ := hA_.open1; clear hA_
   replace hF := hF.more he_0; clear he_0
   clear hl_; try clear hSd
   try dsimp only [List.cons_append, List.nil_append, List.set] at hS
   try clear wd
   refine ww 0 hF hS rfl rfl rfl rfl rfl rfl fun w75 hS => wl_nil ⟨rfl, ?_⟩
   refine hK2 _ _ <| wp_seq_k fun K33 hK33 => rg hF rfl fun a hF => wp_block ?_
   replace hS := hS.own_nil (sliceEK opEK)
   replace hS := hS.pull (p := 1) rfl; dsimp only [List.eraseIdx] at hS
   replace hS := hS.pull (p := 1) rfl; dsimp only [List.eraseIdx] at hS
   have hL_ := (((hF.nil.keep hF (t := 3) rfl).keep hF (t := 2) rfl).keep hF (t := 1) rfl)
   refine wp_loop_m (σ := Nat × Slv) (fun z L_ => (4, vi z.1) :: L_) (fun z l_ => (Own (sliceEK opEK) (sv z.2) (m.programs.take z.1)) :: (Box g3 (m.encv (sv (vs7.getD 0 (none, 0, 0))) (sv (vs7.getD 1 (none, 0, 0))) (sv (vs7.getD 2 (none, 0, 0))) (sv z.2) (sv s11) (sv s15))) :: l_) (fun z => (z.1 ≤ m.programs.length)) (fun z => m.programs.length - z.1) (0, (none, 0, 0)) (hS) (hL_.keepE hF (t := 4) rfl rfl) ?_ ?_
   · exact Nat.zero_le _
   rintro ⟨k, q⟩ a w76 hk hS hF; try dsimp only at hF; try dsimp only at hS; try dsimp only at hk
   dsimp only [Sl.Machine.encv] at hS
   refine wp_seq_k fun K35 hK35 => rh 8 hF hS rfl rfl rfl fun a hF => cx 23 hF rfl (fun c23 hF => ?_) fun c23 hF => ?_
   ·
    have hlt : k < m.programs.length := by omega
    have hx := at0_nat hlt
    have hc1 := crow_le1 (c := List.length) hx
    refine wp_skip <| hK35 _ _ <| wp_seq_k fun K37 hK37 => wp_block ?_
    refine wp_region_todo (is := [0, 1, 3, 4, 5, 6, 7, 2, 8, 9, 10, 11, 12]) [] [10, 11, 12] (by kernel_rfl) hF hS ⟨trivial, by decide, by decide, by decide⟩ (by kernel_rfl) ?_; intro hl_ wd hSd
    refine tp 1 hl_ rfl <| todo_load [10, 11, 12] hl_ (by kernel_rfl) rfl (gw0 rfl) rfl rfl rfl (fun a w_ hF hB_ => r_load1 sc76 (hF.ev rfl) ((hSd.ext hB_).box (i := 1) rfl rfl)) <| tp 1 hl_ rfl <| todo_load [6, 7, 8, 9, 10, 11, 12] hl_ (by kernel_rfl) rfl (gw0 rfl) rfl rfl rfl (fun a w_ hF hB_ => r_load1 sc76 (hF.ev rfl) ((hSd.ext hB_).box (i := 8) rfl rfl)) <| tp 1 hl_ rfl ?_
    obtain ⟨g32, o32, m32, q32, cs32, hv32, hm32, hl32, hk32, hz32, hc32⟩ := Rd.idx (r3) hx
    obtain ⟨v32, rfl, hr32⟩ := hk32; obtain ⟨Ae32, qe32, rfl, _, hme32⟩ := hr32.sl; unfold maxLen at hme32
    refine todo_pure hl_ (by kernel_rfl) rfl (gw0 rfl) rfl rfl rfl (fun a w_ hF => r_index sl76 ((hF.ev rfl).trans hv32) (hF.ev rfl) (by omega) (by omega)) <| todo_load [8, 9, 10, 11, 12] hl_ (by kernel_rfl) rfl (gw0 rfl) rfl rfl rfl (fun a w_ hF hB_ => r_load1 sc96 (hF.ev rfl) (cellB (hSd.ext hB_).old (hc32 0 _ rfl))) ?_
    refine todo_op hl_ rfl (by kernel_rfl) rfl rfl rfl rfl rfl (fun a w_ hF hS => r_bslice opEK [] [] rfl mk96 rfl trivial rfl rfl rfl rfl) ?_; intro gl_28
    refine todo_op hl_ rfl (by kernel_rfl) rfl rfl rfl rfl rfl (fun a w_ hF hS => r_append0 (hS.rd hr32) mk96 rfl (by omega) (by unfold maxLen; omega) (hF.ev rfl) (hF.ev rfl)) ?_; intro s34
    refine todo_op hl_ rfl (by kernel_rfl) rfl rfl rfl rfl rfl (fun a w_ hF hS => r_bslice (rawEK 1) [sv s34] [raw (sliceEK opEK) (at0 m.programs (k : Int)) [s34]] rfl mk76 rfl ⟨rfl, (hF.ev rfl), trivial⟩ rfl rfl rfl rfl) ?_; intro gl_35
    refine todo_fin hl_ rfl (by kernel_rfl) (tl := [_, _, _]) rfl ?_; intro a w80 hF hA_
    have hS := hA_.sep; clear hA_
    clear hl_; try clear hSd
    try dsimp only [List.cons_append, List.nil_append, List.set] at hS
    try clear wd
    have hu_ := hS.own_rd (i := 0) rfl
    replace hS := hS.pull (p := 1) rfl; dsimp only [List.eraseIdx] at hS
    replace hS := hS.own_part (s := (_, _, _))
    replace hS := hS.pull (p := 3) rfl; dsimp only [List.eraseIdx] at hS
    refine wl_appendn (ek := (sliceEK opEK)) hF hS rfl hu_ mk76 rfl (hF.ev rfl) (hF.ev rfl) (by simp; omega) (by unfold maxLen; simp; omega) ?_; clear hF a hu_; intro A_36 c_36 w81 a hS_ hF; replace hS := hS_; clear hS_
    refine ga 1 hF rfl fun a hF => wv 3 hF hS rfl rfl rfl rfl rfl rfl fun w82 hS => wl_nil ⟨rfl, ?_⟩
    refine xt ?_
    refine hK37 _ _ <| rl hF rfl fun a hF => ?_
    refine xt ?_
    rw [← take_at0 (by omega)] at hS
    refine ⟨(k + 1, (_, _, _)), (by dsimp only; omega), (hS.pick [0, 3, 4, 5, 6, 7, 8, 9, 10] (by decide) rfl), ((((hF.nil.keep hF (t := 3) rfl).keep hF (t := 2) rfl).keep hF (t := 1) rfl).keepE hF (t := 4) rfl (wk (by omega))), by dsimp only; omega⟩
   refine wp_exit ?_
   refine xt ?_
   refine hK33 _ _ <| ws fun K38 hK38 => gB 1 1 hF hS rfl rfl rfl fun a hF => ww 7 hF hS rfl rfl rfl rfl rfl rfl fun w83 hS => wl_nil (hK38 _ _ ?_)
   refine xr ?_
   obtain rfl : k = m.programs.length := by omega
   rw [List.take_length] at hS
   replace hS := hS.pull (p := 4) rfl; dsimp only [List.eraseIdx] at hS
   replace hS : Sep W (Own intEK (sv (vs7.getD 0 (none, 0, 0))) m.state.cells :: Own intEK (sv (vs7.getD 1 (none, 0, 0))) m.state.generations :: Own threadEK (sv (vs7.getD 2 (none, 0, 0))) m.state.threads :: _) _ := hS.part_open
   refine ret1c rfl ag78 hF hS (i := 9) rfl sz78 rfl ⟨[vs7.getD 0 (none, 0, 0), vs7.getD 1 (none, 0, 0), vs7.getD 2 (none, 0, 0), q, s11, s15], rfl, hS.part_of [0, 1, 2, 3, 6, 5] (by decide) rfl⟩
 ·
  refine op_op rfl rfl (gw0 rfl) rfl rfl rfl (fun a w_ hF hS => r_bslice eventEK [] [] rfl mk26 rfl trivial rfl rfl rfl rfl) ?_; intro gl_12
  refine todo_fork [(2, [3, 6, 10, 13, 15]), (3, [2, 6, 10, 13, 15])] hl_ rfl (by kernel_rfl) (List.forall_mem_cons.2 ⟨?_, List.forall_mem_cons.2 ⟨?_, fun _ h_ => nomatch h_⟩⟩)
  ·
   refine op_mk rfl rfl (gw0 rfl) rfl rfl rfl (fun a w_ hF => r_call1 en72 (hF.ev rfl)) (fun w_ hS => l8Copy_c (hS.k hms) (by omega)) ?_; rintro vs7
   refine todo_op hl_ rfl (by kernel_rfl) rfl rfl rfl rfl rfl (fun a w_ hF hS => r_bslice intEK [] [] rfl mk29 rfl trivial rfl rfl rfl rfl) ?_; intro gl_8
   refine todo_op hl_ rfl (by kernel_rfl) rfl rfl rfl rfl rfl (fun a w_ hF hS => r_append0 (hS.rd r4) mk29 rfl (by omega) (by unfold maxLen; omega) (hF.ev rfl) (hF.ev rfl)) ?_; intro s11
   refine todo_op hl_ rfl (by kernel_rfl) rfl rfl rfl rfl rfl (fun a w_ hF hS => r_append0 (hS.rd r5) mk26 rfl (by omega) (by unfold maxLen; omega) (hF.ev rfl) (hF.ev rfl)) ?_; intro s15
   refine todo_pure hl_ (by kernel_rfl) rfl (gw0 rfl) rfl rfl rfl (fun a w_ hF => r_build (bd78_0_2_3_4 _ _ _ _ _ _ _ _ _ _ _ _ _ _ _ _ _ _ _ _ _ _ _ _ _ _) ⟨rfl, (hF.ev rfl), rfl, (hF.ev rfl), rfl, (hF.ev rfl), rfl, (hF.ev rfl), trivial⟩) ?_
   refine todo_fin hl_ rfl (by kernel_rfl) (tl := [_]) rfl ?_; intro a w88 hF hA_
   obtain ⟨g3, hS, he_0⟩ := hA_.open1; clear hA_
   replace hF := hF.more he_0; clear he_0
   clear hl_; try clear hSd
   try dsimp only [List.cons_append, List.nil_append, List.set] at hS
   try clear wd
   refine ww 0 hF hS rfl rfl rfl rfl rfl rfl fun w89 hS => wl_nil ⟨rfl, ?_⟩
   refine hK2 _ _ <| wp_seq_k fun K39 hK39 => rg hF rfl fun a hF => wp_block ?_
   replace hS := hS.own_nil (sliceEK opEK)
   replace hS := hS.pull (p := 1) rfl; dsimp only [List.eraseIdx] at hS
   replace hS := hS.pull (p := 1) rfl; dsimp only [List.eraseIdx] at hS
   have hL_ := (((hF.nil.keep hF (t := 3) rfl).keep hF (t := 2) rfl).keep hF (t := 1) rfl)
   refine wp_loop_m (σ := Nat × Slv) (fun z L_ => (4, vi z.1) :: L_) (fun z l_ => (Own (sliceEK opEK) (sv z.2) (m.programs.take z.1)) :: (Box g3 (m.encv (sv (vs7.getD 0 (none, 0, 0))) (sv (vs7.getD 1 (none, 0, 0))) (sv (vs7.getD 2 (none, 0, 0))) (sv z.2) (sv s11) (sv s15))) :: l_) (fun z => (z.1 ≤ m.programs.length)) (fun z => m.programs.length - z.1) (0, (none, 0, 0)) (hS) (hL_.keepE hF (t := 4) rfl rfl) ?_ ?_
   · exact Nat.zero_le _
   rintro ⟨k, q⟩ a w90 hk hS hF; try dsimp only at hF; try dsimp only at hS; try dsimp only at hk
   dsimp only [Sl.Machine.encv] at hS
   refine wp_seq_k fun K41 hK41 => rh 8 hF hS rfl rfl rfl fun a hF => cx 23 hF rfl (fun c23 hF => ?_) fun c23 hF => ?_
   ·
    have hlt : k < m.programs.length := by omega
    have hx := at0_nat hlt
    have hc1 := crow_le1 (c := List.length) hx
    refine wp_skip <| hK41 _ _ <| wp_seq_k fun K43 hK43 => wp_block ?_
    refine wp_region_todo (is := [0, 1, 3, 4, 5, 6, 7, 2, 8, 9, 10, 11, 12]) [] [10, 11, 12] (by kernel_rfl) hF hS ⟨trivial, by decide, by decide, by decide⟩ (by kernel_rfl) ?_; intro hl_ wd hSd
    refine tp 1 hl_ rfl <| todo_load [10, 11, 12] hl_ (by kernel_rfl) rfl (gw0 rfl) rfl rfl rfl (fun a w_ hF hB_ => r_load1 sc76 (hF.ev rfl) ((hSd.ext hB_).box (i := 1) rfl rfl)) <| tp 1 hl_ rfl <| todo_load [6, 7, 8, 9, 10, 11, 12] hl_ (by kernel_rfl) rfl (gw0 rfl) rfl rfl rfl (fun a w_ hF hB_ => r_load1 sc76 (hF.ev rfl) ((hSd.ext hB_).box (i := 8) rfl rfl)) <| tp 1 hl_ rfl ?_
    obtain ⟨g32, o32, m32, q32, cs32, hv32, hm32, hl32, hk32, hz32, hc32⟩ := Rd.idx (r3) hx
    obtain ⟨v32, rfl, hr32⟩ := hk32; obtain ⟨Ae32, qe32, rfl, _, hme32⟩ := hr32.sl; unfold maxLen at hme32
    refine todo_pure hl_ (by kernel_rfl) rfl (gw0 rfl) rfl rfl rfl (fun a w_ hF => r_index sl76 ((hF.ev rfl).trans hv32) (hF.ev rfl) (by omega) (by omega)) <| todo_load [8, 9, 10, 11, 12] hl_ (by kernel_rfl) rfl (gw0 rfl) rfl rfl rfl (fun a w_ hF hB_ => r_load1 sc96 (hF.ev rfl) (cellB (hSd.ext hB_).old (hc32 0 _ rfl))) ?_
    refine todo_op hl_ rfl (by kernel_rfl) rfl rfl rfl rfl rfl (fun a w_ hF hS => r_bslice opEK [] [] rfl mk96 rfl trivial rfl rfl rfl rfl) ?_; intro gl_28
    refine todo_op hl_ rfl (by kernel_rfl) rfl rfl rfl rfl rfl (fun a w_ hF hS => r_append0 (hS.rd hr32) mk96 rfl (by omega) (by unfold maxLen; omega) (hF.ev rfl) (hF.ev rfl)) ?_; intro s34
    refine todo_op hl_ rfl (by kernel_rfl) rfl rfl rfl rfl rfl (fun a w_ hF hS => r_bslice (rawEK 1) [sv s34] [raw (sliceEK opEK) (at0 m.programs (k : Int)) [s34]] rfl mk76 rfl ⟨rfl, (hF.ev rfl), trivial⟩ rfl rfl rfl rfl) ?_; intro gl_35
    refine todo_fin hl_ rfl (by kernel_rfl) (tl := [_, _, _]) rfl ?_; intro a w94 hF hA_
    have hS := hA_.sep; clear hA_
    clear hl_; try clear hSd
    try dsimp only [List.cons_append, List.nil_append, List.set] at hS
    try clear wd
    have hu_ := hS.own_rd (i := 0) rfl
    replace hS := hS.pull (p := 1) rfl; dsimp only [List.eraseIdx] at hS
    replace hS := hS.own_part (s := (_, _, _))
    replace hS := hS.pull (p := 3) rfl; dsimp only [List.eraseIdx] at hS
    refine wl_appendn (ek := (sliceEK opEK)) hF hS rfl hu_ mk76 rfl (hF.ev rfl) (hF.ev rfl) (by simp; omega) (by unfold maxLen; simp; omega) ?_; clear hF a hu_; intro A_36 c_36 w95 a hS_ hF; replace hS := hS_; clear hS_
    refine ga 1 hF rfl fun a hF => wv 3 hF hS rfl rfl rfl rfl rfl rfl fun w96 hS => wl_nil ⟨rfl, ?_⟩
    refine xt ?_
    refine hK43 _ _ <| rl hF rfl fun a hF => ?_
    refine xt ?_
    rw [← take_at0 (by omega)] at hS
    refine ⟨(k + 1, (_, _, _)), (by dsimp only; omega), (hS.pick [0, 3, 4, 5, 6, 7, 8, 9, 10] (by decide) rfl), ((((hF.nil.keep hF (t := 3) rfl).keep hF (t := 2) rfl).keep hF (t := 1) rfl).keepE hF (t := 4) rfl (wk (by omega))), by dsimp only; omega⟩
   refine wp_exit ?_
   refine xt ?_
   refine hK39 _ _ <| ws fun K44 hK44 => gB 1 1 hF hS rfl rfl rfl fun a hF => ww 7 hF hS rfl rfl rfl rfl rfl rfl fun w97 hS => wl_nil (hK44 _ _ ?_)
   refine xr ?_
   obtain rfl : k = m.programs.length := by omega
   rw [List.take_length] at hS
   replace hS := hS.pull (p := 5) rfl; dsimp only [List.eraseIdx] at hS
   replace hS : Sep W (Own intEK (sv (vs7.getD 0 (none, 0, 0))) m.state.cells :: Own intEK (sv (vs7.getD 1 (none, 0, 0))) m.state.generations :: Own threadEK (sv (vs7.getD 2 (none, 0, 0))) m.state.threads :: _) _ := hS.part_open
   refine ret1c rfl ag78 hF hS (i := 9) rfl sz78 rfl ⟨[vs7.getD 0 (none, 0, 0), vs7.getD 1 (none, 0, 0), vs7.getD 2 (none, 0, 0), q, s11, s15], rfl, hS.part_of [0, 1, 2, 3, 6, 5] (by decide) rfl⟩
  ·
   refine op_op rfl rfl (gw0 rfl) rfl rfl rfl (fun a w_ hF hS => r_bslice intEK [] [] rfl mk29 rfl trivial rfl rfl rfl rfl) ?_; intro gl_8
   refine todo_mk hl_ rfl (by kernel_rfl) rfl rfl rfl rfl rfl (fun a w_ hF => r_call1 en72 (hF.ev rfl)) (fun w_ hS => l8Copy_c (hS.k hms) (by omega)) ?_; rintro vs7
   refine todo_op hl_ rfl (by kernel_rfl) rfl rfl rfl rfl rfl (fun a w_ hF hS => r_append0 (hS.rd r4) mk29 rfl (by omega) (by unfold maxLen; omega) (hF.ev rfl) (hF.ev rfl)) ?_; intro s11
   refine todo_op hl_ rfl (by kernel_rfl) rfl rfl rfl rfl rfl (fun a w_ hF hS => r_append0 (hS.rd r5) mk26 rfl (by omega) (by unfold maxLen; omega) (hF.ev rfl) (hF.ev rfl)) ?_; intro s15
   refine todo_pure hl_ (by kernel_rfl) rfl (gw0 rfl) rfl rfl rfl (fun a w_ hF => r_build (bd78_0_2_3_4 _ _ _ _ _ _ _ _ _ _ _ _ _ _ _ _ _ _ _ _ _ _ _ _ _ _) ⟨rfl, (hF.ev rfl), rfl, (hF.ev rfl), rfl, (hF.ev rfl), rfl, (hF.ev rfl), trivial⟩) ?_
   refine todo_fin hl_ rfl (by kernel_rfl) (tl := [_]) rfl ?_; intro a w101 hF hA_
   obtain ⟨g3, hS, he_0⟩ := hA_.open1; clear hA_
   replace hF := hF.more he_0; clear he_0
   clear hl_; try clear hSd
   try dsimp only [List.cons_append, List.nil_append, List.set] at hS
   try clear wd
   refine ww 0 hF hS rfl rfl rfl rfl rfl rfl fun w102 hS => wl_nil ⟨rfl, ?_⟩
   refine hK2 _ _ <| wp_seq_k fun K45 hK45 => rg hF rfl fun a hF => wp_block ?_
   replace hS := hS.own_nil (sliceEK opEK)
   replace hS := hS.pull (p := 1) rfl; dsimp only [List.eraseIdx] at hS
   replace hS := hS.pull (p := 1) rfl; dsimp only [List.eraseIdx] at hS
   have hL_ := (((hF.nil.keep hF (t := 3) rfl).keep hF (t := 2) rfl).keep hF (t := 1) rfl)
   refine wp_loop_m (σ := Nat × Slv) (fun z L_ => (4, vi z.1) :: L_) (fun z l_ => (Own (sliceEK opEK) (sv z.2) (m.programs.take z.1)) :: (Box g3 (m.encv (sv (vs7.getD 0 (none, 0, 0))) (sv (vs7.getD 1 (none, 0, 0))) (sv (vs7.getD 2 (none, 0, 0))) (sv z.2) (sv s11) (sv s15))) :: l_) (fun z => (z.1 ≤ m.programs.length)) (fun z => m.programs.length - z.1) (0, (none, 0, 0)) (hS) (hL_.keepE hF (t := 4) rfl rfl) ?_ ?_
   · exact Nat.zero_le _
   rintro ⟨k, q⟩ a w103 hk hS hF; try dsimp only at hF; try dsimp only at hS; try dsimp only at hk
   dsimp only [Sl.Machine.encv] at hS
   refine wp_seq_k fun K47 hK47 => rh 8 hF hS rfl rfl rfl fun a hF => cx 23 hF rfl (fun c23 hF => ?_) fun c23 hF => ?_
   ·
    have hlt : k < m.programs.length := by omega
    have hx := at0_nat hlt
    have hc1 := crow_le1 (c := List.length) hx
    refine wp_skip <| hK47 _ _ <| wp_seq_k fun K49 hK49 => wp_block ?_
    refine wp_region_todo (is := [0, 1, 3, 4, 5, 6, 7, 2, 8, 9, 10, 11, 12]) [] [10, 11, 12] (by kernel_rfl) hF hS ⟨trivial, by decide, by decide, by decide⟩ (by kernel_rfl) ?_; intro hl_ wd hSd
    refine tp 1 hl_ rfl <| todo_load [10, 11, 12] hl_ (by kernel_rfl) rfl (gw0 rfl) rfl rfl rfl (fun a w_ hF hB_ => r_load1 sc76 (hF.ev rfl) ((hSd.ext hB_).box (i := 1) rfl rfl)) <| tp 1 hl_ rfl <| todo_load [6, 7, 8, 9, 10, 11, 12] hl_ (by kernel_rfl) rfl (gw0 rfl) rfl rfl rfl (fun a w_ hF hB_ => r_load1 sc76 (hF.ev rfl) ((hSd.ext hB_).box (i := 8) rfl rfl)) <| tp 1 hl_ rfl ?_
    obtain ⟨g32, o32, m32, q32, cs32, hv32, hm32, hl32, hk32, hz32, hc32⟩ := Rd.idx (r3) hx
    obtain ⟨v32, rfl, hr32⟩ := hk32; obtain ⟨Ae32, qe32, rfl, _, hme32⟩ := hr32.sl; unfold maxLen at hme32
    refine todo_pure hl_ (by kernel_rfl) rfl (gw0 rfl) rfl rfl rfl (fun a w_ hF => r_index sl76 ((hF.ev rfl).trans hv32) (hF.ev rfl) (by omega) (by omega)) <| todo_load [8, 9, 10, 11, 12] hl_ (by kernel_rfl) rfl (gw0 rfl) rfl rfl rfl (fun a w_ hF hB_ => r_load1 sc96 (hF.ev rfl) (cellB (hSd.ext hB_).old (hc32 0 _ rfl))) ?_
    refine todo_op hl_ rfl (by kernel_rfl) rfl rfl rfl rfl rfl (fun a w_ hF hS => r_bslice opEK [] [] rfl mk96 rfl trivial rfl rfl rfl rfl) ?_; intro gl_28
    refine todo_op hl_ rfl (by kernel_rfl) rfl rfl rfl rfl rfl (fun a w_ hF hS => r_append0 (hS.rd hr32) mk96 rfl (by omega) (by unfold maxLen; omega) (hF.ev rfl) (hF.ev rfl)) ?_; intro s34
    refine todo_op hl_ rfl (by kernel_rfl) rfl rfl rfl rfl rfl (fun a w_ hF hS => r_bslice (rawEK 1) [sv s34] [raw (sliceEK opEK) (at0 m.programs (k : Int)) [s34]] rfl mk76 rfl ⟨rfl, (hF.ev rfl), trivial⟩ rfl rfl rfl rfl) ?_; intro gl_35
    refine todo_fin hl_ rfl (by kernel_rfl) (tl := [_, _, _]) rfl ?_; intro a w107 hF hA_
    have hS := hA_.sep; clear hA_
    clear hl_; try clear hSd
    try dsimp only [List.cons_append, List.nil_append, List.set] at hS
    try clear wd
    have hu_ := hS.own_rd (i := 0) rfl
    replace hS := hS.pull (p := 1) rfl; dsimp only [List.eraseIdx] at hS
    replace hS := hS.own_part (s := (_, _, _))
    replace hS := hS.pull (p := 3) rfl; dsimp only [List.eraseIdx] at hS
    refine wl_appendn (ek := (sliceEK opEK)) hF hS rfl hu_ mk76 rfl (hF.ev rfl) (hF.ev rfl) (by simp; omega) (by unfold maxLen; simp; omega) ?_; clear hF a hu_; intro A_36 c_36 w108 a hS_ hF; replace hS := hS_; clear hS_
    refine ga 1 hF rfl fun a hF => wv 3 hF hS rfl rfl rfl rfl rfl rfl fun w109 hS => wl_nil ⟨rfl, ?_⟩
    refine xt ?_
    refine hK49 _ _ <| rl hF rfl fun a hF => ?_
    refine xt ?_
    rw [← take_at0 (by omega)] at hS
    refine ⟨(k + 1, (_, _, _)), (by dsimp only; omega), (hS.pick [0, 3, 4, 5, 6, 7, 8, 9, 10] (by decide) rfl), ((((hF.nil.keep hF (t := 3) rfl).keep hF (t := 2) rfl).keep hF (t := 1) rfl).keepE hF (t := 4) rfl (wk (by omega))), by dsimp only; omega⟩
   refine wp_exit ?_
   refine xt ?_
   refine hK45 _ _ <| ws fun K50 hK50 => gB 1 1 hF hS rfl rfl rfl fun a hF => ww 7 hF hS rfl rfl rfl rfl rfl rfl fun w110 hS => wl_nil (hK50 _ _ ?_)
   refine xr ?_
   obtain rfl : k = m.programs.length := by omega
   rw [List.take_length] at hS
   replace hS := hS.pull (p := 4) rfl; dsimp only [List.eraseIdx] at hS
   replace hS : Sep W (Own intEK (sv (vs7.getD 0 (none, 0, 0))) m.state.cells :: Own intEK (sv (vs7.getD 1 (none, 0, 0))) m.state.generations :: Own threadEK (sv (vs7.getD 2 (none, 0, 0))) m.state.threads :: _) _ := hS.part_open
   refine ret1c rfl ag78 hF hS (i := 9) rfl sz78 rfl ⟨[vs7.getD 0 (none, 0, 0), vs7.getD 1 (none, 0, 0), vs7.getD 2 (none, 0, 0), q, s11, s15], rfl, hS.part_of [0, 1, 2, 3, 6, 5] (by decide) rfl⟩
theorem l18Mod_c {W : World} {k n : Int} (h0 : 0 < n) : Calls Tryz.prog 66 #[vi k, vi n] W (Ret fun v w' => v = vi ((IntKind.i64.wrap (k.tmod n + n)).tmod n) ∧ Below W.heap.size W w') := by
 refine cfr Tryz.func66 Tryz.ntmps66 fun a hF => ?_
 have hS := Sep.refl W
 refine rg hF rfl fun a hF => ws fun K2 hK2 => ga 2 hF rfl fun a hF => wl hF rfl rfl rfl (r_rem (by first | decide | omega) (hF.ev rfl) (hF.ev rfl)) fun a hF => ga 3 hF rfl fun a hF => wl hF rfl rfl rfl (r_rem (by first | decide | omega) (hF.ev rfl) (hF.ev rfl)) fun a hF => ge hK2 hF rfl fun a hF => ?_
 refine xr ?_
 exact ret1 rfl hF rfl ⟨rfl, hS.old⟩
theorem l18End_c {W w : World} {l : List Res} {gb : Nat} {z0 z1 z2 z3 z4 z5 : Slv} {m : Sl.Machine} {p : Nat} (hp : p < m.state.threads.length) (hw : (at0 m.state.threads (p : Int)).wf) (ht : int64 m.time) (he : ∀ x ∈ m.events, x.wf) (hz : m.events.length ≤ 80) (hS : Sep W (Box gb (m.encv (sv z0) (sv z1) (sv z2) (sv z3) (sv z4) (sv z5)) :: Own threadEK (sv z2) m.state.threads :: Own eventEK (sv z5) m.events :: l) w) : Calls Tryz.prog 76 #[.pointer (some ⟨gb, 0, none⟩), vi (p : Int)] w (Ret fun v w' => v = .tuple #[] ∧ ∃ es : List Sl.Event, ((∀ x ∈ es, x.wf) ∧ es.length = m.events.length) ∧ Sep W (Box gb (m.encv (sv z0) (sv z1) (sv z2) (sv z3) (sv z4) (sv z5)) :: Own threadEK (sv z2) m.state.threads :: Own eventEK (sv z5) es :: l) w') := by
 refine cfr Tryz.func76 Tryz.ntmps76 fun a hF => ?_
 have hl2 := hS.own_len (q := 1) rfl
 have hl5 := hS.own_len (q := 2) rfl
 have hw0 : vi (IntKind.i64.wrap ((z5.2.1 : Int) - 1)) = vi ((m.events.length : Int) - 1) := by rw [w64_id (by omega) (by omega)]; congr 1; omega
 refine rh 0 hF hS rfl rfl rfl fun a hF => wp_block ?_
 have hL_ := ((hF.nil.keep hF (t := 1) rfl).keep hF (t := 0) rfl)
 refine wp_loop_r (σ := Int) (fun i L_ => (4, vi i) :: L_) (fun i => (-1 ≤ i ∧ i < (m.events.length : Int))) (fun i => (i + 1).toNat) ((m.events.length : Int) - 1) hS (hL_.keepE hF (t := 4) rfl hw0) ?_ ?_
 · exact by omega
 rintro i a w1 hi hS hF; try dsimp only at hF; try dsimp only at hS; try dsimp only at hi
 refine wp_seq_k fun K2 hK2 => rg hF rfl fun a hF => cx 12 hF rfl (fun c12 hF => ?_) fun c12 hF => ?_
 ·
  refine wp_skip <| hK2 _ _ <| wp_seq_k fun K4 hK4 => wp_block <| ws fun K5 hK5 => gB 5 0 hF hS rfl rfl rfl fun a hF => ?_
  obtain ⟨g20, o20, m20, q20, hv20, hm20, hl20, hc20⟩ := Rd.atF ((hS.own_rd (i := 2) rfl)) (a := a) (X := .tmp 19) (hF.ev rfl) (by omega) (by omega)
  refine wl hF rfl rfl rfl (r_index sl26 ((hF.ev rfl).trans hv20) (hF.ev rfl) (by omega) (by first | omega | (simp at hm20; omega))) fun a hF => ?_
  refine ga 1 hF rfl fun a hF => wl hF rfl rfl rfl (r_load1 sc3 (hF.ev rfl) (hc20 0 _ rfl)) fun a hF => ge hK5 hF rfl fun a hF => cx 24 hF rfl (fun c24 hF => ?_) fun c24 hF => ?_
  ·
   refine wp_seq_k fun K6 hK6 => ?_
   refine wp_region_todo (is := [0, 1, 2, 3, 4, 5, 6, 7, 8, 9, 10, 11]) [] [11] (by kernel_rfl) hF hS ⟨trivial, by decide, by decide, by decide⟩ (by kernel_rfl) ?_; intro hl_ wd hSd
   refine tp 3 hl_ rfl <| todo_load [9, 10, 11] hl_ (by kernel_rfl) rfl (gw0 rfl) rfl rfl rfl (fun a w_ hF hB_ => r_load1 sc26 (hF.ev rfl) ((hSd.ext hB_).box (i := 0) rfl rfl)) <| tp 4 hl_ rfl <| todo_load [9, 10, 11] hl_ (by kernel_rfl) rfl (gw0 rfl) rfl rfl rfl (fun a w_ hF hB_ => r_load1 sc3 (hF.ev rfl) ((hSd.ext hB_).box (i := 0) rfl rfl)) ?_
   obtain ⟨g34, o34, m34, q34, hv34, hm34, hl34, hc34⟩ := Rd.idxF ((hSd.own_rd (i := 2) rfl)) (at0_get (i := i) (by omega) (by omega))
   refine todo_pure hl_ (by kernel_rfl) rfl (gw0 rfl) rfl rfl rfl (fun a w_ hF => r_index sl26 ((hF.ev rfl).trans hv34) (hF.ev rfl) (by omega) (by first | omega | (simp at hm34; omega))) ?_
   refine tp 1 hl_ rfl ?_
   refine todo_fin hl_ rfl (by kernel_rfl) (tl := [_]) rfl ?_; intro a w2 hF hA_
   have hS := hA_.sep; clear hA_
   clear hl_; try clear hSd
   try dsimp only [List.cons_append, List.nil_append, List.set] at hS
   try clear wd
   refine wl_ostore (q := 2) (i := (i).toNat) (j := 7) ({ at0 m.events i with fin := m.time } : Sl.Event) hF hS rfl hv34 (at0_get (by omega) (by omega)) (by decide) (fun _ => rfl) (fun _ => rfl) sz3 (hF.ev rfl) rfl (hF.ev rfl) rfl fun w3 hS => ?_; dsimp only [List.set] at hS
   refine wl_nil ⟨rfl, ?_⟩
   refine hK6 _ _ <| wp_seq_k fun K7 hK7 => ?_
   refine wp_region_todo (is := [0, 1, 2, 3, 4, 5, 6, 7, 8, 9, 10, 11, 12, 13, 14, 15, 16]) [] [16] (by kernel_rfl) hF hS ⟨trivial, by decide, by decide, by decide⟩ (by kernel_rfl) ?_; intro hl_ wd hSd
   refine tp 3 hl_ rfl <| todo_load [14, 15, 16] hl_ (by kernel_rfl) rfl (gw0 rfl) rfl rfl rfl (fun a w_ hF hB_ => r_load1 sc26 (hF.ev rfl) ((hSd.ext hB_).box (i := 0) rfl rfl)) <| tp 5 hl_ rfl <| todo_load [11, 12, 13, 14, 15, 16] hl_ (by kernel_rfl) rfl (gw0 rfl) rfl rfl rfl (fun a w_ hF hB_ => r_load1 sc73 (hF.ev rfl) ((hSd.ext hB_).box (i := 0) rfl rfl)) <| tp 1 hl_ rfl ?_
   obtain ⟨g47, o47, m47, q47, cs47, hv47, hm47, hl47, hk47, hz47, hc47⟩ := Rd.idx ((hSd.own_rd (i := 1) rfl)) (at0_get (i := (p : Int)) (by omega) (by omega))
   have hkk47 := hk47; obtain ⟨v47_0, v47_1, v47_2, v47_3, v47_4, rfl, r47_0, r47_1, r47_2, r47_3, r47_4⟩ := hk47
   refine todo_pure hl_ (by kernel_rfl) rfl (gw0 rfl) rfl rfl rfl (fun a w_ hF => r_index sl73 ((hF.ev rfl).trans hv47) (hF.ev rfl) (by omega) (by first | omega | (simp at hm47; omega))) ?_
   refine tp 1 hl_ rfl <| todo_load [14, 15, 16] hl_ (by kernel_rfl) rfl (gw0 rfl) rfl rfl rfl (fun a w_ hF hB_ => r_loadn ag44 (hF.ev rfl) (fun j_ u_ hu_ => cellB hB_ ((subcells (vs := [_, _]) hc47 4 2 rfl) j_ u_ hu_)) sz44) ?_
   obtain ⟨g50, o50, m50, q50, hv50, hm50, hl50, hc50⟩ := Rd.idxF ((hSd.own_rd (i := 2) rfl)) (at0_get (i := i) (by omega) (by rw [List.length_set]; omega))
   refine todo_pure hl_ (by kernel_rfl) rfl (gw0 rfl) rfl rfl rfl (fun a w_ hF => r_index sl26 ((hF.ev rfl).trans hv50) (hF.ev rfl) (by omega) (by first | omega | (simp at hm50; omega))) ?_
   refine tp 1 hl_ rfl ?_
   refine todo_fin hl_ rfl (by kernel_rfl) (tl := [_]) rfl ?_; intro a w4 hF hA_
   have hS := hA_.sep; clear hA_
   clear hl_; try clear hSd
   try dsimp only [List.cons_append, List.nil_append, List.set] at hS
   try clear wd
   refine wl_ostoren (us := [_, _]) (q := 2) (i := (i).toNat) (j := 4) ({ at0 m.events i with fin := m.time, result := (at0 m.state.threads (p : Int)).result } : Sl.Event) hF hS rfl hv50 (List.getElem?_set_self (by omega)) sz44 (hF.ev rfl) rfl ((hF.ev rfl).trans rfl) rfl (fun _ => ⟨rfl, rfl⟩) (fun _ => rfl) (fun _ => rfl) fun w5 hS => ?_; dsimp only [List.set] at hS
   refine wl_nil ⟨rfl, ?_⟩
   refine hK7 _ _ ?_
   refine xr ?_
   have hei := he _ (at0_mem (show 0 ≤ i by omega) hi.2)
   rw [List.set_set] at hS
   refine ret0 rfl hF ⟨rfl, m.events.set i.toNat ({ at0 m.events i with fin := m.time, result := (at0 m.state.threads (p : Int)).result } : Sl.Event), ⟨set_all he (⟨hei.1, hei.2.1, hw.2.2.1, hei.2.2.2.1, ht⟩ : Sl.Event.wf ({ at0 m.events i with fin := m.time, result := (at0 m.state.threads (p : Int)).result } : Sl.Event)), by rw [List.length_set]⟩, (hS.pm 3 [0, 1, 2] rfl)⟩
  refine wp_skip ?_
  refine xt ?_
  refine hK4 _ _ <| rl hF rfl fun a hF => ?_
  refine xt ?_
  refine ⟨(i - 1), (by omega), hS, (((hF.nil.keep hF (t := 1) rfl).keep hF (t := 0) rfl).keepE hF (t := 4) rfl (congrArg vi (w64_id (by omega) (by omega)))), by omega⟩
 refine wp_exit ?_
 refine xt ?_
 exact ret0n rfl hF ⟨rfl, m.events, ⟨he, rfl⟩, (hS.pm 3 [0, 1, 2] rfl)⟩
theorem bd46_0_1_3_4 (x0) (x1) (x2) (x3) (x4) (x5) : Tryz.prog.built 46 [(0, .int .i64 x0), (1, .agg #[.int .i64 x1, .int .i64 x2, .int .i64 x3]), (3, .int .i64 x4), (4, .int .i64 x5)] = some [.int .i64 x0, .int .i64 x1, .int .i64 x2, .int .i64 x3, .int .i64 0, .int .i64 0, .int .i64 x4, .int .i64 x5].toArray := by kernel_rfl
theorem en63 : enterB Tryz.prog 63 = true := by kernel_rfl
theorem en66 : enterB Tryz.prog 66 = true := by kernel_rfl
theorem en77 : enterB Tryz.prog 77 = true := by kernel_rfl
set_option maxRecDepth 20000
theorem stateK_of {w : World} {s : Sl.State} {v0 v1 v2 : Value} (h0 : intEK.Rd w v0 s.cells) (h1 : intEK.Rd w v1 s.generations) (h2 : threadEK.Rd w v2 s.threads) : stateEK.K w s (s.encv v0 v1 v2) := ⟨_, _, _, rfl, h0, h1, h2⟩
theorem start_len {s : Sl.State} {p : Int} {o : Sl.Op} : (startS s p o).1.threads.length = s.threads.length := by
 unfold startS; split
 · split <;> simp [setT]
 · rfl
section
variable {m : Sl.Machine} {p : Nat}
theorem mk_next (hno : nextOk m = true) (hp : p < m.next.length) : 0 ≤ at0 m.next (p : Int) ∧ at0 m.next (p : Int) ≤ ((at0 m.programs (p : Int)).length : Int) := by
 unfold nextOk at hno
 simpa using List.all_eq_true.1 hno p (List.mem_range.2 hp)
end
theorem l18Pick_c {W w : World} {l : List Res} {gb : Nat} {vs : List Slv} {m : Sl.Machine} {p : Nat} (hg : MGood m) (hk : machineOk m = true) (ht : m.time < 1000000) (hp : p < m.next.length) (hS : Sep W (Part machineEK m vs :: Box gb (machineEK.cells m vs) :: l) w) : Calls Tryz.prog 65 #[.pointer (some ⟨gb, 0, none⟩), vi (p : Int)] w (Ret fun v w' => ∃ y : Sl.Machine × List Slv, ((∃ b : Bool, v = .bool b) ∧ MGood y.1) ∧ Sep W (Part machineEK y.1 y.2 :: Box gb (machineEK.cells y.1 y.2) :: l) w') := by
 refine cfr Tryz.func65 Tryz.ntmps65 fun a hF => ?_
 have hmo := hk; unfold machineOk at hmo; simp only [Bool.and_eq_true, decide_eq_true_eq] at hmo
 obtain ⟨⟨⟨⟨⟨⟨hso, hpl, hnl⟩, hpo⟩, hno⟩, htm⟩, hel⟩, heo⟩ := hmo
 obtain ⟨ho_, hc_, hgl_, ht_⟩ := hg.gs.sh
 have hb_ := ho_; unfold Config.ok at hb_
 have hnx := mk_next hno hp
 have hpt : p < m.state.threads.length := by omega
 have hpp : p < m.programs.length := by omega
 have hzp := hg.zp; have hzn := hg.zn; have hze := hg.ze; have hsz := hg.gs.sz
 have hxt := at0_nat hpt
 replace hS : Sep W (Own intEK (sv (vs.getD 0 (none, 0, 0))) m.state.cells :: Own intEK (sv (vs.getD 1 (none, 0, 0))) m.state.generations :: Own threadEK (sv (vs.getD 2 (none, 0, 0))) m.state.threads :: Own (sliceEK opEK) (sv (vs.getD 3 (none, 0, 0))) m.programs :: Own intEK (sv (vs.getD 4 (none, 0, 0))) m.next :: Own eventEK (sv (vs.getD 5 (none, 0, 0))) m.events :: Box gb (m.encv (sv (vs.getD 0 (none, 0, 0))) (sv (vs.getD 1 (none, 0, 0))) (sv (vs.getD 2 (none, 0, 0))) (sv (vs.getD 3 (none, 0, 0))) (sv (vs.getD 4 (none, 0, 0))) (sv (vs.getD 5 (none, 0, 0)))) :: l) w := hS.part_open
 generalize vs.getD 0 (none, 0, 0) = z0 at hS
 generalize vs.getD 1 (none, 0, 0) = z1 at hS
 generalize vs.getD 2 (none, 0, 0) = z2 at hS
 generalize vs.getD 3 (none, 0, 0) = z3 at hS
 generalize vs.getD 4 (none, 0, 0) = z4 at hS
 generalize vs.getD 5 (none, 0, 0) = z5 at hS
 dsimp only [Sl.Machine.encv] at hS
 have hl2 := hS.own_len (q := 2) rfl
 have hl3 := hS.own_len (q := 3) rfl
 have hl4 := hS.own_len (q := 4) rfl
 have hl5 := hS.own_len (q := 5) rfl
 refine rg hF rfl fun a hF => wp_seq_k fun K2 hK2 => ws fun K3 hK3 => gB 6 6 hF hS rfl rfl rfl fun a hF => ?_
 obtain ⟨g14, o14, m14, q14, cs14, hv14, hm14, hl14, hk14, hz14, hc14⟩ := Rd.at ((hS.own_rd (i := 2) rfl)) (a := a) (X := .tmp 13) (hF.ev rfl) (by omega) (by omega)
 have hkk14 := hk14; obtain ⟨v14_0, v14_1, v14_2, v14_3, v14_4, rfl, r14_0, r14_1, r14_2, r14_3, r14_4⟩ := hk14
 refine wl hF rfl rfl rfl (r_index sl73 ((hF.ev rfl).trans hv14) (hF.ev rfl) (by omega) (by first | omega | (simp at hm14; omega))) fun a hF => ?_
 refine ga 1 hF rfl fun a hF => wl hF rfl rfl rfl (r_load1 sc3 (hF.ev rfl) (hc14 0 _ rfl)) fun a hF => ge hK3 hF rfl fun a hF => cx 17 hF rfl (fun c17 hF => ?_) fun c17 hF => ?_
 ·
  have hrun : isRunning m.state (p : Int) = true := by
    unfold isRunning; rw [hso, decide_eq_true (show (0 : Int) ≤ p ∧ (p : Int) ≤ m.state.threads.length - 1 by omega), decide_eq_false c17]; rfl
  obtain ⟨gt, ot, mt, ct, rfl⟩ := hS.elt_form (q := 2) rfl hxt
  have hmt : mt = m.state.threads.length := hS.own_len (q := 2) (s := (some ⟨gt, ot, none⟩, mt, ct)) rfl
  replace hS := hS.set_form (q := 2) rfl hxt; dsimp only [List.set] at hS
  refine ws fun K4 hK4 => ga 4 hF rfl fun a hF => ?_
  replace hS := hS.pm 7 [6, 0, 1, 2, 3, 4, 5] rfl
  refine ck hF rfl (l17Step_c (tl := [sv z3, sv z4, sv z5, vi m.time]) (s := m.state) hpt (Fit.of hso hg.gs.wf hpt) hS) ?_; rintro v w1 a ⟨rfl, hS⟩ hF
  replace hS : Sep W (Box gb (Sl.Machine.encv ⟨(stepBy stepS (stepped m.state) p), m.programs, m.next, m.events, m.time⟩ (sv z0) (sv z1) (sv (some ⟨gt, ot, none⟩, mt, ct)) (sv z3) (sv z4) (sv z5)) :: Own intEK (sv z0) (stepBy stepS (stepped m.state) p).cells :: Own intEK (sv z1) (stepBy stepS (stepped m.state) p).generations :: Own threadEK (sv (some ⟨gt, ot, none⟩, mt, ct)) (stepBy stepS (stepped m.state) p).threads :: Own (sliceEK opEK) (sv z3) m.programs :: Own intEK (sv z4) m.next :: Own eventEK (sv z5) m.events :: l) _ := hS
  have hgs := good_step hg.gs hrun
  have hl1 : (stepBy stepS (stepped m.state) p).threads.length = m.state.threads.length := by unfold stepBy; simp [stepped]
  generalize (stepBy stepS (stepped m.state) p) = s1 at hS hgs hl1
  have hw1 := hgs.wf.2.2.2.1 _ (at0_mem (i := (p : Int)) (by omega) (by omega))
  dsimp only [Sl.Machine.encv] at hS
  refine wl_nil <| hK4 _ _ <| wp_seq_k fun K5 hK5 => ws fun K6 hK6 => gB 6 0 hF hS rfl rfl rfl fun a hF => ?_
  obtain ⟨g29, o29, m29, q29, cs29, hv29, hm29, hl29, hk29, hz29, hc29⟩ := Rd.at ((hS.own_rd (i := 3) rfl)) (a := a) (X := .tmp 28) (hF.ev rfl) (by omega) (by omega)
  have hkk29 := hk29; obtain ⟨v29_0, v29_1, v29_2, v29_3, v29_4, rfl, r29_0, r29_1, r29_2, r29_3, r29_4⟩ := hk29
  refine wl hF rfl rfl rfl (r_index sl73 ((hF.ev rfl).trans hv29) (hF.ev rfl) (by omega) (by first | omega | (simp at hm29; omega))) fun a hF => ?_
  refine ga 1 hF rfl fun a hF => wl hF rfl rfl rfl (r_load1 sc3 (hF.ev rfl) (hc29 0 _ rfl)) fun a hF => ge hK6 hF rfl fun a hF => cx 32 hF rfl (fun c32 hF => ?_) fun c32 hF => ?_
  ·
   refine wp_region_lit <| ga 2 hF rfl fun a hF => ?_
   replace hS := hS.pm 7 [0, 3, 6, 1, 2, 4, 5] rfl
   refine ck hF rfl (l18End_c (m := ⟨s1, m.programs, m.next, m.events, m.time⟩) (p := p) (by dsimp only; omega) hw1 hg.wt hg.we hg.ze hS) ?_; rintro v w2 a ⟨rfl, es35, ⟨he35, hn35⟩, hS⟩ hF
   refine wl_nil <| hK5 _ _ <| ws fun K7 hK7 => gB 8 0 hF hS rfl rfl rfl fun a hF => wv 0 hF hS rfl rfl rfl rfl rfl rfl fun w3 hS => wl_nil <| hK7 _ _ <| rg hF rfl fun a hF => ?_
   refine xr ?_
   dsimp only at hn35
   exact ret1 rfl hF rfl ⟨((⟨s1, m.programs, m.next, es35, IntKind.i64.wrap (m.time + 1)⟩ : Sl.Machine), [z0, z1, (some ⟨gt, ot, none⟩, mt, ct), z3, z4, z5]), ⟨⟨_, rfl⟩, ⟨hgs, hg.wp, hg.zp, hg.wn, hg.zn, he35, (by first | omega | (simp only [List.length_append, List.length_cons, List.length_nil]; omega)), int64_wrap _⟩⟩, Sep.part_mk (ek := machineEK) (x := (⟨s1, m.programs, m.next, es35, IntKind.i64.wrap (m.time + 1)⟩ : Sl.Machine)) (vs := [z0, z1, (some ⟨gt, ot, none⟩, mt, ct), z3, z4, z5]) (hS.pm 7 [3, 4, 1, 5, 6, 2, 0] rfl) rfl⟩
  refine wp_skip <| hK5 _ _ <| ws fun K9 hK9 => gB 8 0 hF hS rfl rfl rfl fun a hF => wv 0 hF hS rfl rfl rfl rfl rfl rfl fun w4 hS => wl_nil <| hK9 _ _ <| rg hF rfl fun a hF => ?_
  refine xr ?_
  exact ret1 rfl hF rfl ⟨((⟨s1, m.programs, m.next, m.events, IntKind.i64.wrap (m.time + 1)⟩ : Sl.Machine), [z0, z1, (some ⟨gt, ot, none⟩, mt, ct), z3, z4, z5]), ⟨⟨_, rfl⟩, ⟨hgs, hg.wp, hg.zp, hg.wn, hg.zn, hg.we, (by first | omega | (simp only [List.length_append, List.length_cons, List.length_nil]; omega)), int64_wrap _⟩⟩, Sep.part_mk (ek := machineEK) (x := (⟨s1, m.programs, m.next, m.events, IntKind.i64.wrap (m.time + 1)⟩ : Sl.Machine)) (vs := [z0, z1, (some ⟨gt, ot, none⟩, mt, ct), z3, z4, z5]) (hS.pm 7 [1, 2, 3, 4, 5, 6, 0] rfl) rfl⟩
 refine wp_skip <| hK2 _ _ <| ws fun K11 hK11 => gB 5 6 hF hS rfl rfl rfl fun a hF => ?_
 obtain ⟨g49, o49, m49, q49, hv49, hm49, hl49, hc49⟩ := Rd.atF ((hS.own_rd (i := 4) rfl)) (a := a) (X := .tmp 48) (hF.ev rfl) (by omega) (by omega)
 refine wl hF rfl rfl rfl (r_index sl29 ((hF.ev rfl).trans hv49) (hF.ev rfl) (by omega) (by first | omega | (simp at hm49; omega))) fun a hF => ?_
 refine wl hF rfl rfl rfl (r_load1 sc3 (hF.ev rfl) (hc49 0 _ rfl)) fun a hF => ge hK11 hF rfl fun a hF => wp_seq_k fun K12 hK12 => ws fun K13 hK13 => gB 6 6 hF hS rfl rfl rfl fun a hF => ?_
 obtain ⟨g57, o57, m57, q57, cs57, hv57, hm57, hl57, hk57, hz57, hc57⟩ := Rd.at ((hS.own_rd (i := 3) rfl)) (a := a) (X := .tmp 56) (hF.ev rfl) (by omega) (by omega)
 obtain ⟨v57, rfl, hr57⟩ := hk57; obtain ⟨Ae57, qe57, rfl, _, hme57⟩ := hr57.sl; unfold maxLen at hme57
 refine wl hF rfl rfl rfl (r_index sl76 ((hF.ev rfl).trans hv57) (hF.ev rfl) (by omega) (by first | omega | (simp at hm57; omega))) fun a hF => ?_
 refine wl hF rfl rfl rfl (r_load1 sc96 (hF.ev rfl) (hc57 0 _ rfl)) fun a hF => ga 3 hF rfl fun a hF => ?_
 apply wo 7 61 68 hF hS
 ·
  intro hg61 a hF
  exact jf 7 6 hF hS rfl rfl rfl rfl rfl rfl
 intro a w5 hF hS
 refine wl_nil <| hK13 _ _ <| cx 68 hF rfl (fun c68 hF => ?_) fun c68 hF => ?_
 ·
  refine rg hF rfl fun a hF => ?_
  refine xr ?_
  exact ret1 rfl hF rfl ⟨(m, [z0, z1, z2, z3, z4, z5]), ⟨⟨_, rfl⟩, hg⟩, Sep.part_mk (ek := machineEK) (x := m) (vs := [z0, z1, z2, z3, z4, z5]) (hS.pm 7 [0, 1, 2, 3, 4, 5, 6] rfl) rfl⟩
 refine wp_skip <| hK12 _ _ <| wp_seq_k fun K15 hK15 => ?_
 refine wp_region_todo (is := [0, 1, 2, 3, 4, 5, 6, 7, 8, 9, 10, 11, 12, 13, 14, 15, 16, 17, 18, 20, 21]) [(19, 6, [.int .i64 0, .int .i64 0, .int .i64 0, .int .i64 0, .int .i64 0, .int .i64 0, .slice none 0 0, .slice none 0 0, .slice none 0 0, .int .i64 0, .int .i64 0, .int .i64 0, .int .i64 0])] [20, 21] (by kernel_rfl) hF hS ⟨⟨⟨_, _, _, rfl, zr75⟩, trivial⟩, by decide, by decide, by decide⟩ (by kernel_rfl) ?_; intro hl_ wd hSd
 refine tp 3 hl_ rfl <| todo_load [15, 16, 17, 18, 20, 21] hl_ (by kernel_rfl) rfl (gw0 rfl) rfl rfl rfl (fun a w_ hF hB_ => r_loadn ag75 (hF.ev rfl) ((hSd.ext hB_).boxn (vs := [_, _, _, _, _, _, _, _, _, _, _, _, _]) (i := 6) (m := 13) rfl rfl) sz75) <| tp 4 hl_ rfl <| todo_load [10, 11, 13, 14, 15, 16, 17, 18, 20, 21] hl_ (by kernel_rfl) rfl (gw0 rfl) rfl rfl rfl (fun a w_ hF hB_ => r_load1 sc76 (hF.ev rfl) ((hSd.ext hB_).box (i := 6) rfl rfl)) <| tp 1 hl_ rfl ?_
 obtain ⟨g80, o80, m80, q80, cs80, hv80, hm80, hl80, hk80, hz80, hc80⟩ := Rd.idx ((hSd.own_rd (i := 3) rfl)) (at0_get (i := (p : Int)) (by omega) (by omega))
 obtain ⟨v80, rfl, hr80⟩ := hk80; obtain ⟨Ae80, qe80, rfl, _, hme80⟩ := hr80.sl; unfold maxLen at hme80
 refine todo_pure hl_ (by kernel_rfl) rfl (gw0 rfl) rfl rfl rfl (fun a w_ hF => r_index sl76 ((hF.ev rfl).trans hv80) (hF.ev rfl) (by omega) (by first | omega | (simp at hm80; omega))) ?_
 refine todo_load [13, 14, 15, 16, 17, 18, 20, 21] hl_ (by kernel_rfl) rfl (gw0 rfl) rfl rfl rfl (fun a w_ hF hB_ => r_load1 sc96 (hF.ev rfl) (cellB hB_ (hc80 0 _ rfl))) <| tp 1 hl_ rfl ?_
 obtain ⟨g83, o83, m83, q83, hv83, hm83, hl83, hc83⟩ := Rd.idxF (hr80) (at0_get (i := (at0 m.next (p : Int))) (by omega) (by omega))
 refine todo_pure hl_ (by kernel_rfl) rfl (gw0 rfl) rfl rfl rfl (fun a w_ hF => r_index sl96 ((hF.ev rfl).trans hv83) (hF.ev rfl) (by omega) (by first | omega | (simp at hm83; omega))) ?_
 refine todo_load [15, 16, 17, 18, 20, 21] hl_ (by kernel_rfl) rfl (gw0 rfl) rfl rfl rfl (fun a w_ hF hB_ => r_loadn ag42 (hF.ev rfl) (fun j_ u_ hu_ => cellB hB_ (hc83 j_ u_ hu_)) sz42) ?_
 refine todo_mk hl_ rfl (by kernel_rfl) rfl rfl rfl rfl rfl (fun a w_ hF => r_call3 en77 (hF.ev rfl) (hF.ev rfl) (hF.ev rfl)) (fun w_ hS => specStartOp_c (stateK_of (hS.own_rd (i := 0) rfl) (hS.own_rd (i := 1) rfl) (hS.own_rd (i := 2) rfl)) hg.gs.wf (by omega) (by unfold int64; omega)) ?_; rintro vs85
 refine tp 3 hl_ rfl ?_
 refine todo_fin hl_ rfl (by kernel_rfl) (tl := [_, _]) rfl ?_; intro a w6 hF hA_
 obtain ⟨g1, hS, he_0⟩ := hA_.open1; clear hA_
 replace hF := hF.more he_0; clear he_0
 clear hl_; try clear hSd
 try dsimp only [List.cons_append, List.nil_append, List.set] at hS
 try clear wd
 refine ww 0 hF hS rfl rfl rfl rfl rfl rfl fun w7 hS => ga 1 hF rfl fun a hF => wl_nil ⟨rfl, ?_⟩
 refine hK15 _ _ <| ws fun K16 hK16 => gB 4 0 hF hS rfl rfl rfl fun a hF => ?_
 refine wl_storen (cs' := [_, _, _, _, _, _, _, _, _, _, _, _, _, _, _, _, _]) hF hS (i := 8) rfl (hF.ev rfl) (hF.ev rfl) sz75 ⟨rfl, rfl⟩ rfl rfl fun w8 hS => ?_; dsimp only [List.set] at hS
 refine wl_nil <| hK16 _ _ <| ws fun K17 hK17 => wl hF rfl rfl rfl (r_move (hF.ev rfl)) fun a hF => ?_
 have hgs := good_start (p := (p : Int)) hg.gs (hg.wp _ (at0_mem (i := (p : Int)) (by omega) (by omega)) _ (at0_mem (i := at0 m.next (p : Int)) (by omega) (by omega)))
 have hl1 : (startS m.state (p : Int) (at0 (at0 m.programs (p : Int)) (at0 m.next (p : Int)))).1.threads.length = m.state.threads.length := start_len
 have hop := hg.wp _ (at0_mem (i := (p : Int)) (by omega) (by omega)) _ (at0_mem (i := at0 m.next (p : Int)) (by omega) (by omega))
 have hw1 := hgs.wf.2.2.2.1 _ (at0_mem (i := (p : Int)) (by omega) (by omega))
 have hev := all_snoc (P := fun x : Sl.Event => x.wf) hg.we (y := (⟨(p : Int), at0 (at0 m.programs (p : Int)) (at0 m.next (p : Int)), ⟨0, 0⟩, m.time, -1⟩ : Sl.Event)) ⟨by unfold int64; dsimp only; omega, hop, ⟨int64_zero, int64_zero⟩, hg.wt, by unfold int64; dsimp only; omega⟩
 replace hS := hS.pull (p := 1) rfl; dsimp only [List.eraseIdx] at hS
 replace hS : Sep W (Own intEK (sv (vs85.getD 0 (none, 0, 0))) (startS m.state (p : Int) (at0 (at0 m.programs (p : Int)) (at0 m.next (p : Int)))).1.cells :: Own intEK (sv (vs85.getD 1 (none, 0, 0))) (startS m.state (p : Int) (at0 (at0 m.programs (p : Int)) (at0 m.next (p : Int)))).1.generations :: Own threadEK (sv (vs85.getD 2 (none, 0, 0))) (startS m.state (p : Int) (at0 (at0 m.programs (p : Int)) (at0 m.next (p : Int)))).1.threads :: _) _ := hS.part_open
 dsimp only [stateEK] at hS
 generalize vs85.getD 0 (none, 0, 0) = y0 at hS
 generalize vs85.getD 1 (none, 0, 0) = y1 at hS
 generalize vs85.getD 2 (none, 0, 0) = y2 at hS
 refine gB 6 10 hF hS rfl rfl rfl fun a hF => ?_
 obtain ⟨g99, o99, m99, q99, hv99, hm99, hl99, hc99⟩ := Rd.atF ((hS.own_rd (i := 8) rfl)) (a := a) (X := .tmp 96) (hF.ev rfl) (by omega) (by omega)
 refine wl hF rfl rfl rfl (r_index sl29 ((hF.ev rfl).trans hv99) (hF.ev rfl) (by omega) (by first | omega | (simp at hm99; omega))) fun a hF => ?_
 refine wl_istore (q := 8) hF hS rfl hv99 (by omega) (by omega) sz3 (hF.ev rfl) rfl (hF.ev rfl) fun w9 hS => ?_; dsimp only [List.set] at hS
 refine wl_nil <| hK17 _ _ <| wp_seq_k fun K18 hK18 => ?_
 refine wp_region_todo (is := [0, 1, 2, 3, 4, 5, 6, 7, 8, 9, 10, 11, 12, 13, 14, 15, 16, 17, 18, 19, 20, 21, 22, 23, 24, 25]) [] [22, 23, 24, 25] (by kernel_rfl) hF hS ⟨trivial, by decide, by decide, by decide⟩ (by kernel_rfl) ?_; intro hl_ wd hSd
 refine tp 4 hl_ rfl <| todo_load [22, 23, 24, 25] hl_ (by kernel_rfl) rfl (gw0 rfl) rfl rfl rfl (fun a w_ hF hB_ => r_load1 sc26 (hF.ev rfl) ((hSd.ext hB_).box (i := 10) rfl rfl)) <| tp 4 hl_ rfl <| todo_load [11, 12, 14, 15, 20, 21, 22, 23, 24, 25] hl_ (by kernel_rfl) rfl (gw0 rfl) rfl rfl rfl (fun a w_ hF hB_ => r_load1 sc76 (hF.ev rfl) ((hSd.ext hB_).box (i := 10) rfl rfl)) <| tp 1 hl_ rfl ?_
 obtain ⟨g111, o111, m111, q111, cs111, hv111, hm111, hl111, hk111, hz111, hc111⟩ := Rd.idx ((hSd.own_rd (i := 7) rfl)) (at0_get (i := (p : Int)) (by omega) (by omega))
 obtain ⟨v111, rfl, hr111⟩ := hk111; obtain ⟨Ae111, qe111, rfl, _, hme111⟩ := hr111.sl; unfold maxLen at hme111
 refine todo_pure hl_ (by kernel_rfl) rfl (gw0 rfl) rfl rfl rfl (fun a w_ hF => r_index sl76 ((hF.ev rfl).trans hv111) (hF.ev rfl) (by omega) (by first | omega | (simp at hm111; omega))) ?_
 refine todo_load [14, 15, 20, 21, 22, 23, 24, 25] hl_ (by kernel_rfl) rfl (gw0 rfl) rfl rfl rfl (fun a w_ hF hB_ => r_load1 sc96 (hF.ev rfl) (cellB hB_ (hc111 0 _ rfl))) <| tp 1 hl_ rfl ?_
 obtain ⟨g114, o114, m114, q114, hv114, hm114, hl114, hc114⟩ := Rd.idxF (hr111) (at0_get (i := (at0 m.next (p : Int))) (by omega) (by omega))
 refine todo_pure hl_ (by kernel_rfl) rfl (gw0 rfl) rfl rfl rfl (fun a w_ hF => r_index sl96 ((hF.ev rfl).trans hv114) (hF.ev rfl) (by omega) (by first | omega | (simp at hm114; omega))) ?_
 refine todo_load [20, 21, 22, 23, 24, 25] hl_ (by kernel_rfl) rfl (gw0 rfl) rfl rfl rfl (fun a w_ hF hB_ => r_loadn ag42 (hF.ev rfl) (fun j_ u_ hu_ => cellB hB_ (hc114 j_ u_ hu_)) sz42) <| tp 3 hl_ rfl <| todo_load [20, 21, 22, 23, 24, 25] hl_ (by kernel_rfl) rfl (gw0 rfl) rfl rfl rfl (fun a w_ hF hB_ => r_load1 sc3 (hF.ev rfl) ((hSd.ext hB_).box (i := 10) rfl rfl)) <| todo_pure hl_ (by kernel_rfl) rfl (gw0 rfl) rfl rfl rfl (fun a w_ hF => r_build (bd46_0_1_3_4 _ _ _ _ _ _) ⟨rfl, (hF.ev rfl), rfl, (hF.ev rfl), rfl, (hF.ev rfl), rfl, ec, trivial⟩) ?_
 refine todo_op hl_ rfl (by kernel_rfl) rfl rfl rfl rfl rfl (fun a w_ hF hS => r_bslice eventEK [.agg (Sl.Event.enc ⟨(p : Int), at0 (at0 m.programs (p : Int)) (at0 m.next (p : Int)), ⟨0, 0⟩, m.time, -1⟩).toArray] [(⟨(p : Int), at0 (at0 m.programs (p : Int)) (at0 m.next (p : Int)), ⟨0, 0⟩, m.time, -1⟩ : Sl.Event)] rfl mk26 rfl ⟨rfl, (hF.ev rfl), trivial⟩ rfl rfl rfl rfl) ?_; intro gl_121
 refine todo_fin hl_ rfl (by kernel_rfl) (tl := [_, _, _, _]) rfl ?_; intro a w11 hF hA_
 have hS := hA_.sep; clear hA_
 clear hl_; try clear hSd
 try dsimp only [List.cons_append, List.nil_append, List.set] at hS
 try clear wd
 refine wl_append (q := 10) hF hS rfl rfl (hS.own_rd (i := 0) rfl) mk26 rfl (hF.ev rfl) (hF.ev rfl) (by simp; omega) (by unfold maxLen; simp; omega) ?_; intro A_122 c_122 w12 a hS_ hF; replace hS := hS_; clear hS_; dsimp only [List.set, List.length_cons, List.length_nil] at hS hF
 refine ga 2 hF rfl fun a hF => wv 11 hF hS rfl rfl rfl rfl rfl rfl fun w13 hS => wl_nil ⟨rfl, ?_⟩
 refine hK18 _ _ <| wp_seq_k fun K19 hK19 => rg hF rfl fun a hF => cx 126 hF rfl (fun c126 hF => ?_) fun c126 hF => ?_
 ·
  refine wp_region_lit <| ga 2 hF rfl fun a hF => ?_
  replace hS := hS.pm 12 [11, 3, 10, 0, 1, 2, 4, 5, 6, 7, 8, 9] rfl
  refine ck hF rfl (l18End_c (z5 := (A_122, m.events.length + 1, c_122)) (m := ⟨(startS m.state (p : Int) (at0 (at0 m.programs (p : Int)) (at0 m.next (p : Int)))).1, m.programs, m.next, m.events ++ [(⟨(p : Int), at0 (at0 m.programs (p : Int)) (at0 m.next (p : Int)), ⟨0, 0⟩, m.time, -1⟩ : Sl.Event)], m.time⟩) (p := p) (by dsimp only; omega) hw1 hg.wt hev (by simp only [List.length_append, List.length_cons, List.length_nil]; omega) hS) ?_; rintro v w14 a ⟨rfl, es129, ⟨he129, hn129⟩, hS⟩ hF
  refine wl_nil <| hK19 _ _ <| ws fun K21 hK21 => gB 8 0 hF hS rfl rfl rfl fun a hF => wv 0 hF hS rfl rfl rfl rfl rfl rfl fun w15 hS => wl_nil <| hK21 _ _ <| rg hF rfl fun a hF => ?_
  refine xr ?_
  simp only [List.length_append, List.length_cons, List.length_nil] at hn129
  exact ret1 rfl hF rfl ⟨((⟨(startS m.state (p : Int) (at0 (at0 m.programs (p : Int)) (at0 m.next (p : Int)))).1, m.programs, m.next.set (p : Int).toNat (IntKind.i64.wrap (at0 m.next (p : Int) + 1)), es129, IntKind.i64.wrap (m.time + 1)⟩ : Sl.Machine), [y0, y1, y2, z3, z4, (A_122, _, c_122)]), ⟨⟨_, rfl⟩, ⟨hgs, hg.wp, hg.zp, set_all hg.wn (int64_wrap _), by dsimp only; rw [List.length_set]; exact hg.zn, he129, (by first | omega | (simp only [List.length_append, List.length_cons, List.length_nil]; omega)), int64_wrap _⟩⟩, Sep.part_mk (ek := machineEK) (x := (⟨(startS m.state (p : Int) (at0 (at0 m.programs (p : Int)) (at0 m.next (p : Int)))).1, m.programs, m.next.set (p : Int).toNat (IntKind.i64.wrap (at0 m.next (p : Int) + 1)), es129, IntKind.i64.wrap (m.time + 1)⟩ : Sl.Machine)) (vs := [y0, y1, y2, z3, z4, (A_122, _, c_122)]) (hS.pm 12 [4, 5, 1, 10, 11, 2, 0] rfl) rfl⟩
 refine wp_skip <| hK19 _ _ <| ws fun K23 hK23 => gB 8 11 hF hS rfl rfl rfl fun a hF => wv 11 hF hS rfl rfl rfl rfl rfl rfl fun w16 hS => wl_nil <| hK23 _ _ <| rg hF rfl fun a hF => ?_
 refine xr ?_
 exact ret1 rfl hF rfl ⟨((⟨(startS m.state (p : Int) (at0 (at0 m.programs (p : Int)) (at0 m.next (p : Int)))).1, m.programs, m.next.set (p : Int).toNat (IntKind.i64.wrap (at0 m.next (p : Int) + 1)), m.events ++ [(⟨(p : Int), at0 (at0 m.programs (p : Int)) (at0 m.next (p : Int)), ⟨0, 0⟩, m.time, -1⟩ : Sl.Event)], IntKind.i64.wrap (m.time + 1)⟩ : Sl.Machine), [y0, y1, y2, z3, z4, (A_122, _, c_122)]), ⟨⟨_, rfl⟩, ⟨hgs, hg.wp, hg.zp, set_all hg.wn (int64_wrap _), by dsimp only; rw [List.length_set]; exact hg.zn, hev, (by first | omega | (simp only [List.length_append, List.length_cons, List.length_nil]; omega)), int64_wrap _⟩⟩, Sep.part_mk (ek := machineEK) (x := (⟨(startS m.state (p : Int) (at0 (at0 m.programs (p : Int)) (at0 m.next (p : Int)))).1, m.programs, m.next.set (p : Int).toNat (IntKind.i64.wrap (at0 m.next (p : Int) + 1)), m.events ++ [(⟨(p : Int), at0 (at0 m.programs (p : Int)) (at0 m.next (p : Int)), ⟨0, 0⟩, m.time, -1⟩ : Sl.Event)], IntKind.i64.wrap (m.time + 1)⟩ : Sl.Machine)) (vs := [y0, y1, y2, z3, z4, (A_122, _, c_122)]) (hS.pm 12 [1, 2, 3, 8, 9, 10, 11] rfl) rfl⟩
set_option maxRecDepth 20000
theorem part_next {W w : World} {x : Sl.Machine} {vs : List Slv} {l : List Res} (h : Sep W (Part machineEK x vs :: l) w) : (vs.getD 4 (none, 0, 0)).2.1 = x.next.length := by
 have h2 : Sep W (Own intEK (sv (vs.getD 0 (none, 0, 0))) x.state.cells :: Own intEK (sv (vs.getD 1 (none, 0, 0))) x.state.generations :: Own threadEK (sv (vs.getD 2 (none, 0, 0))) x.state.threads :: Own (sliceEK opEK) (sv (vs.getD 3 (none, 0, 0))) x.programs :: Own intEK (sv (vs.getD 4 (none, 0, 0))) x.next :: Own eventEK (sv (vs.getD 5 (none, 0, 0))) x.events :: l) w := h.part_open
 exact h2.own_len (q := 4) rfl
theorem ok_next {x : Sl.Machine} (h : machineOk x = true) : (x.next.length : Int) = x.state.config.threads ∧ x.state.config.ok := by
 unfold machineOk at h; simp only [Bool.and_eq_true, decide_eq_true_eq] at h
 exact ⟨h.1.1.1.1.1.2.2, (stateOk_shape h.1.1.1.1.1.1).1⟩
theorem runPicks_c {W : World} {m : Sl.Machine} {cs : List Value} {va : Value} {ps : List Int} (hm : machineEK.K W m cs) (hg : MGood m) (ha : intEK.Rd W va ps) (hps : ∀ x ∈ ps, int64 x) (hz : ps.length ≤ 200) : Calls Tryz.prog 45 #[.agg cs.toArray, va] W (Ret (Mk W (fun z : {z : Sl.Machine × List Slv // MGood z.1} => .agg (machineEK.cells z.1.1 z.1.2).toArray) (fun z => [Part machineEK z.1.1 z.1.2]))) := by
 refine cfr Tryz.func45 Tryz.ntmps45 fun a hF => ?_
 have hS := Sep.refl W
 obtain ⟨v0, v1, v2, v3, v4, v5, rfl, r0, r1, r2, r3, r4, r5⟩ := hm
 have hm : machineEK.K W m (m.encv v0 v1 v2 v3 v4 v5) := ⟨_, _, _, _, _, _, rfl, r0, r1, r2, r3, r4, r5⟩
 obtain ⟨A_a, q_a, rfl, hq_a, hn_a⟩ := r0.sl; unfold maxLen at hn_a
 obtain ⟨A_b, q_b, rfl, hq_b, hn_b⟩ := r1.sl; unfold maxLen at hn_b
 obtain ⟨A_c, q_c, rfl, hq_c, hn_c⟩ := r2.sl; unfold maxLen at hn_c
 obtain ⟨A_d, q_d, rfl, hq_d, hn_d⟩ := r3.sl; unfold maxLen at hn_d
 obtain ⟨A_e, q_e, rfl, hq_e, hn_e⟩ := r4.sl; unfold maxLen at hn_e
 obtain ⟨A_f, q_f, rfl, hq_f, hn_f⟩ := r5.sl; unfold maxLen at hn_f
 obtain ⟨A_a, q_a, rfl, hq_a, hn_a⟩ := ha.sl; unfold maxLen at hn_a
 have hmz := hg.size
 refine ws fun K1 hK1 => wl_box (cs := [_, _, _, _, _, _, _, _, _, _, _, _, _, _, _, _, _]) hF hS rfl (hF.ev rfl) rfl fun g1 w1 a hS _ hF => wl_alloc hF hS rfl zr78 fun g2 w2 a hS _ hF => wl_nil <| hK1 _ _ <| ws fun K2 hK2 => gB 1 1 hF hS rfl rfl rfl fun a hF => ?_
 refine wl_mk hF hS rfl rfl rfl (r_call1 en63 (hF.ev rfl)) (l18Copy_c (hS.k hm) (by omega)) ?_; rintro vs8 w3 a hS_ hF; replace hS := hS_; clear hS_; dsimp only [List.cons_append, List.nil_append] at hS
 refine wl_alloc hF hS rfl zr78 fun g3 w4 a hS _ hF => ww 0 hF hS rfl rfl rfl rfl rfl rfl fun w5 hS => wl_nil <| hK2 _ _ <| wp_seq_k fun K3 hK3 => rg hF rfl fun a hF => wp_block ?_
 replace hS := hS.pull (p := 1) rfl; dsimp only [List.eraseIdx] at hS
 replace hS := hS.pull (p := 1) rfl; dsimp only [List.eraseIdx] at hS
 have hL_ := (((hF.nil.keep hF (t := 5) rfl).keep hF (t := 4) rfl).keep hF (t := 1) rfl)
 refine wp_loop_m (σ := Nat × Sl.Machine × List Slv) (fun z L_ => (6, vi z.1) :: L_) (fun z l_ => (Box g3 (machineEK.cells z.2.1 z.2.2)) :: (Part machineEK z.2.1 z.2.2) :: l_) (fun z => (MGood z.2.1) ∧ (z.1 ≤ ps.length)) (fun z => ps.length - z.1) (0, m, vs8) (hS) (hL_.keepE hF (t := 6) rfl rfl) ?_ ?_
 · exact ⟨hg, Nat.zero_le _⟩
 rintro ⟨k, x, vs⟩ a w6 ⟨hgx, hk⟩ hS hF; try dsimp only at hF; try dsimp only at hS; try dsimp only at hgx; try dsimp only at hk
 refine wp_seq_k fun K5 hK5 => ws fun K6 hK6 => ga 5 hF rfl fun a hF => ?_
 apply wa 3 13 16 hF hS
 ·
  intro hg13 a hF
  exact je 3 hF hS rfl rfl rfl rfl
 intro a w7 hF hS
 refine ga 1 hF rfl fun a hF => ?_
 apply wa 3 17 20 hF hS
 ·
  intro hg17 a hF
  refine gB 1 0 hF hS rfl rfl rfl fun a hF => ?_
  refine ckr hF hS rfl (specIsMachine_c (hS.part_k (i := 1) rfl) hgx.wf (by have := hgx.size; omega)) fun w8 a hS hF => ?_
  exact je 3 hF hS rfl rfl rfl rfl
 intro a w9 hF hS
 refine ga 1 hF rfl fun a hF => ?_
 apply wa 4 21 25 hF hS
 ·
  intro hg21 a hF
  exact jf 4 0 hF hS rfl rfl rfl rfl rfl rfl
 intro a w10 hF hS
 refine wl_nil <| hK6 _ _ <| cx 25 hF rfl (fun c25 hF => ?_) fun c25 hF => ?_
 ·
  obtain ⟨hnl, hok⟩ := ok_next c25.1.2
  have hb := hok; unfold Config.ok at hb
  have hln := part_next (hS.pull (p := 1) rfl)
  have hlk : k < ps.length := by omega
  refine wp_skip <| hK5 _ _ <| wp_seq_k fun K7 hK7 => wp_block ?_
  refine wp_region_todo (is := [0, 1, 2, 3, 4, 5, 6, 7, 8]) [] [8] (by kernel_rfl) hF hS ⟨trivial, by decide, by decide, by decide⟩ (by kernel_rfl) ?_; intro hl_ wd hSd
  refine tp 2 hl_ rfl ?_
  obtain ⟨g30, o30, m30, q30, hv30, hm30, hl30, hc30⟩ := Rd.idxF (ha) (at0_get (i := (k : Int)) (by omega) (by omega))
  refine todo_pure hl_ (by kernel_rfl) rfl (gw0 rfl) rfl rfl rfl (fun a w_ hF => r_index sl29 ((hF.ev rfl).trans hv30) (hF.ev rfl) (by omega) (by first | omega | (simp at hm30; omega))) ?_
  refine todo_load [7, 8] hl_ (by kernel_rfl) rfl (gw0 rfl) rfl rfl rfl (fun a w_ hF hB_ => r_load1 sc3 (hF.ev rfl) (cellB (hSd.ext hB_).old (hc30 0 _ rfl))) <| tp 1 hl_ rfl <| todo_load [6, 7, 8] hl_ (by kernel_rfl) rfl (gw0 rfl) rfl rfl rfl (fun a w_ hF hB_ => r_load1 sc29 (hF.ev rfl) ((hSd.ext hB_).box (i := 0) rfl rfl)) <| tp 1 hl_ rfl <| todo_rd hl_ rfl (by kernel_rfl) rfl rfl rfl rfl rfl (fun a w_ hF => r_call2 en66 (hF.ev rfl) (hF.ev rfl)) (fun w_ hS => l18Mod_c (by omega)) ?_
  refine todo_fin hl_ rfl (by kernel_rfl) (tl := [_]) rfl ?_; intro a w11 hF hA_
  have hS := hA_.sep; clear hA_
  clear hl_; try clear hSd
  try dsimp only [List.cons_append, List.nil_append, List.set] at hS
  try clear wd
  have hmr := mod_range (k := at0 ps (k : Int)) (n := ((vs.getD 4 (none, 0, 0)).2.1 : Int)) (hps _ (at0_mem (by omega) (by omega))) (by omega) (by omega)
  obtain ⟨p, hpe⟩ : ∃ p : Nat, (IntKind.i64.wrap ((at0 ps (k : Int)).tmod ((vs.getD 4 (none, 0, 0)).2.1 : Int) + ((vs.getD 4 (none, 0, 0)).2.1 : Int))).tmod ((vs.getD 4 (none, 0, 0)).2.1 : Int) = (p : Int) := ⟨_, (Int.toNat_of_nonneg hmr.1).symm⟩
  rw [hpe] at hF hmr
  replace hS := hS.pm 4 [1, 0, 2, 3] rfl
  refine ck hF rfl (l18Pick_c hgx c25.1.2 c25.2 (by omega) hS) ?_; rintro v w12 a ⟨⟨y36, vs36⟩, ⟨⟨b36, rfl⟩, hg36⟩, hS⟩ hF
  refine wl_nil ⟨rfl, ?_⟩
  refine xt ?_
  refine hK7 _ _ <| rl hF rfl fun a hF => ?_
  refine xt ?_
  refine ⟨(k + 1, y36, vs36), ⟨hg36, by dsimp only; omega⟩, (hS.pick [1, 0, 2, 3] (by decide) rfl), ((((hF.nil.keep hF (t := 5) rfl).keep hF (t := 4) rfl).keep hF (t := 1) rfl).keepE hF (t := 6) rfl (wk (by omega))), by dsimp only; omega⟩
 refine wp_exit ?_
 refine xt ?_
 refine hK3 _ _ <| ws fun K8 hK8 => gB 1 0 hF hS rfl rfl rfl fun a hF => ww 2 hF hS rfl rfl rfl rfl rfl rfl fun w13 hS => wl_nil (hK8 _ _ ?_)
 refine xr ?_
 exact ret1c rfl ag78 hF hS (i := 2) rfl sz78 rfl ⟨⟨(x, vs), hgx⟩, rfl, hS.pick [1] (by decide) rfl⟩
theorem en19 : enterB Tryz.prog 19 = true := by kernel_rfl
theorem en43 : enterB Tryz.prog 43 = true := by kernel_rfl
theorem en44 : enterB Tryz.prog 44 = true := by kernel_rfl
theorem en45 : enterB Tryz.prog 45 = true := by kernel_rfl
theorem en46 : enterB Tryz.prog 46 = true := by kernel_rfl
set_option maxRecDepth 20000
theorem ok_opwf {o : Sl.Op} (h : o.ok) : o.wf := by
 unfold Sl.Op.ok at h; refine ⟨?_, ?_, ?_⟩ <;> (unfold int64; omega)
theorem calls_sub {α : Type} {P : Program} {f : FuncId} {args : Array Value} {w W : World} {R : α → Prop} {val : α → Value} {l2 : α → List Res} (h : Calls P f args w (Ret fun v w' => ∃ z : α, (v = val z ∧ R z) ∧ Sep W (l2 z) w')) : Calls P f args w (Ret fun v w' => ∃ γ : {z : α // R z}, v = val γ.1 ∧ Sep W (l2 γ.1) w') := by
 refine h.mono ?_
 rintro e w' ⟨v, rfl, z, ⟨rfl, hR⟩, hS⟩
 exact ⟨_, rfl, ⟨z, hR⟩, rfl, hS⟩
theorem progs_size {c : Config} {ps : List (List Sl.Op)} (hc : c.ok) (hn : (ps.length : Int) = c.threads) (hx : ∀ x ∈ ps, (∀ y ∈ x, y.ok) ∧ (x.length : Int) ≤ 2 + 1) : ps.length + crow List.length ps ≤ 1048576 := by
 have hb := hc; unfold Config.ok at hb
 have hcr : crow List.length ps ≤ ps.length * 3 := crow_mul fun x h => by have := (hx x h).2; omega
 omega
theorem good_mach {c : Config} {ps : List (List Sl.Op)} (hc : c.ok) (hn : (ps.length : Int) = c.threads) (hx : ∀ x ∈ ps, (∀ y ∈ x, y.ok) ∧ (x.length : Int) ≤ 2 + 1) : MGood (newMachine c ps).1 := by
 have hb := hc; unfold Config.ok at hb
 have hp : progsOk c ps = true := by
   unfold progsOk progOk
   rw [decide_eq_true hc, decide_eq_true hn, Bool.true_and, Bool.true_and, List.all_eq_true]
   intro x h
   rw [Bool.and_eq_true, List.all_eq_true]
   exact ⟨fun y hy => decide_eq_true ((hx x h).1 y hy), decide_eq_true (by have := (hx x h).2; omega)⟩
 have e : newMachine c ps = (⟨newState c, ps, List.replicate c.threads.toNat 0, [], 0⟩, true) := if_pos hp
 have hcr : crow List.length ps ≤ ps.length * 3 := crow_mul fun x h => by have := (hx x h).2; omega
 rw [e]
 refine ⟨good_new hc, fun x h y hy => ok_opwf ((hx x h).1 y hy), by dsimp only; omega, ?_, by dsimp only; rw [List.length_replicate]; omega, (fun _ h => by cases h), by simp, int64_zero⟩
 intro x h; rw [(List.mem_replicate.1 h).2]; exact int64_zero
theorem l20Events_h {W : World} {g : Nat} {vb : Value} {bs : List Int} (hbs : byteEK.Rd W vb bs) {l : List Res} {w : World} (hS : Sep W (Cur g vb bs.length :: l) w) : Calls Tryz.prog 20 #[.pointer (some ⟨g, 0, none⟩)] w (Ret fun v w' => ∃ z : (Config × List Sl.Event) × Slv, (v = .tuple #[.agg z.1.1.enc.toArray, sv z.2] ∧ z.1.1.ok ∧ (∀ x ∈ z.1.2, x.wf) ∧ z.1.2.length ≤ 7) ∧ Sep W (Own eventEK (sv z.2) z.1.2 :: Cur g vb bs.length :: l) w') := by
 refine cfr Tryz.func20 Tryz.ntmps20 fun a hF => ?_
 refine ws fun K1 hK1 => wl_alloc hF hS rfl zr25 fun g1 w1 a hS _ hF => ge hK1 hF rfl fun a hF => ws fun K2 hK2 => ga 1 hF rfl fun a hF => ?_
 refine ck hF rfl (l3Config_c hbs (q := 1) hS rfl) ?_; rintro v w2 a ⟨⟨c10, rfl, h10⟩, hS⟩ hF
 refine wl_alloc hF hS rfl zr25 fun g2 w3 a hS _ hF => ?_
 refine wl_storen (cs' := [_, _, _, _, _, _]) hF hS (i := 0) rfl (hF.ev rfl) (hF.ev rfl) sz25 ⟨rfl, rfl⟩ rfl rfl fun w4 hS => ?_; dsimp only [List.set] at hS
 refine wl_nil <| hK2 _ _ <| wp_seq_k fun K3 hK3 => ?_
 refine wp_region_todo (is := [1, 2, 3, 0, 4, 5, 6, 7, 9, 10]) [(8, 5, [.int .i64 0, .int .i64 0, .int .i64 0, .int .i64 0, .int .i64 0, .int .i64 0, .slice none 0 0, .slice none 0 0, .slice none 0 0, .int .i64 0, .int .i64 0, .int .i64 0, .int .i64 0, .slice none 0 0, .slice none 0 0, .slice none 0 0, .int .i64 0])] [3, 9, 10] (by kernel_rfl) hF hS ⟨⟨⟨_, _, _, rfl, zr78⟩, trivial⟩, by decide, by decide, by decide⟩ (by kernel_rfl) ?_; intro hl_ wd hSd
 refine tp 1 hl_ rfl <| todo_load [3, 4, 5, 6, 7, 9, 10] hl_ (by kernel_rfl) rfl (gw0 rfl) rfl rfl rfl (fun a w_ hF hB_ => r_loadn ag25 (hF.ev rfl) ((hSd.ext hB_).box_rd (i := 0) rfl) sz25) <| todo_fork [(3, [0, 4, 5, 6, 7, 9, 10]), (0, [3, 4, 5, 6, 7, 9, 10])] hl_ rfl (by kernel_rfl) (List.forall_mem_cons.2 ⟨?_, List.forall_mem_cons.2 ⟨?_, fun _ h_ => nomatch h_⟩⟩)
 ·
  refine op_mcT (Γ := {z : List (List Sl.Op) × Slv // (z.1.length : Int) = c10.threads ∧ (∀ x ∈ z.1, (∀ y ∈ x, y.ok) ∧ (x.length : Int) ≤ 2 + 1)}) (m' := [9, 10]) rfl rfl (gw0 rfl) rfl rfl rfl rfl (fun a w_ hF => r_call3 en44 (hF.ev rfl) (hF.ev rfl) ec) (fun M_ w_ hS => calls_subM (l18Programs_h (n := 2) hbs (by exact h10) (by omega) (hS.pm 4 [3, 0, 1, 2] rfl))) ?_; intro ⟨⟨ps15, q15⟩, hn15, hx15⟩; try clear hSd; try clear wd; intro wd hSd
  refine todo_load [4, 5, 6, 7, 9, 10] hl_ (by kernel_rfl) rfl (gw0 rfl) rfl rfl rfl (fun a w_ hF hB_ => r_loadn ag25 (hF.ev rfl) ((hSd.ext hB_).box_rd (i := 2) rfl) sz25) ?_
  refine todo_mk hl_ rfl (by kernel_rfl) rfl rfl rfl rfl rfl (fun a w_ hF => r_call2 en43 (hF.ev rfl) (hF.ev rfl)) (fun w_ hS => specNewMachine_c (hS.own_rd (i := 0) rfl) (progs_size h10 hn15 hx15)) ?_; rintro vs16
  refine tp 3 hl_ rfl ?_
  refine todo_fin hl_ rfl (by kernel_rfl) (tl := [_, _]) rfl ?_; intro a w5 hF hA_
  obtain ⟨g3, hS, he_0⟩ := hA_.open1; clear hA_
  replace hF := hF.more he_0; clear he_0
  clear hl_; try clear hSd
  try dsimp only [List.cons_append, List.nil_append, List.set] at hS
  try clear wd
  refine ww 0 hF hS rfl rfl rfl rfl rfl rfl fun w6 hS => ga 1 hF rfl fun a hF => wl_nil ⟨rfl, ?_⟩
  refine hK3 _ _ <| wp_seq_k fun K4 hK4 => ?_
  refine wp_region_todo (is := [1, 2, 0, 3, 4]) [] [2, 3, 4] (by kernel_rfl) hF hS ⟨trivial, by decide, by decide, by decide⟩ (by kernel_rfl) ?_; intro hl_ wd hSd
  refine tp 1 hl_ rfl <| todo_fork [(2, [0, 3, 4]), (0, [2, 3, 4])] hl_ rfl (by kernel_rfl) (List.forall_mem_cons.2 ⟨?_, List.forall_mem_cons.2 ⟨?_, fun _ h_ => nomatch h_⟩⟩)
  ·
   refine op_mc (Γ := {z : List Int × Slv // (∀ x ∈ z.1, int64 x) ∧ z.1.length ≤ 200}) (m' := [3, 4]) rfl (gw0 rfl) rfl rfl rfl (fun a w_ hF => r_call2 en46 (hF.ev rfl) ec) (fun w_ hS => calls_sub (l18Picks_h (k := 20) hbs (by omega) (hS.pm 6 [3, 0, 1, 2, 4, 5] rfl))) ?_; intro ⟨⟨ps21, q21⟩, hx21, hn21⟩; try clear hSd; try clear wd; intro wd hSd
   refine todo_load [3, 4] hl_ (by kernel_rfl) rfl (gw0 rfl) rfl rfl rfl (fun a w_ hF hB_ => r_loadn ag78 (hF.ev rfl) ((hSd.ext hB_).box_rd (i := 2) rfl) sz78) ?_
   refine todo_fin hl_ rfl (by kernel_rfl) (tl := [_, _]) rfl ?_; intro a w7 hF hA_
   have hS := hA_.sep; clear hA_
   clear hl_; try clear hSd
   try dsimp only [List.cons_append, List.nil_append, List.set] at hS
   try clear wd
   refine wl_mk hF hS rfl rfl rfl (r_call2 en45 (hF.ev rfl) (hF.ev rfl)) (runPicks_c (hS.part_k (i := 3) rfl) (good_mach h10 hn15 hx15) (hS.own_rd (i := 0) rfl) hx21 hn21) ?_; rintro ⟨⟨x22, vs22⟩, hg22⟩ w8 a hS_ hF; replace hS := hS_; clear hS_; dsimp only [List.cons_append, List.nil_append] at hS
   refine ww 3 hF hS rfl rfl rfl rfl rfl rfl fun w9 hS => wl_nil ⟨rfl, ?_⟩
   refine hK4 _ _ <| ws fun K5 hK5 => ga 1 hF rfl fun a hF => ?_
   replace hS := hS.pull (p := 0) rfl; dsimp only [List.eraseIdx] at hS
   replace hS : Sep W (Own intEK (sv (vs22.getD 0 (none, 0, 0))) x22.state.cells :: Own intEK (sv (vs22.getD 1 (none, 0, 0))) x22.state.generations :: Own threadEK (sv (vs22.getD 2 (none, 0, 0))) x22.state.threads :: Own (sliceEK opEK) (sv (vs22.getD 3 (none, 0, 0))) x22.programs :: Own intEK (sv (vs22.getD 4 (none, 0, 0))) x22.next :: Own eventEK (sv (vs22.getD 5 (none, 0, 0))) x22.events :: _) _ := hS.part_open
   dsimp only [machineEK] at hS
   generalize vs22.getD 5 (none, 0, 0) = z5 at hS
   refine gf hK5 8 hF hS rfl rfl rfl fun a hF => wp_seq_k fun K6 hK6 => wp_block ?_
   replace hS := hS.pull (p := 5) rfl; dsimp only [List.eraseIdx] at hS
   have hL_ := ((((hF.nil.keep hF (t := 4) rfl).keep hF (t := 3) rfl).keep hF (t := 2) rfl).keep hF (t := 0) rfl)
   refine wp_loop_m (σ := List Sl.Event × Slv) (fun z L_ => (7, sv z.2) :: L_) (fun z l_ => (Own eventEK (sv z.2) z.1) :: l_) (fun z => (∀ x ∈ z.1, x.wf) ∧ (z.1.length ≤ 80)) (fun z => z.1.length) (x22.events, z5) (hS) (hL_.keepE hF (t := 7) rfl rfl) ?_ ?_
   · exact ⟨hg22.we, hg22.ze⟩
   rintro ⟨xs, q⟩ a w10 ⟨hx, hz⟩ hS hF; try dsimp only at hF; try dsimp only at hS; try dsimp only at hx; try dsimp only at hz
   have hlq := hS.own_len (q := 0) rfl
   have hcap_ : xs.length ≤ q.2.2 := by
     obtain ⟨A_, c_, e_, h1_, _⟩ := (hS.own_rd (i := 0) rfl).sl
     have e2_ : q.2.2 = c_ := by injection e_
     rw [e2_]; exact h1_
   refine wp_seq_k fun K7 hK7 => rg hF rfl fun a hF => cx 27 hF rfl (fun c27 hF => ?_) fun c27 hF => ?_
   ·
    refine wp_skip <| hK7 _ _ <| wp_block <| wp_region_lit <| ga 4 hF rfl fun a hF => ?_
    rw [w64_id (by omega) (by omega)] at hF
    refine wl hF rfl rfl rfl (r_cuthi (j := xs.length - 1) sl26 (hF.ev rfl) ((hF.ev rfl).trans (by first | rfl | (congr 1; omega))) (by omega)) fun a hF => ?_
    replace hS := hS.own_cuthi (q := 0) (j := xs.length - 1) rfl (by omega); dsimp only [List.set] at hS
    refine ga 1 hF rfl fun a hF => wl_nil ?_
    refine xt ?_
    refine ⟨(xs.take (xs.length - 1), (q.1, xs.length - 1, q.2.2)), ⟨(fun x h => hx x (List.mem_of_mem_take h)), by dsimp only; rw [List.length_take]; omega⟩, hS, (((((hF.nil.keep hF (t := 4) rfl).keep hF (t := 3) rfl).keep hF (t := 2) rfl).keep hF (t := 0) rfl).keepE hF (t := 7) rfl rfl), by dsimp only; rw [List.length_take]; omega⟩
   refine wp_exit ?_
   refine xt ?_
   refine hK6 _ _ <| wp_seq_k fun K9 hK9 => ws fun K10 hK10 => ga 4 hF rfl fun a hF => ?_
   revert hF; intro hF0; refine bsplit (t := 36) hF0 rfl (fun b36 hF => ?_) (fun b36 hF => ?_)
   ·
    clear hF0
    try simp only [decide_eq_true_eq, decide_eq_false_iff_not, Bool.not_eq_true', Bool.not_eq_false'] at b36
    refine ga 1 hF rfl fun a hF => ?_
    refine ck hF rfl (l1Once_c hbs (q := 7) _ hS rfl) ?_; rintro v w11 a ⟨⟨b38, rfl⟩, hS⟩ hF
    refine ge hK10 hF rfl fun a hF => cx 39 hF rfl (fun c39 hF => ?_) fun c39 hF => ?_
    ·
     refine ws fun K11 hK11 => ga 3 hF rfl fun a hF => ?_
     refine ck hF rfl (l1Below_c hbs (q := 7) _ hS rfl) ?_; rintro v w12 a ⟨⟨x43, rfl, h43⟩, hS⟩ hF
     refine ge hK11 hF rfl fun a hF => ws fun K12 hK12 => ga 1 hF rfl fun a hF => ?_
     refine ck hF rfl (l1Below_c hbs (q := 7) _ hS rfl) ?_; rintro v w13 a ⟨⟨x45, rfl, h45⟩, hS⟩ hF
     refine wl_nil <| hK12 _ _ <| wp_block <| rg hF rfl fun a hF => cx 53 hF rfl (fun c53 hF => ?_) fun c53 hF => ?_
     ·
      refine wp_region_lit <| ga 3 hF rfl fun a hF => ?_
      refine ck hF rfl (l1Below_c hbs (q := 7) _ hS rfl) ?_; rintro v w14 a ⟨⟨x58, rfl, h58⟩, hS⟩ hF
      obtain ⟨g59, o59, m59, q59, hv59, hm59, hl59, hc59⟩ := Rd.atF ((hS.own_rd (i := 0) rfl)) (a := a) (X := .tmp 56) (hF.ev rfl) (by omega) (by omega)
      refine wl hF rfl rfl rfl (r_index sl26 ((hF.ev rfl).trans hv59) (hF.ev rfl) (by omega) (by first | omega | (simp at hm59; omega))) fun a hF => ?_
      refine ga 2 hF rfl fun a hF => ?_
      refine wl_ostore (q := 0) (i := (x43).toNat) (j := 5) ({ at0 xs x43 with result := ⟨(at0 xs x43).result.code, x58⟩ } : Sl.Event) hF hS rfl hv59 (at0_get (by omega) (by omega)) (by decide) (fun _ => rfl) (fun _ => rfl) sz3 (hF.ev rfl) rfl (hF.ev rfl) rfl fun w15 hS => ?_; dsimp only [List.set] at hS
      refine wl_nil ?_
      refine xt ?_
      refine hK9 _ _ <| ws fun K14 hK14 => gB 2 11 hF hS rfl rfl rfl fun a hF => ww 12 hF hS rfl rfl rfl rfl rfl rfl fun w16 hS => ge hK14 hF rfl fun a hF => ?_
      refine xr ?_
      have he_ := hx _ (at0_mem (i := x43) (by omega) (by omega))
      exact ret2c rfl ag25 hF hS (i := 12) rfl sz25 rfl rfl ⟨((c10, xs.set x43.toNat ({ at0 xs x43 with result := ⟨(at0 xs x43).result.code, x58⟩ } : Sl.Event)), q), ⟨rfl, h10, set_all hx (⟨he_.1, he_.2.1, ⟨he_.2.2.1.1, by unfold int64; dsimp only; omega⟩, he_.2.2.2⟩ : Sl.Event.wf ({ at0 xs x43 with result := ⟨(at0 xs x43).result.code, x58⟩ } : Sl.Event)), by dsimp only; rw [List.length_set]; omega⟩, (hS.pm 13 [0, 7] rfl)⟩
     refine rg hF rfl fun a hF => cx 62 hF rfl (fun c62 hF => ?_) fun c62 hF => ?_
     ·
      refine wp_region_lit <| ga 3 hF rfl fun a hF => ?_
      refine ck hF rfl (l1Below_c hbs (q := 7) _ hS rfl) ?_; rintro v w17 a ⟨⟨x67, rfl, h67⟩, hS⟩ hF
      obtain ⟨g68, o68, m68, q68, hv68, hm68, hl68, hc68⟩ := Rd.atF ((hS.own_rd (i := 0) rfl)) (a := a) (X := .tmp 65) (hF.ev rfl) (by omega) (by omega)
      refine wl hF rfl rfl rfl (r_index sl26 ((hF.ev rfl).trans hv68) (hF.ev rfl) (by omega) (by first | omega | (simp at hm68; omega))) fun a hF => ?_
      refine ga 1 hF rfl fun a hF => ?_
      refine wl_ostore (q := 0) (i := (x43).toNat) (j := 6) ({ at0 xs x43 with start := x67 } : Sl.Event) hF hS rfl hv68 (at0_get (by omega) (by omega)) (by decide) (fun _ => rfl) (fun _ => rfl) sz3 (hF.ev rfl) rfl (hF.ev rfl) rfl fun w18 hS => ?_; dsimp only [List.set] at hS
      refine wl_nil ?_
      refine xt ?_
      refine hK9 _ _ <| ws fun K16 hK16 => gB 2 11 hF hS rfl rfl rfl fun a hF => ww 12 hF hS rfl rfl rfl rfl rfl rfl fun w19 hS => ge hK16 hF rfl fun a hF => ?_
      refine xr ?_
      have he_ := hx _ (at0_mem (i := x43) (by omega) (by omega))
      exact ret2c rfl ag25 hF hS (i := 12) rfl sz25 rfl rfl ⟨((c10, xs.set x43.toNat ({ at0 xs x43 with start := x67 } : Sl.Event)), q), ⟨rfl, h10, set_all hx (⟨he_.1, he_.2.1, he_.2.2.1, by unfold int64; dsimp only; omega, he_.2.2.2.2⟩ : Sl.Event.wf ({ at0 xs x43 with start := x67 } : Sl.Event)), by dsimp only; rw [List.length_set]; omega⟩, (hS.pm 13 [0, 7] rfl)⟩
     refine rg hF rfl fun a hF => cx 70 hF rfl (fun c70 hF => ?_) fun c70 hF => ?_
     ·
      refine wp_region_lit <| ga 3 hF rfl fun a hF => ?_
      refine ck hF rfl (l1Below_c hbs (q := 7) _ hS rfl) ?_; rintro v w20 a ⟨⟨x75, rfl, h75⟩, hS⟩ hF
      obtain ⟨g76, o76, m76, q76, hv76, hm76, hl76, hc76⟩ := Rd.atF ((hS.own_rd (i := 0) rfl)) (a := a) (X := .tmp 73) (hF.ev rfl) (by omega) (by omega)
      refine wl hF rfl rfl rfl (r_index sl26 ((hF.ev rfl).trans hv76) (hF.ev rfl) (by omega) (by first | omega | (simp at hm76; omega))) fun a hF => ?_
      refine ga 2 hF rfl fun a hF => ?_
      refine wl_ostore (q := 0) (i := (x43).toNat) (j := 4) ({ at0 xs x43 with result := ⟨x75, (at0 xs x43).result.value⟩ } : Sl.Event) hF hS rfl hv76 (at0_get (by omega) (by omega)) (by decide) (fun _ => rfl) (fun _ => rfl) sz3 (hF.ev rfl) rfl (hF.ev rfl) rfl fun w21 hS => ?_; dsimp only [List.set] at hS
      refine wl_nil ?_
      refine xt ?_
      refine hK9 _ _ <| ws fun K18 hK18 => gB 2 11 hF hS rfl rfl rfl fun a hF => ww 12 hF hS rfl rfl rfl rfl rfl rfl fun w22 hS => ge hK18 hF rfl fun a hF => ?_
      refine xr ?_
      have he_ := hx _ (at0_mem (i := x43) (by omega) (by omega))
      exact ret2c rfl ag25 hF hS (i := 12) rfl sz25 rfl rfl ⟨((c10, xs.set x43.toNat ({ at0 xs x43 with result := ⟨x75, (at0 xs x43).result.value⟩ } : Sl.Event)), q), ⟨rfl, h10, set_all hx (⟨he_.1, he_.2.1, ⟨by unfold int64; dsimp only; omega, he_.2.2.1.2⟩, he_.2.2.2⟩ : Sl.Event.wf ({ at0 xs x43 with result := ⟨x75, (at0 xs x43).result.value⟩ } : Sl.Event)), by dsimp only; rw [List.length_set]; omega⟩, (hS.pm 13 [0, 7] rfl)⟩
     refine wp_region_lit <| ga 3 hF rfl fun a hF => ?_
     refine ck hF rfl (l1Below_c hbs (q := 7) _ hS rfl) ?_; rintro v w23 a ⟨⟨x49, rfl, h49⟩, hS⟩ hF
     refine ga 1 hF rfl fun a hF => ?_
     obtain ⟨g51, o51, m51, q51, hv51, hm51, hl51, hc51⟩ := Rd.atF ((hS.own_rd (i := 0) rfl)) (a := a) (X := .tmp 47) (hF.ev rfl) (by omega) (by omega)
     refine wl hF rfl rfl rfl (r_index sl26 ((hF.ev rfl).trans hv51) (hF.ev rfl) (by omega) (by first | omega | (simp at hm51; omega))) fun a hF => ?_
     refine ga 1 hF rfl fun a hF => ?_
     refine wl_ostore (q := 0) (i := (x43).toNat) (j := 7) ({ at0 xs x43 with fin := IntKind.i64.wrap (x49 - 1) } : Sl.Event) hF hS rfl hv51 (at0_get (by omega) (by omega)) (by decide) (fun _ => rfl) (fun _ => rfl) sz3 (hF.ev rfl) rfl (hF.ev rfl) rfl fun w24 hS => ?_; dsimp only [List.set] at hS
     refine wl_nil ?_
     refine xt ?_
     refine hK9 _ _ <| ws fun K19 hK19 => gB 2 11 hF hS rfl rfl rfl fun a hF => ww 12 hF hS rfl rfl rfl rfl rfl rfl fun w25 hS => ge hK19 hF rfl fun a hF => ?_
     refine xr ?_
     have he_ := hx _ (at0_mem (i := x43) (by omega) (by omega))
     exact ret2c rfl ag25 hF hS (i := 12) rfl sz25 rfl rfl ⟨((c10, xs.set x43.toNat ({ at0 xs x43 with fin := IntKind.i64.wrap (x49 - 1) } : Sl.Event)), q), ⟨rfl, h10, set_all hx (⟨he_.1, he_.2.1, he_.2.2.1, he_.2.2.2.1, int64_wrap _⟩ : Sl.Event.wf ({ at0 xs x43 with fin := IntKind.i64.wrap (x49 - 1) } : Sl.Event)), by dsimp only; rw [List.length_set]; omega⟩, (hS.pm 13 [0, 7] rfl)⟩
    refine wp_skip <| hK9 _ _ <| ws fun K20 hK20 => gB 2 11 hF hS rfl rfl rfl fun a hF => ww 12 hF hS rfl rfl rfl rfl rfl rfl fun w26 hS => ge hK20 hF rfl fun a hF => ?_
    refine xr ?_
    exact ret2c rfl ag25 hF hS (i := 12) rfl sz25 rfl rfl ⟨((c10, xs), q), ⟨rfl, h10, hx, by dsimp only; omega⟩, (hS.pm 13 [0, 7] rfl)⟩
   clear hF0
   try simp only [decide_eq_true_eq, decide_eq_false_iff_not, Bool.not_eq_true', Bool.not_eq_false'] at b36
   refine ge hK10 hF rfl fun a hF => wc_false (hF.ev rfl) <| wp_skip <| hK9 _ _ <| ws fun K21 hK21 => gB 2 11 hF hS rfl rfl rfl fun a hF => ww 12 hF hS rfl rfl rfl rfl rfl rfl fun w27 hS => ?_
   refine ge hK21 hF rfl fun a hF => ?_
   refine xr ?_
   exact ret2c rfl ag25 hF hS (i := 12) rfl sz25 rfl rfl ⟨((c10, xs), q), ⟨rfl, h10, hx, by dsimp only; omega⟩, (hS.pm 13 [0, 7] rfl)⟩
  ·
   refine op_ld rfl rfl (gw0 rfl) rfl rfl rfl (fun a w_ hF hS => r_loadn ag78 (hF.ev rfl) (hS.box_rd (i := 0) rfl) sz78) <| todo_fork [(2, [3, 4])] hl_ rfl (by kernel_rfl) (List.forall_mem_cons.2 ⟨?_, fun _ h_ => nomatch h_⟩)
   ·
    refine op_mc (Γ := {z : List Int × Slv // (∀ x ∈ z.1, int64 x) ∧ z.1.length ≤ 200}) (m' := [3, 4]) rfl (gw0 rfl) rfl rfl rfl (fun a w_ hF => r_call2 en46 (hF.ev rfl) ec) (fun w_ hS => calls_sub (l18Picks_h (k := 20) hbs (by omega) (hS.pm 6 [3, 0, 1, 2, 4, 5] rfl))) ?_; intro ⟨⟨ps21, q21⟩, hx21, hn21⟩; try clear hSd; try clear wd; intro wd hSd
    refine todo_fin hl_ rfl (by kernel_rfl) (tl := [_, _]) rfl ?_; intro a w28 hF hA_
    have hS := hA_.sep; clear hA_
    clear hl_; try clear hSd
    try dsimp only [List.cons_append, List.nil_append, List.set] at hS
    try clear wd
    refine wl_mk hF hS rfl rfl rfl (r_call2 en45 (hF.ev rfl) (hF.ev rfl)) (runPicks_c (hS.part_k (i := 3) rfl) (good_mach h10 hn15 hx15) (hS.own_rd (i := 0) rfl) hx21 hn21) ?_; rintro ⟨⟨x22, vs22⟩, hg22⟩ w29 a hS_ hF; replace hS := hS_; clear hS_; dsimp only [List.cons_append, List.nil_append] at hS
    refine ww 3 hF hS rfl rfl rfl rfl rfl rfl fun w30 hS => wl_nil ⟨rfl, ?_⟩
    refine hK4 _ _ <| ws fun K22 hK22 => ga 1 hF rfl fun a hF => ?_
    replace hS := hS.pull (p := 0) rfl; dsimp only [List.eraseIdx] at hS
    replace hS : Sep W (Own intEK (sv (vs22.getD 0 (none, 0, 0))) x22.state.cells :: Own intEK (sv (vs22.getD 1 (none, 0, 0))) x22.state.generations :: Own threadEK (sv (vs22.getD 2 (none, 0, 0))) x22.state.threads :: Own (sliceEK opEK) (sv (vs22.getD 3 (none, 0, 0))) x22.programs :: Own intEK (sv (vs22.getD 4 (none, 0, 0))) x22.next :: Own eventEK (sv (vs22.getD 5 (none, 0, 0))) x22.events :: _) _ := hS.part_open
    dsimp only [machineEK] at hS
    generalize vs22.getD 5 (none, 0, 0) = z5 at hS
    refine gf hK22 8 hF hS rfl rfl rfl fun a hF => wp_seq_k fun K23 hK23 => wp_block ?_
    replace hS := hS.pull (p := 5) rfl; dsimp only [List.eraseIdx] at hS
    have hL_ := ((((hF.nil.keep hF (t := 4) rfl).keep hF (t := 3) rfl).keep hF (t := 2) rfl).keep hF (t := 0) rfl)
    refine wp_loop_m (σ := List Sl.Event × Slv) (fun z L_ => (7, sv z.2) :: L_) (fun z l_ => (Own eventEK (sv z.2) z.1) :: l_) (fun z => (∀ x ∈ z.1, x.wf) ∧ (z.1.length ≤ 80)) (fun z => z.1.length) (x22.events, z5) (hS) (hL_.keepE hF (t := 7) rfl rfl) ?_ ?_
    · exact ⟨hg22.we, hg22.ze⟩
    rintro ⟨xs, q⟩ a w31 ⟨hx, hz⟩ hS hF; try dsimp only at hF; try dsimp only at hS; try dsimp only at hx; try dsimp only at hz
    have hlq := hS.own_len (q := 0) rfl
    have hcap_ : xs.length ≤ q.2.2 := by
      obtain ⟨A_, c_, e_, h1_, _⟩ := (hS.own_rd (i := 0) rfl).sl
      have e2_ : q.2.2 = c_ := by injection e_
      rw [e2_]; exact h1_
    refine wp_seq_k fun K24 hK24 => rg hF rfl fun a hF => cx 27 hF rfl (fun c27 hF => ?_) fun c27 hF => ?_
    ·
     refine wp_skip <| hK24 _ _ <| wp_block <| wp_region_lit <| ga 4 hF rfl fun a hF => ?_
     rw [w64_id (by omega) (by omega)] at hF
     refine wl hF rfl rfl rfl (r_cuthi (j := xs.length - 1) sl26 (hF.ev rfl) ((hF.ev rfl).trans (by first | rfl | (congr 1; omega))) (by omega)) fun a hF => ?_
     replace hS := hS.own_cuthi (q := 0) (j := xs.length - 1) rfl (by omega); dsimp only [List.set] at hS
     refine ga 1 hF rfl fun a hF => wl_nil ?_
     refine xt ?_
     refine ⟨(xs.take (xs.length - 1), (q.1, xs.length - 1, q.2.2)), ⟨(fun x h => hx x (List.mem_of_mem_take h)), by dsimp only; rw [List.length_take]; omega⟩, hS, (((((hF.nil.keep hF (t := 4) rfl).keep hF (t := 3) rfl).keep hF (t := 2) rfl).keep hF (t := 0) rfl).keepE hF (t := 7) rfl rfl), by dsimp only; rw [List.length_take]; omega⟩
    refine wp_exit ?_
    refine xt ?_
    refine hK23 _ _ <| wp_seq_k fun K26 hK26 => ws fun K27 hK27 => ga 4 hF rfl fun a hF => ?_
    revert hF; intro hF0; refine bsplit (t := 36) hF0 rfl (fun b36 hF => ?_) (fun b36 hF => ?_)
    ·
     clear hF0
     try simp only [decide_eq_true_eq, decide_eq_false_iff_not, Bool.not_eq_true', Bool.not_eq_false'] at b36
     refine ga 1 hF rfl fun a hF => ?_
     refine ck hF rfl (l1Once_c hbs (q := 7) _ hS rfl) ?_; rintro v w32 a ⟨⟨b38, rfl⟩, hS⟩ hF
     refine ge hK27 hF rfl fun a hF => cx 39 hF rfl (fun c39 hF => ?_) fun c39 hF => ?_
     ·
      refine ws fun K28 hK28 => ga 3 hF rfl fun a hF => ?_
      refine ck hF rfl (l1Below_c hbs (q := 7) _ hS rfl) ?_; rintro v w33 a ⟨⟨x43, rfl, h43⟩, hS⟩ hF
      refine ge hK28 hF rfl fun a hF => ws fun K29 hK29 => ga 1 hF rfl fun a hF => ?_
      refine ck hF rfl (l1Below_c hbs (q := 7) _ hS rfl) ?_; rintro v w34 a ⟨⟨x45, rfl, h45⟩, hS⟩ hF
      refine wl_nil <| hK29 _ _ <| wp_block <| rg hF rfl fun a hF => cx 53 hF rfl (fun c53 hF => ?_) fun c53 hF => ?_
      ·
       refine wp_region_lit <| ga 3 hF rfl fun a hF => ?_
       refine ck hF rfl (l1Below_c hbs (q := 7) _ hS rfl) ?_; rintro v w35 a ⟨⟨x58, rfl, h58⟩, hS⟩ hF
       obtain ⟨g59, o59, m59, q59, hv59, hm59, hl59, hc59⟩ := Rd.atF ((hS.own_rd (i := 0) rfl)) (a := a) (X := .tmp 56) (hF.ev rfl) (by omega) (by omega)
       refine wl hF rfl rfl rfl (r_index sl26 ((hF.ev rfl).trans hv59) (hF.ev rfl) (by omega) (by first | omega | (simp at hm59; omega))) fun a hF => ?_
       refine ga 2 hF rfl fun a hF => ?_
       refine wl_ostore (q := 0) (i := (x43).toNat) (j := 5) ({ at0 xs x43 with result := ⟨(at0 xs x43).result.code, x58⟩ } : Sl.Event) hF hS rfl hv59 (at0_get (by omega) (by omega)) (by decide) (fun _ => rfl) (fun _ => rfl) sz3 (hF.ev rfl) rfl (hF.ev rfl) rfl fun w36 hS => ?_; dsimp only [List.set] at hS
       refine wl_nil ?_
       refine xt ?_
       refine hK26 _ _ <| ws fun K31 hK31 => gB 2 11 hF hS rfl rfl rfl fun a hF => ww 12 hF hS rfl rfl rfl rfl rfl rfl fun w37 hS => ge hK31 hF rfl fun a hF => ?_
       refine xr ?_
       have he_ := hx _ (at0_mem (i := x43) (by omega) (by omega))
       exact ret2c rfl ag25 hF hS (i := 12) rfl sz25 rfl rfl ⟨((c10, xs.set x43.toNat ({ at0 xs x43 with result := ⟨(at0 xs x43).result.code, x58⟩ } : Sl.Event)), q), ⟨rfl, h10, set_all hx (⟨he_.1, he_.2.1, ⟨he_.2.2.1.1, by unfold int64; dsimp only; omega⟩, he_.2.2.2⟩ : Sl.Event.wf ({ at0 xs x43 with result := ⟨(at0 xs x43).result.code, x58⟩ } : Sl.Event)), by dsimp only; rw [List.length_set]; omega⟩, (hS.pm 13 [0, 7] rfl)⟩
      refine rg hF rfl fun a hF => cx 62 hF rfl (fun c62 hF => ?_) fun c62 hF => ?_
      ·
       refine wp_region_lit <| ga 3 hF rfl fun a hF => ?_
       refine ck hF rfl (l1Below_c hbs (q := 7) _ hS rfl) ?_; rintro v w38 a ⟨⟨x67, rfl, h67⟩, hS⟩ hF
       obtain ⟨g68, o68, m68, q68, hv68, hm68, hl68, hc68⟩ := Rd.atF ((hS.own_rd (i := 0) rfl)) (a := a) (X := .tmp 65) (hF.ev rfl) (by omega) (by omega)
       refine wl hF rfl rfl rfl (r_index sl26 ((hF.ev rfl).trans hv68) (hF.ev rfl) (by omega) (by first | omega | (simp at hm68; omega))) fun a hF => ?_
       refine ga 1 hF rfl fun a hF => ?_
       refine wl_ostore (q := 0) (i := (x43).toNat) (j := 6) ({ at0 xs x43 with start := x67 } : Sl.Event) hF hS rfl hv68 (at0_get (by omega) (by omega)) (by decide) (fun _ => rfl) (fun _ => rfl) sz3 (hF.ev rfl) rfl (hF.ev rfl) rfl fun w39 hS => ?_; dsimp only [List.set] at hS
       refine wl_nil ?_
       refine xt ?_
       refine hK26 _ _ <| ws fun K33 hK33 => gB 2 11 hF hS rfl rfl rfl fun a hF => ww 12 hF hS rfl rfl rfl rfl rfl rfl fun w40 hS => ge hK33 hF rfl fun a hF => ?_
       refine xr ?_
       have he_ := hx _ (at0_mem (i := x43) (by omega) (by omega))
       exact ret2c rfl ag25 hF hS (i := 12) rfl sz25 rfl rfl ⟨((c10, xs.set x43.toNat ({ at0 xs x43 with start := x67 } : Sl.Event)), q), ⟨rfl, h10, set_all hx (⟨he_.1, he_.2.1, he_.2.2.1, by unfold int64; dsimp only; omega, he_.2.2.2.2⟩ : Sl.Event.wf ({ at0 xs x43 with start := x67 } : Sl.Event)), by dsimp only; rw [List.length_set]; omega⟩, (hS.pm 13 [0, 7] rfl)⟩
      refine rg hF rfl fun a hF => cx 70 hF rfl (fun c70 hF => ?_) fun c70 hF => ?_
      ·
       refine wp_region_lit <| ga 3 hF rfl fun a hF => ?_
       refine ck hF rfl (l1Below_c hbs (q := 7) _ hS rfl) ?_; rintro v w41 a ⟨⟨x75, rfl, h75⟩, hS⟩ hF
       obtain ⟨g76, o76, m76, q76, hv76, hm76, hl76, hc76⟩ := Rd.atF ((hS.own_rd (i := 0) rfl)) (a := a) (X := .tmp 73) (hF.ev rfl) (by omega) (by omega)
       refine wl hF rfl rfl rfl (r_index sl26 ((hF.ev rfl).trans hv76) (hF.ev rfl) (by omega) (by first | omega | (simp at hm76; omega))) fun a hF => ?_
       refine ga 2 hF rfl fun a hF => ?_
       refine wl_ostore (q := 0) (i := (x43).toNat) (j := 4) ({ at0 xs x43 with result := ⟨x75, (at0 xs x43).result.value⟩ } : Sl.Event) hF hS rfl hv76 (at0_get (by omega) (by omega)) (by decide) (fun _ => rfl) (fun _ => rfl) sz3 (hF.ev rfl) rfl (hF.ev rfl) rfl fun w42 hS => ?_; dsimp only [List.set] at hS
       refine wl_nil ?_
       refine xt ?_
       refine hK26 _ _ <| ws fun K35 hK35 => gB 2 11 hF hS rfl rfl rfl fun a hF => ww 12 hF hS rfl rfl rfl rfl rfl rfl fun w43 hS => ge hK35 hF rfl fun a hF => ?_
       refine xr ?_
       have he_ := hx _ (at0_mem (i := x43) (by omega) (by omega))
       exact ret2c rfl ag25 hF hS (i := 12) rfl sz25 rfl rfl ⟨((c10, xs.set x43.toNat ({ at0 xs x43 with result := ⟨x75, (at0 xs x43).result.value⟩ } : Sl.Event)), q), ⟨rfl, h10, set_all hx (⟨he_.1, he_.2.1, ⟨by unfold int64; dsimp only; omega, he_.2.2.1.2⟩, he_.2.2.2⟩ : Sl.Event.wf ({ at0 xs x43 with result := ⟨x75, (at0 xs x43).result.value⟩ } : Sl.Event)), by dsimp only; rw [List.length_set]; omega⟩, (hS.pm 13 [0, 7] rfl)⟩
      refine wp_region_lit <| ga 3 hF rfl fun a hF => ?_
      refine ck hF rfl (l1Below_c hbs (q := 7) _ hS rfl) ?_; rintro v w44 a ⟨⟨x49, rfl, h49⟩, hS⟩ hF
      refine ga 1 hF rfl fun a hF => ?_
      obtain ⟨g51, o51, m51, q51, hv51, hm51, hl51, hc51⟩ := Rd.atF ((hS.own_rd (i := 0) rfl)) (a := a) (X := .tmp 47) (hF.ev rfl) (by omega) (by omega)
      refine wl hF rfl rfl rfl (r_index sl26 ((hF.ev rfl).trans hv51) (hF.ev rfl) (by omega) (by first | omega | (simp at hm51; omega))) fun a hF => ?_
      refine ga 1 hF rfl fun a hF => ?_
      refine wl_ostore (q := 0) (i := (x43).toNat) (j := 7) ({ at0 xs x43 with fin := IntKind.i64.wrap (x49 - 1) } : Sl.Event) hF hS rfl hv51 (at0_get (by omega) (by omega)) (by decide) (fun _ => rfl) (fun _ => rfl) sz3 (hF.ev rfl) rfl (hF.ev rfl) rfl fun w45 hS => ?_; dsimp only [List.set] at hS
      refine wl_nil ?_
      refine xt ?_
      refine hK26 _ _ <| ws fun K36 hK36 => gB 2 11 hF hS rfl rfl rfl fun a hF => ww 12 hF hS rfl rfl rfl rfl rfl rfl fun w46 hS => ge hK36 hF rfl fun a hF => ?_
      refine xr ?_
      have he_ := hx _ (at0_mem (i := x43) (by omega) (by omega))
      exact ret2c rfl ag25 hF hS (i := 12) rfl sz25 rfl rfl ⟨((c10, xs.set x43.toNat ({ at0 xs x43 with fin := IntKind.i64.wrap (x49 - 1) } : Sl.Event)), q), ⟨rfl, h10, set_all hx (⟨he_.1, he_.2.1, he_.2.2.1, he_.2.2.2.1, int64_wrap _⟩ : Sl.Event.wf ({ at0 xs x43 with fin := IntKind.i64.wrap (x49 - 1) } : Sl.Event)), by dsimp only; rw [List.length_set]; omega⟩, (hS.pm 13 [0, 7] rfl)⟩
     refine wp_skip <| hK26 _ _ <| ws fun K37 hK37 => gB 2 11 hF hS rfl rfl rfl fun a hF => ww 12 hF hS rfl rfl rfl rfl rfl rfl fun w47 hS => ge hK37 hF rfl fun a hF => ?_
     refine xr ?_
     exact ret2c rfl ag25 hF hS (i := 12) rfl sz25 rfl rfl ⟨((c10, xs), q), ⟨rfl, h10, hx, by dsimp only; omega⟩, (hS.pm 13 [0, 7] rfl)⟩
    clear hF0
    try simp only [decide_eq_true_eq, decide_eq_false_iff_not, Bool.not_eq_true', Bool.not_eq_false'] at b36
    refine ge hK27 hF rfl fun a hF => wc_false (hF.ev rfl) <| wp_skip <| hK26 _ _ <| ws fun K38 hK38 => gB 2 11 hF hS rfl rfl rfl fun a hF => ww 12 hF hS rfl rfl rfl rfl rfl rfl fun w48 hS => ?_
    refine ge hK38 hF rfl fun a hF => ?_
    refine xr ?_
    exact ret2c rfl ag25 hF hS (i := 12) rfl sz25 rfl rfl ⟨((c10, xs), q), ⟨rfl, h10, hx, by dsimp only; omega⟩, (hS.pm 13 [0, 7] rfl)⟩
 ·
  refine op_ld rfl rfl (gw0 rfl) rfl rfl rfl (fun a w_ hF hS => r_loadn ag25 (hF.ev rfl) (hS.box_rd (i := 0) rfl) sz25) <| todo_fork [(3, [4, 5, 6, 7, 9, 10])] hl_ rfl (by kernel_rfl) (List.forall_mem_cons.2 ⟨?_, fun _ h_ => nomatch h_⟩)
  ·
   refine op_mcT (Γ := {z : List (List Sl.Op) × Slv // (z.1.length : Int) = c10.threads ∧ (∀ x ∈ z.1, (∀ y ∈ x, y.ok) ∧ (x.length : Int) ≤ 2 + 1)}) (m' := [9, 10]) rfl rfl (gw0 rfl) rfl rfl rfl rfl (fun a w_ hF => r_call3 en44 (hF.ev rfl) (hF.ev rfl) ec) (fun M_ w_ hS => calls_subM (l18Programs_h (n := 2) hbs (by exact h10) (by omega) (hS.pm 4 [3, 0, 1, 2] rfl))) ?_; intro ⟨⟨ps15, q15⟩, hn15, hx15⟩; try clear hSd; try clear wd; intro wd hSd
   refine todo_mk hl_ rfl (by kernel_rfl) rfl rfl rfl rfl rfl (fun a w_ hF => r_call2 en43 (hF.ev rfl) (hF.ev rfl)) (fun w_ hS => specNewMachine_c (hS.own_rd (i := 0) rfl) (progs_size h10 hn15 hx15)) ?_; rintro vs16
   refine tp 3 hl_ rfl ?_
   refine todo_fin hl_ rfl (by kernel_rfl) (tl := [_, _]) rfl ?_; intro a w49 hF hA_
   obtain ⟨g3, hS, he_0⟩ := hA_.open1; clear hA_
   replace hF := hF.more he_0; clear he_0
   clear hl_; try clear hSd
   try dsimp only [List.cons_append, List.nil_append, List.set] at hS
   try clear wd
   refine ww 0 hF hS rfl rfl rfl rfl rfl rfl fun w50 hS => ga 1 hF rfl fun a hF => wl_nil ⟨rfl, ?_⟩
   refine hK3 _ _ <| wp_seq_k fun K39 hK39 => ?_
   refine wp_region_todo (is := [1, 2, 0, 3, 4]) [] [2, 3, 4] (by kernel_rfl) hF hS ⟨trivial, by decide, by decide, by decide⟩ (by kernel_rfl) ?_; intro hl_ wd hSd
   refine tp 1 hl_ rfl <| todo_fork [(2, [0, 3, 4]), (0, [2, 3, 4])] hl_ rfl (by kernel_rfl) (List.forall_mem_cons.2 ⟨?_, List.forall_mem_cons.2 ⟨?_, fun _ h_ => nomatch h_⟩⟩)
   ·
    refine op_mc (Γ := {z : List Int × Slv // (∀ x ∈ z.1, int64 x) ∧ z.1.length ≤ 200}) (m' := [3, 4]) rfl (gw0 rfl) rfl rfl rfl (fun a w_ hF => r_call2 en46 (hF.ev rfl) ec) (fun w_ hS => calls_sub (l18Picks_h (k := 20) hbs (by omega) (hS.pm 6 [3, 0, 1, 2, 4, 5] rfl))) ?_; intro ⟨⟨ps21, q21⟩, hx21, hn21⟩; try clear hSd; try clear wd; intro wd hSd
    refine todo_load [3, 4] hl_ (by kernel_rfl) rfl (gw0 rfl) rfl rfl rfl (fun a w_ hF hB_ => r_loadn ag78 (hF.ev rfl) ((hSd.ext hB_).box_rd (i := 2) rfl) sz78) ?_
    refine todo_fin hl_ rfl (by kernel_rfl) (tl := [_, _]) rfl ?_; intro a w51 hF hA_
    have hS := hA_.sep; clear hA_
    clear hl_; try clear hSd
    try dsimp only [List.cons_append, List.nil_append, List.set] at hS
    try clear wd
    refine wl_mk hF hS rfl rfl rfl (r_call2 en45 (hF.ev rfl) (hF.ev rfl)) (runPicks_c (hS.part_k (i := 3) rfl) (good_mach h10 hn15 hx15) (hS.own_rd (i := 0) rfl) hx21 hn21) ?_; rintro ⟨⟨x22, vs22⟩, hg22⟩ w52 a hS_ hF; replace hS := hS_; clear hS_; dsimp only [List.cons_append, List.nil_append] at hS
    refine ww 3 hF hS rfl rfl rfl rfl rfl rfl fun w53 hS => wl_nil ⟨rfl, ?_⟩
    refine hK39 _ _ <| ws fun K40 hK40 => ga 1 hF rfl fun a hF => ?_
    replace hS := hS.pull (p := 0) rfl; dsimp only [List.eraseIdx] at hS
    replace hS : Sep W (Own intEK (sv (vs22.getD 0 (none, 0, 0))) x22.state.cells :: Own intEK (sv (vs22.getD 1 (none, 0, 0))) x22.state.generations :: Own threadEK (sv (vs22.getD 2 (none, 0, 0))) x22.state.threads :: Own (sliceEK opEK) (sv (vs22.getD 3 (none, 0, 0))) x22.programs :: Own intEK (sv (vs22.getD 4 (none, 0, 0))) x22.next :: Own eventEK (sv (vs22.getD 5 (none, 0, 0))) x22.events :: _) _ := hS.part_open
    dsimp only [machineEK] at hS
    generalize vs22.getD 5 (none, 0, 0) = z5 at hS
    refine gf hK40 8 hF hS rfl rfl rfl fun a hF => wp_seq_k fun K41 hK41 => wp_block ?_
    replace hS := hS.pull (p := 5) rfl; dsimp only [List.eraseIdx] at hS
    have hL_ := ((((hF.nil.keep hF (t := 4) rfl).keep hF (t := 3) rfl).keep hF (t := 2) rfl).keep hF (t := 0) rfl)
    refine wp_loop_m (σ := List Sl.Event × Slv) (fun z L_ => (7, sv z.2) :: L_) (fun z l_ => (Own eventEK (sv z.2) z.1) :: l_) (fun z => (∀ x ∈ z.1, x.wf) ∧ (z.1.length ≤ 80)) (fun z => z.1.length) (x22.events, z5) (hS) (hL_.keepE hF (t := 7) rfl rfl) ?_ ?_
    · exact ⟨hg22.we, hg22.ze⟩
    rintro ⟨xs, q⟩ a w54 ⟨hx, hz⟩ hS hF; try dsimp only at hF; try dsimp only at hS; try dsimp only at hx; try dsimp only at hz
    have hlq := hS.own_len (q := 0) rfl
    have hcap_ : xs.length ≤ q.2.2 := by
      obtain ⟨A_, c_, e_, h1_, _⟩ := (hS.own_rd (i := 0) rfl).sl
      have e2_ : q.2.2 = c_ := by injection e_
      rw [e2_]; exact h1_
    refine wp_seq_k fun K42 hK42 => rg hF rfl fun a hF => cx 27 hF rfl (fun c27 hF => ?_) fun c27 hF => ?_
    ·
     refine wp_skip <| hK42 _ _ <| wp_block <| wp_region_lit <| ga 4 hF rfl fun a hF => ?_
     rw [w64_id (by omega) (by omega)] at hF
     refine wl hF rfl rfl rfl (r_cuthi (j := xs.length - 1) sl26 (hF.ev rfl) ((hF.ev rfl).trans (by first | rfl | (congr 1; omega))) (by omega)) fun a hF => ?_
     replace hS := hS.own_cuthi (q := 0) (j := xs.length - 1) rfl (by omega); dsimp only [List.set] at hS
     refine ga 1 hF rfl fun a hF => wl_nil ?_
     refine xt ?_
     refine ⟨(xs.take (xs.length - 1), (q.1, xs.length - 1, q.2.2)), ⟨(fun x h => hx x (List.mem_of_mem_take h)), by dsimp only; rw [List.length_take]; omega⟩, hS, (((((hF.nil.keep hF (t := 4) rfl).keep hF (t := 3) rfl).keep hF (t := 2) rfl).keep hF (t := 0) rfl).keepE hF (t := 7) rfl rfl), by dsimp only; rw [List.length_take]; omega⟩
    refine wp_exit ?_
    refine xt ?_
    refine hK41 _ _ <| wp_seq_k fun K44 hK44 => ws fun K45 hK45 => ga 4 hF rfl fun a hF => ?_
    revert hF; intro hF0; refine bsplit (t := 36) hF0 rfl (fun b36 hF => ?_) (fun b36 hF => ?_)
    ·
     clear hF0
     try simp only [decide_eq_true_eq, decide_eq_false_iff_not, Bool.not_eq_true', Bool.not_eq_false'] at b36
     refine ga 1 hF rfl fun a hF => ?_
     refine ck hF rfl (l1Once_c hbs (q := 7) _ hS rfl) ?_; rintro v w55 a ⟨⟨b38, rfl⟩, hS⟩ hF
     refine ge hK45 hF rfl fun a hF => cx 39 hF rfl (fun c39 hF => ?_) fun c39 hF => ?_
     ·
      refine ws fun K46 hK46 => ga 3 hF rfl fun a hF => ?_
      refine ck hF rfl (l1Below_c hbs (q := 7) _ hS rfl) ?_; rintro v w56 a ⟨⟨x43, rfl, h43⟩, hS⟩ hF
      refine ge hK46 hF rfl fun a hF => ws fun K47 hK47 => ga 1 hF rfl fun a hF => ?_
      refine ck hF rfl (l1Below_c hbs (q := 7) _ hS rfl) ?_; rintro v w57 a ⟨⟨x45, rfl, h45⟩, hS⟩ hF
      refine wl_nil <| hK47 _ _ <| wp_block <| rg hF rfl fun a hF => cx 53 hF rfl (fun c53 hF => ?_) fun c53 hF => ?_
      ·
       refine wp_region_lit <| ga 3 hF rfl fun a hF => ?_
       refine ck hF rfl (l1Below_c hbs (q := 7) _ hS rfl) ?_; rintro v w58 a ⟨⟨x58, rfl, h58⟩, hS⟩ hF
       obtain ⟨g59, o59, m59, q59, hv59, hm59, hl59, hc59⟩ := Rd.atF ((hS.own_rd (i := 0) rfl)) (a := a) (X := .tmp 56) (hF.ev rfl) (by omega) (by omega)
       refine wl hF rfl rfl rfl (r_index sl26 ((hF.ev rfl).trans hv59) (hF.ev rfl) (by omega) (by first | omega | (simp at hm59; omega))) fun a hF => ?_
       refine ga 2 hF rfl fun a hF => ?_
       refine wl_ostore (q := 0) (i := (x43).toNat) (j := 5) ({ at0 xs x43 with result := ⟨(at0 xs x43).result.code, x58⟩ } : Sl.Event) hF hS rfl hv59 (at0_get (by omega) (by omega)) (by decide) (fun _ => rfl) (fun _ => rfl) sz3 (hF.ev rfl) rfl (hF.ev rfl) rfl fun w59 hS => ?_; dsimp only [List.set] at hS
       refine wl_nil ?_
       refine xt ?_
       refine hK44 _ _ <| ws fun K49 hK49 => gB 2 11 hF hS rfl rfl rfl fun a hF => ww 12 hF hS rfl rfl rfl rfl rfl rfl fun w60 hS => ge hK49 hF rfl fun a hF => ?_
       refine xr ?_
       have he_ := hx _ (at0_mem (i := x43) (by omega) (by omega))
       exact ret2c rfl ag25 hF hS (i := 12) rfl sz25 rfl rfl ⟨((c10, xs.set x43.toNat ({ at0 xs x43 with result := ⟨(at0 xs x43).result.code, x58⟩ } : Sl.Event)), q), ⟨rfl, h10, set_all hx (⟨he_.1, he_.2.1, ⟨he_.2.2.1.1, by unfold int64; dsimp only; omega⟩, he_.2.2.2⟩ : Sl.Event.wf ({ at0 xs x43 with result := ⟨(at0 xs x43).result.code, x58⟩ } : Sl.Event)), by dsimp only; rw [List.length_set]; omega⟩, (hS.pm 13 [0, 7] rfl)⟩
      refine rg hF rfl fun a hF => cx 62 hF rfl (fun c62 hF => ?_) fun c62 hF => ?_
      ·
       refine wp_region_lit <| ga 3 hF rfl fun a hF => ?_
       refine ck hF rfl (l1Below_c hbs (q := 7) _ hS rfl) ?_; rintro v w61 a ⟨⟨x67, rfl, h67⟩, hS⟩ hF
       obtain ⟨g68, o68, m68, q68, hv68, hm68, hl68, hc68⟩ := Rd.atF ((hS.own_rd (i := 0) rfl)) (a := a) (X := .tmp 65) (hF.ev rfl) (by omega) (by omega)
       refine wl hF rfl rfl rfl (r_index sl26 ((hF.ev rfl).trans hv68) (hF.ev rfl) (by omega) (by first | omega | (simp at hm68; omega))) fun a hF => ?_
       refine ga 1 hF rfl fun a hF => ?_
       refine wl_ostore (q := 0) (i := (x43).toNat) (j := 6) ({ at0 xs x43 with start := x67 } : Sl.Event) hF hS rfl hv68 (at0_get (by omega) (by omega)) (by decide) (fun _ => rfl) (fun _ => rfl) sz3 (hF.ev rfl) rfl (hF.ev rfl) rfl fun w62 hS => ?_; dsimp only [List.set] at hS
       refine wl_nil ?_
       refine xt ?_
       refine hK44 _ _ <| ws fun K51 hK51 => gB 2 11 hF hS rfl rfl rfl fun a hF => ww 12 hF hS rfl rfl rfl rfl rfl rfl fun w63 hS => ge hK51 hF rfl fun a hF => ?_
       refine xr ?_
       have he_ := hx _ (at0_mem (i := x43) (by omega) (by omega))
       exact ret2c rfl ag25 hF hS (i := 12) rfl sz25 rfl rfl ⟨((c10, xs.set x43.toNat ({ at0 xs x43 with start := x67 } : Sl.Event)), q), ⟨rfl, h10, set_all hx (⟨he_.1, he_.2.1, he_.2.2.1, by unfold int64; dsimp only; omega, he_.2.2.2.2⟩ : Sl.Event.wf ({ at0 xs x43 with start := x67 } : Sl.Event)), by dsimp only; rw [List.length_set]; omega⟩, (hS.pm 13 [0, 7] rfl)⟩
      refine rg hF rfl fun a hF => cx 70 hF rfl (fun c70 hF => ?_) fun c70 hF => ?_
      ·
       refine wp_region_lit <| ga 3 hF rfl fun a hF => ?_
       refine ck hF rfl (l1Below_c hbs (q := 7) _ hS rfl) ?_; rintro v w64 a ⟨⟨x75, rfl, h75⟩, hS⟩ hF
       obtain ⟨g76, o76, m76, q76, hv76, hm76, hl76, hc76⟩ := Rd.atF ((hS.own_rd (i := 0) rfl)) (a := a) (X := .tmp 73) (hF.ev rfl) (by omega) (by omega)
       refine wl hF rfl rfl rfl (r_index sl26 ((hF.ev rfl).trans hv76) (hF.ev rfl) (by omega) (by first | omega | (simp at hm76; omega))) fun a hF => ?_
       refine ga 2 hF rfl fun a hF => ?_
       refine wl_ostore (q := 0) (i := (x43).toNat) (j := 4) ({ at0 xs x43 with result := ⟨x75, (at0 xs x43).result.value⟩ } : Sl.Event) hF hS rfl hv76 (at0_get (by omega) (by omega)) (by decide) (fun _ => rfl) (fun _ => rfl) sz3 (hF.ev rfl) rfl (hF.ev rfl) rfl fun w65 hS => ?_; dsimp only [List.set] at hS
       refine wl_nil ?_
       refine xt ?_
       refine hK44 _ _ <| ws fun K53 hK53 => gB 2 11 hF hS rfl rfl rfl fun a hF => ww 12 hF hS rfl rfl rfl rfl rfl rfl fun w66 hS => ge hK53 hF rfl fun a hF => ?_
       refine xr ?_
       have he_ := hx _ (at0_mem (i := x43) (by omega) (by omega))
       exact ret2c rfl ag25 hF hS (i := 12) rfl sz25 rfl rfl ⟨((c10, xs.set x43.toNat ({ at0 xs x43 with result := ⟨x75, (at0 xs x43).result.value⟩ } : Sl.Event)), q), ⟨rfl, h10, set_all hx (⟨he_.1, he_.2.1, ⟨by unfold int64; dsimp only; omega, he_.2.2.1.2⟩, he_.2.2.2⟩ : Sl.Event.wf ({ at0 xs x43 with result := ⟨x75, (at0 xs x43).result.value⟩ } : Sl.Event)), by dsimp only; rw [List.length_set]; omega⟩, (hS.pm 13 [0, 7] rfl)⟩
      refine wp_region_lit <| ga 3 hF rfl fun a hF => ?_
      refine ck hF rfl (l1Below_c hbs (q := 7) _ hS rfl) ?_; rintro v w67 a ⟨⟨x49, rfl, h49⟩, hS⟩ hF
      refine ga 1 hF rfl fun a hF => ?_
      obtain ⟨g51, o51, m51, q51, hv51, hm51, hl51, hc51⟩ := Rd.atF ((hS.own_rd (i := 0) rfl)) (a := a) (X := .tmp 47) (hF.ev rfl) (by omega) (by omega)
      refine wl hF rfl rfl rfl (r_index sl26 ((hF.ev rfl).trans hv51) (hF.ev rfl) (by omega) (by first | omega | (simp at hm51; omega))) fun a hF => ?_
      refine ga 1 hF rfl fun a hF => ?_
      refine wl_ostore (q := 0) (i := (x43).toNat) (j := 7) ({ at0 xs x43 with fin := IntKind.i64.wrap (x49 - 1) } : Sl.Event) hF hS rfl hv51 (at0_get (by omega) (by omega)) (by decide) (fun _ => rfl) (fun _ => rfl) sz3 (hF.ev rfl) rfl (hF.ev rfl) rfl fun w68 hS => ?_; dsimp only [List.set] at hS
      refine wl_nil ?_
      refine xt ?_
      refine hK44 _ _ <| ws fun K54 hK54 => gB 2 11 hF hS rfl rfl rfl fun a hF => ww 12 hF hS rfl rfl rfl rfl rfl rfl fun w69 hS => ge hK54 hF rfl fun a hF => ?_
      refine xr ?_
      have he_ := hx _ (at0_mem (i := x43) (by omega) (by omega))
      exact ret2c rfl ag25 hF hS (i := 12) rfl sz25 rfl rfl ⟨((c10, xs.set x43.toNat ({ at0 xs x43 with fin := IntKind.i64.wrap (x49 - 1) } : Sl.Event)), q), ⟨rfl, h10, set_all hx (⟨he_.1, he_.2.1, he_.2.2.1, he_.2.2.2.1, int64_wrap _⟩ : Sl.Event.wf ({ at0 xs x43 with fin := IntKind.i64.wrap (x49 - 1) } : Sl.Event)), by dsimp only; rw [List.length_set]; omega⟩, (hS.pm 13 [0, 7] rfl)⟩
     refine wp_skip <| hK44 _ _ <| ws fun K55 hK55 => gB 2 11 hF hS rfl rfl rfl fun a hF => ww 12 hF hS rfl rfl rfl rfl rfl rfl fun w70 hS => ge hK55 hF rfl fun a hF => ?_
     refine xr ?_
     exact ret2c rfl ag25 hF hS (i := 12) rfl sz25 rfl rfl ⟨((c10, xs), q), ⟨rfl, h10, hx, by dsimp only; omega⟩, (hS.pm 13 [0, 7] rfl)⟩
    clear hF0
    try simp only [decide_eq_true_eq, decide_eq_false_iff_not, Bool.not_eq_true', Bool.not_eq_false'] at b36
    refine ge hK45 hF rfl fun a hF => wc_false (hF.ev rfl) <| wp_skip <| hK44 _ _ <| ws fun K56 hK56 => gB 2 11 hF hS rfl rfl rfl fun a hF => ww 12 hF hS rfl rfl rfl rfl rfl rfl fun w71 hS => ?_
    refine ge hK56 hF rfl fun a hF => ?_
    refine xr ?_
    exact ret2c rfl ag25 hF hS (i := 12) rfl sz25 rfl rfl ⟨((c10, xs), q), ⟨rfl, h10, hx, by dsimp only; omega⟩, (hS.pm 13 [0, 7] rfl)⟩
   ·
    refine op_ld rfl rfl (gw0 rfl) rfl rfl rfl (fun a w_ hF hS => r_loadn ag78 (hF.ev rfl) (hS.box_rd (i := 0) rfl) sz78) <| todo_fork [(2, [3, 4])] hl_ rfl (by kernel_rfl) (List.forall_mem_cons.2 ⟨?_, fun _ h_ => nomatch h_⟩)
    ·
     refine op_mc (Γ := {z : List Int × Slv // (∀ x ∈ z.1, int64 x) ∧ z.1.length ≤ 200}) (m' := [3, 4]) rfl (gw0 rfl) rfl rfl rfl (fun a w_ hF => r_call2 en46 (hF.ev rfl) ec) (fun w_ hS => calls_sub (l18Picks_h (k := 20) hbs (by omega) (hS.pm 6 [3, 0, 1, 2, 4, 5] rfl))) ?_; intro ⟨⟨ps21, q21⟩, hx21, hn21⟩; try clear hSd; try clear wd; intro wd hSd
     refine todo_fin hl_ rfl (by kernel_rfl) (tl := [_, _]) rfl ?_; intro a w72 hF hA_
     have hS := hA_.sep; clear hA_
     clear hl_; try clear hSd
     try dsimp only [List.cons_append, List.nil_append, List.set] at hS
     try clear wd
     refine wl_mk hF hS rfl rfl rfl (r_call2 en45 (hF.ev rfl) (hF.ev rfl)) (runPicks_c (hS.part_k (i := 3) rfl) (good_mach h10 hn15 hx15) (hS.own_rd (i := 0) rfl) hx21 hn21) ?_; rintro ⟨⟨x22, vs22⟩, hg22⟩ w73 a hS_ hF; replace hS := hS_; clear hS_; dsimp only [List.cons_append, List.nil_append] at hS
     refine ww 3 hF hS rfl rfl rfl rfl rfl rfl fun w74 hS => wl_nil ⟨rfl, ?_⟩
     refine hK39 _ _ <| ws fun K57 hK57 => ga 1 hF rfl fun a hF => ?_
     replace hS := hS.pull (p := 0) rfl; dsimp only [List.eraseIdx] at hS
     replace hS : Sep W (Own intEK (sv (vs22.getD 0 (none, 0, 0))) x22.state.cells :: Own intEK (sv (vs22.getD 1 (none, 0, 0))) x22.state.generations :: Own threadEK (sv (vs22.getD 2 (none, 0, 0))) x22.state.threads :: Own (sliceEK opEK) (sv (vs22.getD 3 (none, 0, 0))) x22.programs :: Own intEK (sv (vs22.getD 4 (none, 0, 0))) x22.next :: Own eventEK (sv (vs22.getD 5 (none, 0, 0))) x22.events :: _) _ := hS.part_open
     dsimp only [machineEK] at hS
     generalize vs22.getD 5 (none, 0, 0) = z5 at hS
     refine gf hK57 8 hF hS rfl rfl rfl fun a hF => wp_seq_k fun K58 hK58 => wp_block ?_
     replace hS := hS.pull (p := 5) rfl; dsimp only [List.eraseIdx] at hS
     have hL_ := ((((hF.nil.keep hF (t := 4) rfl).keep hF (t := 3) rfl).keep hF (t := 2) rfl).keep hF (t := 0) rfl)
     refine wp_loop_m (σ := List Sl.Event × Slv) (fun z L_ => (7, sv z.2) :: L_) (fun z l_ => (Own eventEK (sv z.2) z.1) :: l_) (fun z => (∀ x ∈ z.1, x.wf) ∧ (z.1.length ≤ 80)) (fun z => z.1.length) (x22.events, z5) (hS) (hL_.keepE hF (t := 7) rfl rfl) ?_ ?_
     · exact ⟨hg22.we, hg22.ze⟩
     rintro ⟨xs, q⟩ a w75 ⟨hx, hz⟩ hS hF; try dsimp only at hF; try dsimp only at hS; try dsimp only at hx; try dsimp only at hz
     have hlq := hS.own_len (q := 0) rfl
     have hcap_ : xs.length ≤ q.2.2 := by
       obtain ⟨A_, c_, e_, h1_, _⟩ := (hS.own_rd (i := 0) rfl).sl
       have e2_ : q.2.2 = c_ := by injection e_
       rw [e2_]; exact h1_
     refine wp_seq_k fun K59 hK59 => rg hF rfl fun a hF => cx 27 hF rfl (fun c27 hF => ?_) fun c27 hF => ?_
     ·
      refine wp_skip <| hK59 _ _ <| wp_block <| wp_region_lit <| ga 4 hF rfl fun a hF => ?_
      rw [w64_id (by omega) (by omega)] at hF
      refine wl hF rfl rfl rfl (r_cuthi (j := xs.length - 1) sl26 (hF.ev rfl) ((hF.ev rfl).trans (by first | rfl | (congr 1; omega))) (by omega)) fun a hF => ?_
      replace hS := hS.own_cuthi (q := 0) (j := xs.length - 1) rfl (by omega); dsimp only [List.set] at hS
      refine ga 1 hF rfl fun a hF => wl_nil ?_
      refine xt ?_
      refine ⟨(xs.take (xs.length - 1), (q.1, xs.length - 1, q.2.2)), ⟨(fun x h => hx x (List.mem_of_mem_take h)), by dsimp only; rw [List.length_take]; omega⟩, hS, (((((hF.nil.keep hF (t := 4) rfl).keep hF (t := 3) rfl).keep hF (t := 2) rfl).keep hF (t := 0) rfl).keepE hF (t := 7) rfl rfl), by dsimp only; rw [List.length_take]; omega⟩
     refine wp_exit ?_
     refine xt ?_
     refine hK58 _ _ <| wp_seq_k fun K61 hK61 => ws fun K62 hK62 => ga 4 hF rfl fun a hF => ?_
     revert hF; intro hF0; refine bsplit (t := 36) hF0 rfl (fun b36 hF => ?_) (fun b36 hF => ?_)
     ·
      clear hF0
      try simp only [decide_eq_true_eq, decide_eq_false_iff_not, Bool.not_eq_true', Bool.not_eq_false'] at b36
      refine ga 1 hF rfl fun a hF => ?_
      refine ck hF rfl (l1Once_c hbs (q := 7) _ hS rfl) ?_; rintro v w76 a ⟨⟨b38, rfl⟩, hS⟩ hF
      refine ge hK62 hF rfl fun a hF => cx 39 hF rfl (fun c39 hF => ?_) fun c39 hF => ?_
      ·
       refine ws fun K63 hK63 => ga 3 hF rfl fun a hF => ?_
       refine ck hF rfl (l1Below_c hbs (q := 7) _ hS rfl) ?_; rintro v w77 a ⟨⟨x43, rfl, h43⟩, hS⟩ hF
       refine ge hK63 hF rfl fun a hF => ws fun K64 hK64 => ga 1 hF rfl fun a hF => ?_
       refine ck hF rfl (l1Below_c hbs (q := 7) _ hS rfl) ?_; rintro v w78 a ⟨⟨x45, rfl, h45⟩, hS⟩ hF
       refine wl_nil <| hK64 _ _ <| wp_block <| rg hF rfl fun a hF => cx 53 hF rfl (fun c53 hF => ?_) fun c53 hF => ?_
       ·
        refine wp_region_lit <| ga 3 hF rfl fun a hF => ?_
        refine ck hF rfl (l1Below_c hbs (q := 7) _ hS rfl) ?_; rintro v w79 a ⟨⟨x58, rfl, h58⟩, hS⟩ hF
        obtain ⟨g59, o59, m59, q59, hv59, hm59, hl59, hc59⟩ := Rd.atF ((hS.own_rd (i := 0) rfl)) (a := a) (X := .tmp 56) (hF.ev rfl) (by omega) (by omega)
        refine wl hF rfl rfl rfl (r_index sl26 ((hF.ev rfl).trans hv59) (hF.ev rfl) (by omega) (by first | omega | (simp at hm59; omega))) fun a hF => ?_
        refine ga 2 hF rfl fun a hF => ?_
        refine wl_ostore (q := 0) (i := (x43).toNat) (j := 5) ({ at0 xs x43 with result := ⟨(at0 xs x43).result.code, x58⟩ } : Sl.Event) hF hS rfl hv59 (at0_get (by omega) (by omega)) (by decide) (fun _ => rfl) (fun _ => rfl) sz3 (hF.ev rfl) rfl (hF.ev rfl) rfl fun w80 hS => ?_; dsimp only [List.set] at hS
        refine wl_nil ?_
        refine xt ?_
        refine hK61 _ _ <| ws fun K66 hK66 => gB 2 11 hF hS rfl rfl rfl fun a hF => ww 12 hF hS rfl rfl rfl rfl rfl rfl fun w81 hS => ge hK66 hF rfl fun a hF => ?_
        refine xr ?_
        have he_ := hx _ (at0_mem (i := x43) (by omega) (by omega))
        exact ret2c rfl ag25 hF hS (i := 12) rfl sz25 rfl rfl ⟨((c10, xs.set x43.toNat ({ at0 xs x43 with result := ⟨(at0 xs x43).result.code, x58⟩ } : Sl.Event)), q), ⟨rfl, h10, set_all hx (⟨he_.1, he_.2.1, ⟨he_.2.2.1.1, by unfold int64; dsimp only; omega⟩, he_.2.2.2⟩ : Sl.Event.wf ({ at0 xs x43 with result := ⟨(at0 xs x43).result.code, x58⟩ } : Sl.Event)), by dsimp only; rw [List.length_set]; omega⟩, (hS.pm 13 [0, 7] rfl)⟩
       refine rg hF rfl fun a hF => cx 62 hF rfl (fun c62 hF => ?_) fun c62 hF => ?_
       ·
        refine wp_region_lit <| ga 3 hF rfl fun a hF => ?_
        refine ck hF rfl (l1Below_c hbs (q := 7) _ hS rfl) ?_; rintro v w82 a ⟨⟨x67, rfl, h67⟩, hS⟩ hF
        obtain ⟨g68, o68, m68, q68, hv68, hm68, hl68, hc68⟩ := Rd.atF ((hS.own_rd (i := 0) rfl)) (a := a) (X := .tmp 65) (hF.ev rfl) (by omega) (by omega)
        refine wl hF rfl rfl rfl (r_index sl26 ((hF.ev rfl).trans hv68) (hF.ev rfl) (by omega) (by first | omega | (simp at hm68; omega))) fun a hF => ?_
        refine ga 1 hF rfl fun a hF => ?_
        refine wl_ostore (q := 0) (i := (x43).toNat) (j := 6) ({ at0 xs x43 with start := x67 } : Sl.Event) hF hS rfl hv68 (at0_get (by omega) (by omega)) (by decide) (fun _ => rfl) (fun _ => rfl) sz3 (hF.ev rfl) rfl (hF.ev rfl) rfl fun w83 hS => ?_; dsimp only [List.set] at hS
        refine wl_nil ?_
        refine xt ?_
        refine hK61 _ _ <| ws fun K68 hK68 => gB 2 11 hF hS rfl rfl rfl fun a hF => ww 12 hF hS rfl rfl rfl rfl rfl rfl fun w84 hS => ge hK68 hF rfl fun a hF => ?_
        refine xr ?_
        have he_ := hx _ (at0_mem (i := x43) (by omega) (by omega))
        exact ret2c rfl ag25 hF hS (i := 12) rfl sz25 rfl rfl ⟨((c10, xs.set x43.toNat ({ at0 xs x43 with start := x67 } : Sl.Event)), q), ⟨rfl, h10, set_all hx (⟨he_.1, he_.2.1, he_.2.2.1, by unfold int64; dsimp only; omega, he_.2.2.2.2⟩ : Sl.Event.wf ({ at0 xs x43 with start := x67 } : Sl.Event)), by dsimp only; rw [List.length_set]; omega⟩, (hS.pm 13 [0, 7] rfl)⟩
       refine rg hF rfl fun a hF => cx 70 hF rfl (fun c70 hF => ?_) fun c70 hF => ?_
       ·
        refine wp_region_lit <| ga 3 hF rfl fun a hF => ?_
        refine ck hF rfl (l1Below_c hbs (q := 7) _ hS rfl) ?_; rintro v w85 a ⟨⟨x75, rfl, h75⟩, hS⟩ hF
        obtain ⟨g76, o76, m76, q76, hv76, hm76, hl76, hc76⟩ := Rd.atF ((hS.own_rd (i := 0) rfl)) (a := a) (X := .tmp 73) (hF.ev rfl) (by omega) (by omega)
        refine wl hF rfl rfl rfl (r_index sl26 ((hF.ev rfl).trans hv76) (hF.ev rfl) (by omega) (by first | omega | (simp at hm76; omega))) fun a hF => ?_
        refine ga 2 hF rfl fun a hF => ?_
        refine wl_ostore (q := 0) (i := (x43).toNat) (j := 4) ({ at0 xs x43 with result := ⟨x75, (at0 xs x43).result.value⟩ } : Sl.Event) hF hS rfl hv76 (at0_get (by omega) (by omega)) (by decide) (fun _ => rfl) (fun _ => rfl) sz3 (hF.ev rfl) rfl (hF.ev rfl) rfl fun w86 hS => ?_; dsimp only [List.set] at hS
        refine wl_nil ?_
        refine xt ?_
        refine hK61 _ _ <| ws fun K70 hK70 => gB 2 11 hF hS rfl rfl rfl fun a hF => ww 12 hF hS rfl rfl rfl rfl rfl rfl fun w87 hS => ge hK70 hF rfl fun a hF => ?_
        refine xr ?_
        have he_ := hx _ (at0_mem (i := x43) (by omega) (by omega))
        exact ret2c rfl ag25 hF hS (i := 12) rfl sz25 rfl rfl ⟨((c10, xs.set x43.toNat ({ at0 xs x43 with result := ⟨x75, (at0 xs x43).result.value⟩ } : Sl.Event)), q), ⟨rfl, h10, set_all hx (⟨he_.1, he_.2.1, ⟨by unfold int64; dsimp only; omega, he_.2.2.1.2⟩, he_.2.2.2⟩ : Sl.Event.wf ({ at0 xs x43 with result := ⟨x75, (at0 xs x43).result.value⟩ } : Sl.Event)), by dsimp only; rw [List.length_set]; omega⟩, (hS.pm 13 [0, 7] rfl)⟩
       refine wp_region_lit <| ga 3 hF rfl fun a hF => ?_
       refine ck hF rfl (l1Below_c hbs (q := 7) _ hS rfl) ?_; rintro v w88 a ⟨⟨x49, rfl, h49⟩, hS⟩ hF
       refine ga 1 hF rfl fun a hF => ?_
       obtain ⟨g51, o51, m51, q51, hv51, hm51, hl51, hc51⟩ := Rd.atF ((hS.own_rd (i := 0) rfl)) (a := a) (X := .tmp 47) (hF.ev rfl) (by omega) (by omega)
       refine wl hF rfl rfl rfl (r_index sl26 ((hF.ev rfl).trans hv51) (hF.ev rfl) (by omega) (by first | omega | (simp at hm51; omega))) fun a hF => ?_
       refine ga 1 hF rfl fun a hF => ?_
       refine wl_ostore (q := 0) (i := (x43).toNat) (j := 7) ({ at0 xs x43 with fin := IntKind.i64.wrap (x49 - 1) } : Sl.Event) hF hS rfl hv51 (at0_get (by omega) (by omega)) (by decide) (fun _ => rfl) (fun _ => rfl) sz3 (hF.ev rfl) rfl (hF.ev rfl) rfl fun w89 hS => ?_; dsimp only [List.set] at hS
       refine wl_nil ?_
       refine xt ?_
       refine hK61 _ _ <| ws fun K71 hK71 => gB 2 11 hF hS rfl rfl rfl fun a hF => ww 12 hF hS rfl rfl rfl rfl rfl rfl fun w90 hS => ge hK71 hF rfl fun a hF => ?_
       refine xr ?_
       have he_ := hx _ (at0_mem (i := x43) (by omega) (by omega))
       exact ret2c rfl ag25 hF hS (i := 12) rfl sz25 rfl rfl ⟨((c10, xs.set x43.toNat ({ at0 xs x43 with fin := IntKind.i64.wrap (x49 - 1) } : Sl.Event)), q), ⟨rfl, h10, set_all hx (⟨he_.1, he_.2.1, he_.2.2.1, he_.2.2.2.1, int64_wrap _⟩ : Sl.Event.wf ({ at0 xs x43 with fin := IntKind.i64.wrap (x49 - 1) } : Sl.Event)), by dsimp only; rw [List.length_set]; omega⟩, (hS.pm 13 [0, 7] rfl)⟩
      refine wp_skip <| hK61 _ _ <| ws fun K72 hK72 => gB 2 11 hF hS rfl rfl rfl fun a hF => ww 12 hF hS rfl rfl rfl rfl rfl rfl fun w91 hS => ge hK72 hF rfl fun a hF => ?_
      refine xr ?_
      exact ret2c rfl ag25 hF hS (i := 12) rfl sz25 rfl rfl ⟨((c10, xs), q), ⟨rfl, h10, hx, by dsimp only; omega⟩, (hS.pm 13 [0, 7] rfl)⟩
     clear hF0
     try simp only [decide_eq_true_eq, decide_eq_false_iff_not, Bool.not_eq_true', Bool.not_eq_false'] at b36
     refine ge hK62 hF rfl fun a hF => wc_false (hF.ev rfl) <| wp_skip <| hK61 _ _ <| ws fun K73 hK73 => gB 2 11 hF hS rfl rfl rfl fun a hF => ww 12 hF hS rfl rfl rfl rfl rfl rfl fun w92 hS => ?_
     refine ge hK73 hF rfl fun a hF => ?_
     refine xr ?_
     exact ret2c rfl ag25 hF hS (i := 12) rfl sz25 rfl rfl ⟨((c10, xs), q), ⟨rfl, h10, hx, by dsimp only; omega⟩, (hS.pm 13 [0, 7] rfl)⟩
set_option maxRecDepth 20000
theorem l3Any_h {W : World} {g : Nat} {vb : Value} {bs : List Int} (hbs : byteEK.Rd W vb bs) {l : List Res} {w : World} (hS : Sep W (Cur g vb bs.length :: l) w) : Calls Tryz.prog 22 #[.pointer (some ⟨g, 0, none⟩)] w (Ret fun v w' => (∃ c : Config, v = .agg c.enc.toArray ∧ c.wf) ∧ Sep W (Cur g vb bs.length :: l) w') := by
 refine cfr Tryz.func22 Tryz.ntmps22 fun a hF => ?_
 refine ws fun K1 hK1 => wl_alloc hF hS rfl zr25 fun g1 w1 a hS _ hF => wl_nil <| hK1 _ _ <| ws fun K2 hK2 => ga 1 hF rfl fun a hF => ?_
 refine ck hF rfl (l3Config_c hbs (q := 1) hS rfl) ?_; rintro v w2 a ⟨⟨c5, rfl, h5⟩, hS⟩ hF
 refine wl_alloc hF hS rfl zr25 fun g2 w3 a hS _ hF => ?_
 refine wl_storen (cs' := [_, _, _, _, _, _]) hF hS (i := 0) rfl (hF.ev rfl) (hF.ev rfl) sz25 ⟨rfl, rfl⟩ rfl rfl fun w4 hS => ?_; dsimp only [List.set] at hS
 refine wl_nil <| hK2 _ _ <| wp_seq_k fun K3 hK3 => ws fun K4 hK4 => ga 1 hF rfl fun a hF => ?_
 refine ck hF rfl (l1Below_c hbs (q := 2) _ hS rfl) ?_; rintro v w5 a ⟨⟨x7, rfl, h7⟩, hS⟩ hF
 refine wl_nil <| hK4 _ _ <| wp_block <| rg hF rfl fun a hF => cx 8 hF rfl (fun c8 hF => ?_) fun c8 hF => ?_
 ·
  refine wp_region_lit <| ga 1 hF rfl fun a hF => wl_bslice intEK [vi 0, vi 4, vi 5] [0, 4, 5] rfl hF hS rfl mk29 rfl ⟨rfl, ec, rfl, ec, rfl, ec, trivial⟩ rfl rfl rfl rfl fun gl_11 w6 a hS hF => ?_
  refine ck hF rfl (l1PickInt_c hbs (q := 3) (fun w_ hS => (hS.own_rd (i := 0) rfl)) (by decide) hS rfl) ?_; rintro v w7 a ⟨⟨x12, rfl, h12⟩, hS⟩ hF
  refine ga 1 hF rfl fun a hF => wv 1 hF hS rfl rfl rfl rfl rfl rfl fun w8 hS => wl_nil ?_
  refine xt ?_
  refine hK3 _ _ <| ws fun K6 hK6 => gB 1 1 hF hS rfl rfl rfl fun a hF => ww 2 hF hS rfl rfl rfl rfl rfl rfl fun w9 hS => wl_nil (hK6 _ _ ?_)
  refine xr ?_
  unfold Config.ok at h5
  refine ret1c rfl ag25 hF hS (i := 2) rfl sz25 rfl ⟨⟨⟨x12, c5.keys, c5.capacity, c5.batch, c5.policy, c5.clockMax⟩, rfl, ?_⟩, (hS.pm 4 [3] rfl)⟩
  unfold Config.wf int64; dsimp only
  simp only [List.mem_cons, List.not_mem_nil, or_false] at h12
  omega
 refine rg hF rfl fun a hF => cx 14 hF rfl (fun c14 hF => ?_) fun c14 hF => ?_
 ·
  refine wp_region_lit <| ga 1 hF rfl fun a hF => wl_bslice intEK [vi 0, vi 4, vi 5] [0, 4, 5] rfl hF hS rfl mk29 rfl ⟨rfl, ec, rfl, ec, rfl, ec, trivial⟩ rfl rfl rfl rfl fun gl_17 w10 a hS hF => ?_
  refine ck hF rfl (l1PickInt_c hbs (q := 3) (fun w_ hS => (hS.own_rd (i := 0) rfl)) (by decide) hS rfl) ?_; rintro v w11 a ⟨⟨x18, rfl, h18⟩, hS⟩ hF
  refine ga 1 hF rfl fun a hF => wv 1 hF hS rfl rfl rfl rfl rfl rfl fun w12 hS => wl_nil ?_
  refine xt ?_
  refine hK3 _ _ <| ws fun K8 hK8 => gB 1 1 hF hS rfl rfl rfl fun a hF => ww 2 hF hS rfl rfl rfl rfl rfl rfl fun w13 hS => wl_nil (hK8 _ _ ?_)
  refine xr ?_
  unfold Config.ok at h5
  refine ret1c rfl ag25 hF hS (i := 2) rfl sz25 rfl ⟨⟨⟨c5.threads, x18, c5.capacity, c5.batch, c5.policy, c5.clockMax⟩, rfl, ?_⟩, (hS.pm 4 [3] rfl)⟩
  unfold Config.wf int64; dsimp only
  simp only [List.mem_cons, List.not_mem_nil, or_false] at h18
  omega
 refine rg hF rfl fun a hF => cx 20 hF rfl (fun c20 hF => ?_) fun c20 hF => ?_
 ·
  refine wp_region_lit <| ga 1 hF rfl fun a hF => wl_bslice intEK [vi 0, vi 1, vi 24, vi 25] [0, 1, 24, 25] rfl hF hS rfl mk29 rfl ⟨rfl, ec, rfl, ec, rfl, ec, rfl, ec, trivial⟩ rfl rfl rfl rfl fun gl_23 w14 a hS hF => ?_
  refine ck hF rfl (l1PickInt_c hbs (q := 3) (fun w_ hS => (hS.own_rd (i := 0) rfl)) (by decide) hS rfl) ?_; rintro v w15 a ⟨⟨x24, rfl, h24⟩, hS⟩ hF
  refine ga 1 hF rfl fun a hF => wv 1 hF hS rfl rfl rfl rfl rfl rfl fun w16 hS => wl_nil ?_
  refine xt ?_
  refine hK3 _ _ <| ws fun K10 hK10 => gB 1 1 hF hS rfl rfl rfl fun a hF => ww 2 hF hS rfl rfl rfl rfl rfl rfl fun w17 hS => wl_nil (hK10 _ _ ?_)
  refine xr ?_
  unfold Config.ok at h5
  refine ret1c rfl ag25 hF hS (i := 2) rfl sz25 rfl ⟨⟨⟨c5.threads, c5.keys, x24, c5.batch, c5.policy, c5.clockMax⟩, rfl, ?_⟩, (hS.pm 4 [3] rfl)⟩
  unfold Config.wf int64; dsimp only
  simp only [List.mem_cons, List.not_mem_nil, or_false] at h24
  omega
 refine rg hF rfl fun a hF => cx 26 hF rfl (fun c26 hF => ?_) fun c26 hF => ?_
 ·
  refine wp_region_lit <| ga 1 hF rfl fun a hF => wl_bslice intEK [vi 0, vi 4, vi 5] [0, 4, 5] rfl hF hS rfl mk29 rfl ⟨rfl, ec, rfl, ec, rfl, ec, trivial⟩ rfl rfl rfl rfl fun gl_29 w18 a hS hF => ?_
  refine ck hF rfl (l1PickInt_c hbs (q := 3) (fun w_ hS => (hS.own_rd (i := 0) rfl)) (by decide) hS rfl) ?_; rintro v w19 a ⟨⟨x30, rfl, h30⟩, hS⟩ hF
  refine ga 1 hF rfl fun a hF => wv 1 hF hS rfl rfl rfl rfl rfl rfl fun w20 hS => wl_nil ?_
  refine xt ?_
  refine hK3 _ _ <| ws fun K12 hK12 => gB 1 1 hF hS rfl rfl rfl fun a hF => ww 2 hF hS rfl rfl rfl rfl rfl rfl fun w21 hS => wl_nil (hK12 _ _ ?_)
  refine xr ?_
  unfold Config.ok at h5
  refine ret1c rfl ag25 hF hS (i := 2) rfl sz25 rfl ⟨⟨⟨c5.threads, c5.keys, c5.capacity, x30, c5.policy, c5.clockMax⟩, rfl, ?_⟩, (hS.pm 4 [3] rfl)⟩
  unfold Config.wf int64; dsimp only
  simp only [List.mem_cons, List.not_mem_nil, or_false] at h30
  omega
 refine rg hF rfl fun a hF => cx 32 hF rfl (fun c32 hF => ?_) fun c32 hF => ?_
 ·
  refine wp_region_lit <| ga 1 hF rfl fun a hF => wl_bslice intEK [vi (-1), vi 3] [-1, 3] rfl hF hS rfl mk29 rfl ⟨rfl, ec, rfl, ec, trivial⟩ rfl rfl rfl rfl fun gl_35 w22 a hS hF => ?_
  refine ck hF rfl (l1PickInt_c hbs (q := 3) (fun w_ hS => (hS.own_rd (i := 0) rfl)) (by decide) hS rfl) ?_; rintro v w23 a ⟨⟨x36, rfl, h36⟩, hS⟩ hF
  refine ga 1 hF rfl fun a hF => wv 1 hF hS rfl rfl rfl rfl rfl rfl fun w24 hS => wl_nil ?_
  refine xt ?_
  refine hK3 _ _ <| ws fun K14 hK14 => gB 1 1 hF hS rfl rfl rfl fun a hF => ww 2 hF hS rfl rfl rfl rfl rfl rfl fun w25 hS => wl_nil (hK14 _ _ ?_)
  refine xr ?_
  unfold Config.ok at h5
  refine ret1c rfl ag25 hF hS (i := 2) rfl sz25 rfl ⟨⟨⟨c5.threads, c5.keys, c5.capacity, c5.batch, x36, c5.clockMax⟩, rfl, ?_⟩, (hS.pm 4 [3] rfl)⟩
  unfold Config.wf int64; dsimp only
  simp only [List.mem_cons, List.not_mem_nil, or_false] at h36
  omega
 refine rg hF rfl fun a hF => cx 38 hF rfl (fun c38 hF => ?_) fun c38 hF => ?_
 ·
  refine wp_region_lit <| ga 1 hF rfl fun a hF => wl_bslice intEK [vi 0, vi 1, vi 100] [0, 1, 100] rfl hF hS rfl mk29 rfl ⟨rfl, ec, rfl, ec, rfl, ec, trivial⟩ rfl rfl rfl rfl fun gl_41 w26 a hS hF => ?_
  refine ck hF rfl (l1PickInt_c hbs (q := 3) (fun w_ hS => (hS.own_rd (i := 0) rfl)) (by decide) hS rfl) ?_; rintro v w27 a ⟨⟨x42, rfl, h42⟩, hS⟩ hF
  refine ga 1 hF rfl fun a hF => wv 1 hF hS rfl rfl rfl rfl rfl rfl fun w28 hS => wl_nil ?_
  refine xt ?_
  refine hK3 _ _ <| ws fun K16 hK16 => gB 1 1 hF hS rfl rfl rfl fun a hF => ww 2 hF hS rfl rfl rfl rfl rfl rfl fun w29 hS => wl_nil (hK16 _ _ ?_)
  refine xr ?_
  unfold Config.ok at h5
  refine ret1c rfl ag25 hF hS (i := 2) rfl sz25 rfl ⟨⟨⟨c5.threads, c5.keys, c5.capacity, c5.batch, c5.policy, x42⟩, rfl, ?_⟩, (hS.pm 4 [3] rfl)⟩
  unfold Config.wf int64; dsimp only
  simp only [List.mem_cons, List.not_mem_nil, or_false] at h42
  omega
 refine wp_skip ?_
 refine xt ?_
 refine hK3 _ _ <| ws fun K17 hK17 => gB 1 0 hF hS rfl rfl rfl fun a hF => ww 1 hF hS rfl rfl rfl rfl rfl rfl fun w30 hS => wl_nil (hK17 _ _ ?_)
 refine xr ?_
 unfold Config.ok at h5
 refine ret1c rfl ag25 hF hS (i := 1) rfl sz25 rfl ⟨⟨⟨c5.threads, c5.keys, c5.capacity, c5.batch, c5.policy, c5.clockMax⟩, rfl, ?_⟩, (hS.pm 3 [2] rfl)⟩
 unfold Config.wf int64; dsimp only
 omega
theorem l3Any_c {W : World} {g : Nat} {vb : Value} {bs : List Int} (hbs : byteEK.Rd W vb bs) {l : List Res} {w : World} {q : Nat} (hS : Sep W l w) (hq : l[q]? = some (Cur g vb bs.length)) : Calls Tryz.prog 22 #[.pointer (some ⟨g, 0, none⟩)] w (Ret fun v w' => (∃ c : Config, v = .agg c.enc.toArray ∧ c.wf) ∧ Sep W l w') :=
  draw_at (R := fun v => ∃ c : Config, v = .agg c.enc.toArray ∧ c.wf) (fun _ _ h => l3Any_h hbs h ) hS hq
theorem drawLinearize_c {W : World} {vb : Value} {bs : List Int} (hb : byteEK.Rd W vb bs) (hz : bs.length ≤ 1048576) : Calls Tryz.prog 5 #[vb] W (Ret (Mk W (fun z : {z : (Config × List Sl.Event) × Slv // z.1.1.wf ∧ (∀ x ∈ z.1.2, x.wf) ∧ z.1.2.length ≤ 7} => .tuple #[.agg z.1.1.1.enc.toArray, sv z.1.2]) (fun z => [Own eventEK (sv z.1.2) z.1.1.2]))) := by
 refine cfr Tryz.func5 Tryz.ntmps5 fun a hF => ?_
 have hS := Sep.refl W
 refine ws fun K1 hK1 => wl_alloc hF hS rfl zr25 fun g1 w1 a hS _ hF => ge hK1 hF rfl fun a hF => ws fun K2 hK2 => ga 1 hF rfl fun a hF => ?_
 refine wl_mk hF hS rfl rfl rfl (r_call1 en19 (hF.ev rfl)) (l1New_c (hS.rd hb) (by omega)) ?_; rintro g8 w2 a hS_ hF; replace hS := hS_; clear hS_; dsimp only [List.cons_append, List.nil_append] at hS
 have hbs := hb
 refine ge hK2 hF rfl fun a hF => ws fun K3 hK3 => ga 1 hF rfl fun a hF => ?_
 refine ck hF rfl (l20Events_h hbs hS) ?_; rintro v w3 a ⟨⟨⟨c11, es11⟩, q11⟩, ⟨rfl, hc11, hw11, hz11⟩, hS⟩ hF
 try dsimp only at hz11
 refine ga 3 hF rfl fun a hF => wl_alloc hF hS rfl zr25 fun g2 w4 a hS _ hF => ?_
 refine wl_storen (cs' := [_, _, _, _, _, _]) hF hS (i := 0) rfl (hF.ev rfl) (hF.ev rfl) sz25 ⟨rfl, rfl⟩ rfl rfl fun w5 hS => ?_; dsimp only [List.set] at hS
 refine ge hK3 hF rfl fun a hF => wp_seq_k fun K4 hK4 => ws fun K5 hK5 => ga 1 hF rfl fun a hF => ?_
 refine ck hF rfl (l1Once_c hbs (q := 2) _ hS rfl) ?_; rintro v w6 a ⟨⟨b15, rfl⟩, hS⟩ hF
 refine wl_nil <| hK5 _ _ <| cx 15 hF rfl (fun c15 hF => ?_) fun c15 hF => ?_
 ·
  refine wp_region_lit <| ga 1 hF rfl fun a hF => ?_
  refine ck hF rfl (l3Any_c hbs (q := 2) hS rfl) ?_; rintro v w7 a ⟨⟨c17, rfl, h17⟩, hS⟩ hF
  refine wl_storen (cs' := [_, _, _, _, _, _]) hF hS (i := 0) rfl (hF.ev rfl) (hF.ev rfl) sz25 ⟨rfl, rfl⟩ rfl rfl fun w8 hS => ?_; dsimp only [List.set] at hS
  refine wl_nil <| hK4 _ _ <| ws fun K6 hK6 => gB 2 0 hF hS rfl rfl rfl fun a hF => ww 3 hF hS rfl rfl rfl rfl rfl rfl fun w9 hS => ge hK6 hF rfl fun a hF => ?_
  refine xr ?_
  first
    | exact ret2c rfl ag25 hF hS (i := 3) rfl sz25 rfl rfl ⟨⟨((c17, es11), q11), h17, hw11, hz11⟩, rfl, hS.pick [1] (by decide) rfl⟩
    | exact ret2c rfl ag25 hF hS (i := 3) rfl sz25 rfl rfl ⟨⟨((c11, es11), q11), ok_cwf hc11, hw11, hz11⟩, rfl, hS.pick [1] (by decide) rfl⟩
 refine wp_skip <| hK4 _ _ <| ws fun K7 hK7 => gB 2 0 hF hS rfl rfl rfl fun a hF => ww 3 hF hS rfl rfl rfl rfl rfl rfl fun w10 hS => ge hK7 hF rfl fun a hF => ?_
 refine xr ?_
 first
   | exact ret2c rfl ag25 hF hS (i := 3) rfl sz25 rfl rfl ⟨⟨((c17, es11), q11), h17, hw11, hz11⟩, rfl, hS.pick [1] (by decide) rfl⟩
   | exact ret2c rfl ag25 hF hS (i := 3) rfl sz25 rfl rfl ⟨⟨((c11, es11), q11), ok_cwf hc11, hw11, hz11⟩, rfl, hS.pick [1] (by decide) rfl⟩
theorem ag36 : aggB Tryz.prog 36 = true := by kernel_rfl
theorem bd36 : Tryz.prog.built 36 [] = some [.slice none 0 0, .slice none 0 0].toArray := by kernel_rfl
theorem bd36_0 (x0) (x1) (x2) : Tryz.prog.built 36 [(0, .slice x0 x1 x2)] = some [.slice x0 x1 x2, .slice none 0 0].toArray := by kernel_rfl
theorem bd36_0_1 (x0) (x1) (x2) (x3) (x4) (x5) : Tryz.prog.built 36 [(0, .slice x0 x1 x2), (1, .slice x3 x4 x5)] = some [.slice x0 x1 x2, .slice x3 x4 x5].toArray := by kernel_rfl
theorem bd44 : Tryz.prog.built 44 [] = some [.int .i64 0, .int .i64 0].toArray := by kernel_rfl
theorem bd44_1 (x0) : Tryz.prog.built 44 [(1, .int .i64 x0)] = some [.int .i64 0, .int .i64 x0].toArray := by kernel_rfl
theorem eg44 : Tryz.prog.eqGuardType Tryz.prog.depth 44 = false := by kernel_rfl
theorem en6 : enterB Tryz.prog 6 = true := by kernel_rfl
theorem en24 : enterB Tryz.prog 24 = true := by kernel_rfl
theorem en25 : enterB Tryz.prog 25 = true := by kernel_rfl
theorem en27 : enterB Tryz.prog 27 = true := by kernel_rfl
theorem en28 : enterB Tryz.prog 28 = true := by kernel_rfl
theorem en29 : enterB Tryz.prog 29 = true := by kernel_rfl
theorem en31 : enterB Tryz.prog 31 = true := by kernel_rfl
theorem en33 : enterB Tryz.prog 33 = true := by kernel_rfl
theorem en34 : enterB Tryz.prog 34 = true := by kernel_rfl
theorem en47 : enterB Tryz.prog 47 = true := by kernel_rfl
theorem en48 : enterB Tryz.prog 48 = true := by kernel_rfl
theorem en50 : enterB Tryz.prog 50 = true := by kernel_rfl
theorem en51 : enterB Tryz.prog 51 = true := by kernel_rfl
theorem en52 : enterB Tryz.prog 52 = true := by kernel_rfl
theorem en55 : enterB Tryz.prog 55 = true := by kernel_rfl
theorem en56 : enterB Tryz.prog 56 = true := by kernel_rfl
theorem fl44 : flN Tryz.prog 10000 44 = some 2 := by kernel_rfl
theorem iu103 : Tryz.prog.underlying 103 = some (.int .u64) := by kernel_rfl
theorem mk34 : mkB Tryz.prog 34 = some ([.slice none 0 0], 1, 24) := by kernel_rfl
theorem mk50 : mkB Tryz.prog 50 = some ([.bool false], 1, 1) := by kernel_rfl
theorem sc4 : scalB Tryz.prog 4 = true := by kernel_rfl
theorem sc34 : scalB Tryz.prog 34 = true := by kernel_rfl
theorem sl34 : slB Tryz.prog 34 = some (1, 24) := by kernel_rfl
theorem sl50 : slB Tryz.prog 50 = some (1, 1) := by kernel_rfl
theorem sz4 : szB Tryz.prog 4 = some 1 := by kernel_rfl
theorem sz36 : szB Tryz.prog 36 = some 2 := by kernel_rfl
theorem zr36 : zeroOf Tryz.prog 36 = some [.slice none 0 0, .slice none 0 0] := by kernel_rfl
theorem zr44 : zeroOf Tryz.prog 44 = some [.int .i64 0, .int .i64 0] := by kernel_rfl
set_option maxRecDepth 20000
section
variable {α : Type} {xs : List α} {p : α → Bool} {x : α} {k : Nat}
end
section
variable {l : List Int} {c : Config} {x : Int} {k : Nat}
theorem all_next1 (h : (l.take k).all (fun x => decide (-1 ≤ x ∧ x ≤ 99)) = true) (hx : l[k]? = some x) (hp : -1 ≤ x ∧ x ≤ 99) : (l.take (k + 1)).all (fun x => decide (-1 ≤ x ∧ x ≤ 99)) = true := by
 rw [List.take_add_one, hx, List.all_append, h]; simp [hp]
theorem valOk_no (hx : l[k]? = some x) (hp : ¬ (-1 ≤ x ∧ x ≤ 99)) : valOk c l = false := by
 unfold valOk
 have : l.all (fun x => decide (-1 ≤ x ∧ x ≤ 99)) = false := List.all_eq_false.2 ⟨x, List.mem_of_getElem? hx, by simpa using hp⟩
 rw [this, Bool.false_and]
theorem valOk_all (h : (l.take k).all (fun x => decide (-1 ≤ x ∧ x ≤ 99)) = true) (hk : k ≤ l.length) (h1 : ¬ (k : Int) < l.length) : valOk c l = decide ((l.length : Int) = c.keys) := by
 have : k = l.length := by omega
 subst this
 rw [List.take_length] at h
 unfold valOk
 rw [h, Bool.true_and]
end
theorem specValues_c {W : World} {va : Value} {l : List Int} {c : Config} (ha : intEK.Rd W va l) : Calls Tryz.prog 68 #[.agg c.enc.toArray, va] W (Ret fun v w' => v = .bool (valOk c l) ∧ Below W.heap.size W w') := by
 refine cfr Tryz.func68 Tryz.ntmps68 fun a hF => ?_
 have hS := Sep.refl W
 obtain ⟨A_a, q_a, rfl, hq_a, hn_a⟩ := ha.sl; unfold maxLen at hn_a
 refine ws fun K1 hK1 => wl_box (cs := [_, _, _, _, _, _]) hF hS rfl (hF.ev rfl) rfl fun g1 w1 a hS _ hF => ge hK1 hF rfl fun a hF => wp_seq_k fun K2 hK2 => rg hF rfl fun a hF => wp_block <| wp_loop_g (σ := Nat) (fun k a w => k ≤ l.length ∧ (l.take k).all (fun x => decide (-1 ≤ x ∧ x ≤ 99)) = true ∧ Sep W [Box g1 c.enc] w ∧ Fr 23 [(5, vi k), (2, .pointer (some ⟨g1, 0, none⟩)), (1, .slice A_a l.length q_a)] a) (fun k => l.length - k) 0 ?_ ?_
 · exact ⟨Nat.zero_le _, by simp, hS, (((hF.nil.keep hF (t := 1) rfl).keep hF (t := 2) rfl).keep hF (t := 5) rfl)⟩
 rintro k a w ⟨hk, hall, hS, hF⟩
 refine wp_seq_k fun K4 hK4 => rg hF rfl fun a hF => ?_
 first | refine wc_dec (hF.ev rfl) (fun c9 => ?_) (fun c9 => ?_) | refine wc_ndec (hF.ev rfl) (fun c9 => ?_) (fun c9 => ?_) | refine wc_b (hF.ev rfl) (fun c9 => ?_) (fun c9 => ?_)
 ·
  have hlt : k < l.length := by omega
  obtain ⟨x, hx⟩ : ∃ x, l[k]? = some x := ⟨_, List.getElem?_eq_getElem hlt⟩
  refine wp_skip <| hK4 _ _ <| wp_seq_k fun K6 hK6 => wp_block <| ws fun K7 hK7 => ga 2 hF rfl fun a hF => ?_
  obtain ⟨g14, o14, m14, q14, hv14, hm14, hl14, hc14⟩ := Rd.idxF (hS.rd ha) hx
  refine wl hF rfl rfl rfl (r_index sl29 ((hF.ev rfl).trans hv14) (hF.ev rfl) (by omega) (by omega)) fun a hF => wl hF rfl rfl rfl (r_load1 sc3 (hF.ev rfl) (hc14 0 _ rfl)) fun a hF => ckr hF hS rfl (l1In_c _ _ _) fun w2 a hS hF => ge hK7 hF rfl fun a hF => ?_
  first | refine wc_dec (hF.ev rfl) (fun c17 => ?_) (fun c17 => ?_) | refine wc_ndec (hF.ev rfl) (fun c17 => ?_) (fun c17 => ?_) | refine wc_b (hF.ev rfl) (fun c17 => ?_) (fun c17 => ?_)
  ·
   refine rg hF rfl fun a hF => ?_
   refine xr ?_
   refine ret1 rfl hF rfl ⟨congrArg Value.bool (Eq.symm ?_), hS.old⟩
   first
     | exact valOk_no hx c17
     | exact valOk_all hall hk (by assumption)
  refine wp_skip ?_
  refine xt ?_
  refine hK6 _ _ <| rl hF rfl fun a hF => ?_
  refine xt ?_
  exact ⟨k + 1, ⟨by omega, all_next1 hall hx c17, hS, (((hF.nil.keep hF (t := 1) rfl).keep hF (t := 2) rfl).keepE hF (t := 5) rfl (wk (by omega)))⟩, by omega⟩
 refine wp_exit ?_
 refine xt ?_
 refine hK2 _ _ <| rh 0 hF hS rfl rfl rfl fun a hF => ?_
 refine xr ?_
 refine ret1 rfl hF rfl ⟨congrArg Value.bool (Eq.symm ?_), hS.old⟩
 first
   | exact valOk_no hx c17
   | exact valOk_all hall hk (by assumption)
theorem app_nil (a : Value) : #[a] ++ (#[] : Array Value) = #[a] := by simp
theorem app_one (a b : Value) : #[a] ++ #[b] = #[a, b] := by simp
section
variable {l x : List Int} {c : Config} {m : Model} {k : Nat}
theorem valOk_len (h : ¬ (l.length : Int) = c.keys) : valOk c l = false := by simp [valOk, h]
theorem valOk_any (h : (l.length : Int) = c.keys) : valOk c l = !(l.any fun x => !decide (-1 ≤ x ∧ x ≤ 99)) := by
 unfold valOk
 rw [decide_eq_true h, Bool.and_true, List.all_eq_not_any_not]
theorem im_1 (h : ¬ c.ok) : isModel c m = false := by simp [isModel, h]
theorem im_2 (h : valOk c m.values = false) : isModel c m = false := by simp [isModel, h]
theorem im_3 (h : ¬ (m.snapshots.length : Int) = c.threads) : isModel c m = false := by simp [isModel, h]
theorem im_4 (hx : m.snapshots[k]? = some x) (h0 : (0 : Int) < x.length) (h1 : valOk c x = false) : isModel c m = false := by
 unfold isModel
 have : m.snapshots.all (fun l => !decide ((0 : Int) < l.length) || valOk c l) = false := List.all_eq_false.2 ⟨x, List.mem_of_getElem? hx, by rw [h1, decide_eq_true h0]; simp⟩
 rw [this]; simp
theorem im_5 (h1 : c.ok) (h2 : valOk c m.values = true) (h3 : (m.snapshots.length : Int) = c.threads) (h4 : m.snapshots.all (fun l => !decide ((0 : Int) < l.length) || valOk c l) = true) : isModel c m = true := by
 unfold isModel
 rw [decide_eq_true h1, h2, decide_eq_true h3, h4]; rfl
theorem im_6 (h1 : c.ok) (h2 : valOk c m.values = true) (h3 : (m.snapshots.length : Int) = c.threads) : isModel c m = !(m.snapshots.any fun l => decide ((0 : Int) < l.length) && !valOk c l) := by
 unfold isModel
 rw [decide_eq_true h1, h2, decide_eq_true h3, List.all_eq_not_any_not]
 simp
theorem all_gen {α : Type} {f : α → Bool} {zs : List α} {z : α} (h : (zs.take k).all f = true) (hz : zs[k]? = some z) (hf : f z = true) : (zs.take (k + 1)).all f = true := by
 rw [List.take_add_one, hz, List.all_append, h]; simp [hf]
theorem all_end {α : Type} {f : α → Bool} {zs : List α} (h : (zs.take k).all f = true) (hk : k ≤ zs.length) (h1 : ¬ (k : Int) < zs.length) : zs.all f = true := by
 have : k = zs.length := by omega
 subst this
 rwa [List.take_length] at h
end
theorem areValues1_c {W : World} (x : Int) : Calls Tryz.prog 57 #[vi x] W (Ret fun v w' => v = .bool (!decide (-1 ≤ x ∧ x ≤ 99)) ∧ Below W.heap.size W w') := by
 refine cfr Tryz.func57 Tryz.ntmps57 fun a hF => ?_
 have hS := Sep.refl W
 refine rg hF rfl fun a hF => ws fun K2 hK2 => ga 1 hF rfl fun a hF => ckr hF hS rfl (in_c _ _ _) fun w1 a hS hF => ge hK2 hF rfl fun a hF => ?_
 refine xr ?_
 exact ret1 rfl hF rfl ⟨rfl, hS.old⟩
theorem implValues_c {W : World} {va : Value} {l : List Int} {c : Config} (ha : intEK.Rd W va l) : Calls Tryz.prog 35 #[.agg c.enc.toArray, va] W (Ret fun v w' => v = .bool (valOk c l) ∧ Below W.heap.size W w') := by
 refine cfr Tryz.func35 Tryz.ntmps35 fun a hF => ?_
 have hS := Sep.refl W
 obtain ⟨A_l, q_l, rfl, hq_l, hn_l⟩ := ha.sl; unfold maxLen at hn_l
 refine ws fun K1 hK1 => wl_box (cs := [_, _, _, _, _, _]) hF hS rfl (hF.ev rfl) rfl fun g1 w1 a hS _ hF => ge hK1 hF rfl fun a hF => ws fun K2 hK2 => gB 6 0 hF hS rfl rfl rfl fun a hF => ?_
 revert hF; intro hF0; refine bsplit (t := 10) hF0 rfl (fun b10 hF => ?_) (fun b10 hF => ?_)
 ·
  clear hF0
  try simp only [decide_eq_true_eq, decide_eq_false_iff_not, Bool.not_eq_true', Bool.not_eq_false'] at b10
  refine ga 1 hF rfl fun a hF => wl_take hF rfl rfl rfl rfl ?_
  refine wl_call hF rfl rfl rfl (r_call2 en56 (hF.ev rfl) ef) (containsFuncI_c (cap := #[]) (p := fun x => !decide (-1 ≤ x ∧ x ≤ 99)) (hS.rd ha) (by kernel_rfl) (fun w_ x _ _ => by rw [app_nil]; exact areValues1_c x)) ?_; rintro v w2 a ⟨rfl, hB_⟩ hF; have hS := hS.ext hB_
  refine ge hK2 hF rfl fun a hF => ?_
  refine xr ?_
  refine ret1 rfl hF rfl ⟨congrArg Value.bool (Eq.symm ?_), hS.old⟩
  first
    | exact valOk_len b10
    | exact valOk_any b10
 clear hF0
 try simp only [decide_eq_true_eq, decide_eq_false_iff_not, Bool.not_eq_true', Bool.not_eq_false'] at b10
 refine ge hK2 hF rfl fun a hF => ?_
 refine xr ?_
 refine ret1 rfl hF rfl ⟨congrArg Value.bool (Eq.symm ?_), hS.old⟩
 first
   | exact valOk_len b10
   | exact valOk_any b10
theorem isModel1_c {W : World} {va : Value} {l : List Int} {c : Config} {g : Nat} (ha : intEK.Rd W va l) (hc : ∀ j u, c.enc[j]? = some u → W.cell? ⟨g, 0 + j, none⟩ = some u) : Calls Tryz.prog 37 #[va, .pointer (some ⟨g, 0, none⟩)] W (Ret fun v w' => v = .bool (decide ((0 : Int) < l.length) && !valOk c l) ∧ Below W.heap.size W w') := by
 refine cfr Tryz.func37 Tryz.ntmps37 fun a hF => ?_
 have hS := Sep.refl W
 obtain ⟨A_l, q_l, rfl, hq_l, hn_l⟩ := ha.sl; unfold maxLen at hn_l
 refine rg hF rfl fun a hF => ws fun K2 hK2 => ga 4 hF rfl fun a hF => ?_
 revert hF; intro hF0; refine bsplit (t := 7) hF0 rfl (fun b7 hF => ?_) (fun b7 hF => ?_)
 ·
  clear hF0
  try simp only [decide_eq_true_eq, decide_eq_false_iff_not, Bool.not_eq_true', Bool.not_eq_false'] at b7
  refine wl_take hF rfl rfl rfl rfl <| wl hF rfl rfl rfl (r_loadn ag25 (hF.ev rfl) (fun j_ u_ hu_ => cellB hS.old (hc j_ u_ hu_)) sz25) fun a hF => ga 1 hF rfl fun a hF => ckr hF hS rfl (implValues_c (hS.rd ha)) fun w1 a hS hF => ge hK2 hF rfl fun a hF => ?_
  refine xr ?_
  refine ret1 rfl hF rfl ⟨congrArg Value.bool ?_, hS.old⟩
  first | (rw [decide_eq_true b7]; rfl) | (rw [decide_eq_false b7]; rfl)
 clear hF0
 try simp only [decide_eq_true_eq, decide_eq_false_iff_not, Bool.not_eq_true', Bool.not_eq_false'] at b7
 refine ge hK2 hF rfl fun a hF => ?_
 refine xr ?_
 refine ret1 rfl hF rfl ⟨congrArg Value.bool ?_, hS.old⟩
 first | (rw [decide_eq_true b7]; rfl) | (rw [decide_eq_false b7]; rfl)
theorem indexFuncS_c {W : World} {va : Value} {xs : List (List Int)} {f : FuncId} {cap : Array Value} {p : (List Int) → Bool} (ha : (sliceEK intEK).Rd W va xs) (hen : enterB Tryz.prog f = true) (hf : ∀ (w : World) (v : Value) (x : (List Int)), Below W.heap.size W w → intEK.Rd w v x → Calls Tryz.prog f (#[v] ++ cap) w (Ret fun v w' => v = .bool (p x) ∧ Below w.heap.size w w')) : Calls Tryz.prog 58 #[va, .func (.func f) #[] cap] W (Ret fun v w' => (∃ j : Int, v = vi j ∧ (0 ≤ j ↔ xs.any p = true)) ∧ Below W.heap.size W w') := by
 refine cfr Tryz.func58 Tryz.ntmps58 fun a hF => ?_
 obtain ⟨A_a, q_a, rfl, hq_a, hn_a⟩ := ha.sl; unfold maxLen at hn_a
 have hS := Sep.refl W
 refine rg hF rfl fun a hF => wp_seq_k fun K2 hK2 => rg hF rfl fun a hF => wp_block <| wp_loop_g (σ := Nat) (fun k a w => k ≤ xs.length ∧ (xs.take k).any p = false ∧ Sep W [] w ∧ Fr 19 [(8, vi k), (7, vi xs.length), (1, .func (.func f) #[] cap), (0, .slice A_a xs.length q_a)] a) (fun k => xs.length - k) 0 ?_ ?_
 · exact ⟨Nat.zero_le _, by simp, hS, ((((hF.nil.keep hF (t := 0) rfl).keep hF (t := 1) rfl).keep hF (t := 7) rfl).keep hF (t := 8) rfl)⟩
 rintro k a w ⟨hk, hn, hS, hF⟩
 refine rg hF rfl fun a hF => wp_seq_k fun K5 hK5 => ?_
 first | refine wc_dec (hF.ev rfl) (fun c9 => ?_) (fun c9 => ?_) | refine wc_ndec (hF.ev rfl) (fun c9 => ?_) (fun c9 => ?_) | refine wc_b (hF.ev rfl) (fun c9 => ?_) (fun c9 => ?_)
 ·
  have hlt : k < xs.length := by omega
  obtain ⟨x, hx⟩ : ∃ x, xs[k]? = some x := ⟨_, List.getElem?_eq_getElem hlt⟩
  refine wp_skip <| hK5 _ _ <| wp_seq_k fun K6 hK6 => wp_block <| rg hF rfl fun a hF => ws fun K8 hK8 => ga 3 hF rfl fun a hF => ?_
  obtain ⟨g14, o14, m14, q14, cs14, hv14, hm14, hl14, hk14, hz14, hc14⟩ := Rd.idx (ha) hx
  obtain ⟨v14, rfl, hr14⟩ := hk14; obtain ⟨Ae14, qe14, rfl, _, hme14⟩ := hr14.sl; unfold maxLen at hme14
  refine wl hF rfl rfl rfl (r_index sl34 ((hF.ev rfl).trans hv14) (hF.ev rfl) (by omega) (by omega)) fun a hF => wl hF rfl rfl rfl (r_load1 sc29 (hF.ev rfl) (cellB hS.old (hc14 0 _ rfl))) fun a hF => ?_
  refine wl_call hF rfl rfl rfl (r_callv1 hen (hF.ev rfl) (hF.ev rfl)) (hf _ _ x hS.old (hS.rd hr14)) ?_; rintro v w1 a ⟨rfl, hB_⟩ hF; have hS := hS.ext hB_
  refine wl_nil (hK8 _ _ ?_)
  first | refine wc_dec (hF.ev rfl) (fun c16 => ?_) (fun c16 => ?_) | refine wc_ndec (hF.ev rfl) (fun c16 => ?_) (fun c16 => ?_) | refine wc_b (hF.ev rfl) (fun c16 => ?_) (fun c16 => ?_)
  ·
   refine rg hF rfl fun a hF => ?_
   refine xr ?_
   first | exact ret1 rfl hF rfl ⟨⟨_, rfl, ⟨fun _ => any_at hx c16, fun _ => by omega⟩⟩, hS.old⟩ | exact ret1 rfl hF rfl ⟨⟨_, rfl, ⟨fun h => absurd h (by omega), fun h => absurd h (by rw [any_all hn hk (by assumption)]; decide)⟩⟩, hS.old⟩
  refine wp_skip ?_
  refine xt ?_
  refine hK6 _ _ <| rl hF rfl fun a hF => ?_
  refine xt ?_
  exact ⟨k + 1, ⟨by omega, any_next hn hx c16, hS, ((((hF.nil.keep hF (t := 0) rfl).keep hF (t := 1) rfl).keep hF (t := 7) rfl).keepE hF (t := 8) rfl (wk (by omega)))⟩, by omega⟩
 refine wp_exit ?_
 refine xt ?_
 refine hK2 _ _ <| rg hF rfl fun a hF => ?_
 refine xr ?_
 first | exact ret1 rfl hF rfl ⟨⟨_, rfl, ⟨fun _ => any_at hx c16, fun _ => by omega⟩⟩, hS.old⟩ | exact ret1 rfl hF rfl ⟨⟨_, rfl, ⟨fun h => absurd h (by omega), fun h => absurd h (by rw [any_all hn hk (by assumption)]; decide)⟩⟩, hS.old⟩
theorem containsFuncS_c {W : World} {va : Value} {xs : List (List Int)} {f : FuncId} {cap : Array Value} {p : (List Int) → Bool} (ha : (sliceEK intEK).Rd W va xs) (hen : enterB Tryz.prog f = true) (hf : ∀ (w : World) (v : Value) (x : (List Int)), Below W.heap.size W w → intEK.Rd w v x → Calls Tryz.prog f (#[v] ++ cap) w (Ret fun v w' => v = .bool (p x) ∧ Below w.heap.size w w')) : Calls Tryz.prog 36 #[va, .func (.func f) #[] cap] W (Ret fun v w' => v = .bool (xs.any p) ∧ Below W.heap.size W w') := by
 refine cfr Tryz.func36 Tryz.ntmps36 fun a hF => ?_
 have hS := Sep.refl W
 refine rg hF rfl fun a hF => ws fun K2 hK2 => ga 2 hF rfl fun a hF => ?_
 refine ck hF rfl (indexFuncS_c (hS.rd ha) hen hf) ?_; rintro v w1 a ⟨⟨j, rfl, hj⟩, hB_⟩ hF; have hS := hS.ext hB_
 refine ge hK2 hF rfl fun a hF => ?_
 refine xr ?_
 refine ret1 rfl hF rfl ⟨congrArg Value.bool ?_, hS.old⟩
 cases hb : xs.any p with
 | true => exact decide_eq_true (hj.2 hb)
 | false => exact decide_eq_false (fun h => by rw [hj.1 h] at hb; cases hb)
theorem specIsModel_c {W : World} {c : Config} {m : Model} {cs : List Value} (hm : modelEK.K W m cs) : Calls Tryz.prog 53 #[.agg c.enc.toArray, .agg cs.toArray] W (Ret fun v w' => v = .bool (isModel c m) ∧ Below W.heap.size W w') := by
 refine cfr Tryz.func53 Tryz.ntmps53 fun a hF => ?_
 obtain ⟨v0, v1, rfl, r0, r1⟩ := hm
 obtain ⟨A_x, q_x, rfl, hq_x, hn_x⟩ := r1.sl; unfold maxLen at hn_x
 have hS := Sep.refl W
 refine ws fun K1 hK1 => wl_box (cs := [_, _, _, _, _, _]) hF hS rfl (hF.ev rfl) rfl fun g1 w1 a hS _ hF => wl_box (cs := [_, _]) hF hS rfl (hF.ev rfl) rfl fun g2 w2 a hS _ hF => ge hK1 hF rfl fun a hF => wp_seq_k fun K2 hK2 => ws fun K3 hK3 => gB 1 1 hF hS rfl rfl rfl fun a hF => ?_
 refine ckr hF hS rfl (specIsConfig_c c) fun w3 a hS hF => ga 2 hF rfl fun a hF => ?_
 revert hF; intro hF0; refine bsplit (t := 9) hF0 rfl (fun b9 hF => ?_) (fun b9 hF => ?_)
 ·
  clear hF0
  try simp only [decide_eq_true_eq, decide_eq_false_iff_not, Bool.not_eq_true', Bool.not_eq_false'] at b9
  refine ge hK3 hF rfl fun a hF => wc_true (hF.ev rfl) <| rg hF rfl fun a hF => ?_
  refine xr ?_
  refine ret1 rfl hF rfl ⟨congrArg Value.bool (Eq.symm ?_), hS.old⟩
  first
    | exact im_1 b9
    | exact im_2 b16
    | exact im_3 c23
    | exact im_4 hx b38 ((Bool.not_eq_true' _).mp c47)
    | exact im_5 b9 b16 c23 (all_end hall hk (by assumption))
 clear hF0
 try simp only [decide_eq_true_eq, decide_eq_false_iff_not, Bool.not_eq_true', Bool.not_eq_false'] at b9
 refine gB 2 1 hF hS rfl rfl rfl fun a hF => wl_take hF rfl rfl rfl rfl <| gB 1 0 hF hS rfl rfl rfl fun a hF => ckr hF hS rfl (specValues_c (hS.rd r0)) fun w4 a hS hF => ga 3 hF rfl fun a hF => ?_
 revert hF; intro hF0; refine bsplit (t := 16) hF0 rfl (fun b16 hF => ?_) (fun b16 hF => ?_)
 ·
  clear hF0
  try simp only [decide_eq_true_eq, decide_eq_false_iff_not, Bool.not_eq_true', Bool.not_eq_false'] at b16
  refine ge hK3 hF rfl fun a hF => wc_true (hF.ev rfl) <| rg hF rfl fun a hF => ?_
  refine xr ?_
  refine ret1 rfl hF rfl ⟨congrArg Value.bool (Eq.symm ?_), hS.old⟩
  first
    | exact im_1 b9
    | exact im_2 b16
    | exact im_3 c23
    | exact im_4 hx b38 ((Bool.not_eq_true' _).mp c47)
    | exact im_5 b9 b16 c23 (all_end hall hk (by assumption))
 clear hF0
 try simp only [decide_eq_true_eq, decide_eq_false_iff_not, Bool.not_eq_true', Bool.not_eq_false'] at b16
 refine gB 4 0 hF hS rfl rfl rfl fun a hF => wl_take hF rfl rfl rfl rfl <| gf hK3 1 hF hS rfl rfl rfl fun a hF => ?_
 first | refine wc_dec (hF.ev rfl) (fun c23 => ?_) (fun c23 => ?_) | refine wc_ndec (hF.ev rfl) (fun c23 => ?_) (fun c23 => ?_) | refine wc_b (hF.ev rfl) (fun c23 => ?_) (fun c23 => ?_)
 ·
  refine rg hF rfl fun a hF => ?_
  refine xr ?_
  refine ret1 rfl hF rfl ⟨congrArg Value.bool (Eq.symm ?_), hS.old⟩
  first
    | exact im_1 b9
    | exact im_2 b16
    | exact im_3 c23
    | exact im_4 hx b38 ((Bool.not_eq_true' _).mp c47)
    | exact im_5 b9 b16 c23 (all_end hall hk (by assumption))
 refine wp_skip <| hK2 _ _ <| wp_seq_k fun K7 hK7 => rg hF rfl fun a hF => wp_block <| wp_loop_g (σ := Nat) (fun k a w => k ≤ m.snapshots.length ∧ (m.snapshots.take k).all (fun l => !decide ((0 : Int) < l.length) || valOk c l) = true ∧ Sep W [Box g2 [v0, .slice A_x m.snapshots.length q_x], Box g1 c.enc] w ∧ Fr 48 [(5, vi k), (3, .pointer (some ⟨g2, 0, none⟩)), (2, .pointer (some ⟨g1, 0, none⟩))] a) (fun k => m.snapshots.length - k) 0 ?_ ?_
 · exact ⟨Nat.zero_le _, by simp, hS, (((hF.nil.keep hF (t := 2) rfl).keep hF (t := 3) rfl).keep hF (t := 5) rfl)⟩
 rintro k a w ⟨hk, hall, hS, hF⟩
 refine wp_seq_k fun K9 hK9 => rh 0 hF hS rfl rfl rfl fun a hF => ?_
 first | refine wc_dec (hF.ev rfl) (fun c28 => ?_) (fun c28 => ?_) | refine wc_ndec (hF.ev rfl) (fun c28 => ?_) (fun c28 => ?_) | refine wc_b (hF.ev rfl) (fun c28 => ?_) (fun c28 => ?_)
 ·
  have hlt : k < m.snapshots.length := by omega
  obtain ⟨x, hx⟩ : ∃ x, m.snapshots[k]? = some x := ⟨_, List.getElem?_eq_getElem hlt⟩
  refine wp_skip <| hK9 _ _ <| wp_seq_k fun K11 hK11 => wp_block <| wp_seq_k fun K12 hK12 => wp_region_calm (by kernel_rfl) (by kernel_rfl) <| qb 3 0 hF tk hS rfl rfl rfl fun a hF => ?_
  obtain ⟨g34, o34, m34, q34, cs34, hv34, hm34, hl34, hk34, hz34, hc34⟩ := Rd.idx (r1) hx
  obtain ⟨v34, rfl, hr34⟩ := hk34; obtain ⟨Ae34, qe34, rfl, _, hme34⟩ := hr34.sl; unfold maxLen at hme34
  refine wq hF rfl rfl rfl (fun w_ hB_ => r_index sl34 ((hF.ev rfl).trans hv34) (hF.ev rfl) (by omega) (by omega)) fun a hF => wq hF rfl rfl rfl (fun w_ hB_ => r_load1 sc29 (hF.ev rfl) (cellB (hS.ext hB_).old (hc34 0 _ rfl))) fun a hF => qa 3 hF tk rfl fun a hF => ?_
  revert hF; intro hF0; refine bsplit (t := 38) hF0 rfl (fun b38 hF => ?_) (fun b38 hF => ?_)
  ·
   clear hF0
   try simp only [decide_eq_true_eq, decide_eq_false_iff_not, Bool.not_eq_true', Bool.not_eq_false'] at b38
   refine qb 2 1 hF tk hS rfl rfl rfl fun a hF => wq_take hF rfl rfl rfl rfl <| qb 2 0 hF tk hS rfl rfl rfl fun a hF => wq_take hF rfl rfl rfl rfl ?_
   obtain ⟨g43, o43, m43, q43, cs43, hv43, hm43, hl43, hk43, hz43, hc43⟩ := Rd.idx (r1) hx
   obtain ⟨v43, rfl, hr43⟩ := hk43; obtain ⟨Ae43, qe43, rfl, _, hme43⟩ := hr43.sl; unfold maxLen at hme43
   refine wq hF rfl rfl rfl (fun w_ hB_ => r_index sl34 ((hF.ev rfl).trans hv43) (hF.ev rfl) (by omega) (by omega)) fun a hF => wq_take hF rfl rfl rfl rfl <| wq hF rfl rfl rfl (fun w_ hB_ => r_load1 sc29 (hF.ev rfl) (cellB (hS.ext hB_).old (hc43 0 _ rfl))) fun a hF => qk hF rfl (fun w_ hB_ => specValues_c ((hS.ext hB_).rd hr43)) fun a hF => qa 2 hF tk rfl fun a hF => ?_
   refine wpQuiet_nil ?_; intro w5 hB_; have hS := hS.ext hB_
   refine hK12 _ _ ?_
   first | refine wc_dec (hF.ev rfl) (fun c47 => ?_) (fun c47 => ?_) | refine wc_ndec (hF.ev rfl) (fun c47 => ?_) (fun c47 => ?_) | refine wc_b (hF.ev rfl) (fun c47 => ?_) (fun c47 => ?_)
   ·
    refine rg hF rfl fun a hF => ?_
    refine xr ?_
    refine ret1 rfl hF rfl ⟨congrArg Value.bool (Eq.symm ?_), hS.old⟩
    first
      | exact im_1 b9
      | exact im_2 b16
      | exact im_3 c23
      | exact im_4 hx b38 ((Bool.not_eq_true' _).mp c47)
      | exact im_5 b9 b16 c23 (all_end hall hk (by assumption))
   refine wp_skip ?_
   refine xt ?_
   refine hK11 _ _ <| rl hF rfl fun a hF => ?_
   refine xt ?_
   refine ⟨k + 1, ⟨by omega, all_gen hall hx ?_, hS, (((hF.nil.keep hF (t := 2) rfl).keep hF (t := 3) rfl).keepE hF (t := 5) rfl (wk (by omega)))⟩, by omega⟩
   first | (rw [decide_eq_false b38]; rfl) | (have q : valOk c x = true := (by simpa using c47); rw [q, Bool.or_true])
  clear hF0
  try simp only [decide_eq_true_eq, decide_eq_false_iff_not, Bool.not_eq_true', Bool.not_eq_false'] at b38
  refine qa 9 hF tk rfl fun a hF => ?_
  refine wpQuiet_nil ?_; intro w6 hB_; have hS := hS.ext hB_
  refine hK12 _ _ <| wc_false (hF.ev rfl) <| wp_skip ?_
  refine xt ?_
  refine hK11 _ _ <| rl hF rfl fun a hF => ?_
  refine xt ?_
  refine ⟨k + 1, ⟨by omega, all_gen hall hx ?_, hS, (((hF.nil.keep hF (t := 2) rfl).keep hF (t := 3) rfl).keepE hF (t := 5) rfl (wk (by omega)))⟩, by omega⟩
  first | (rw [decide_eq_false b38]; rfl) | (have q : valOk c x = true := (by simpa using c47); rw [q, Bool.or_true])
 refine wp_exit ?_
 refine xt ?_
 refine hK7 _ _ <| rg hF rfl fun a hF => ?_
 refine xr ?_
 refine ret1 rfl hF rfl ⟨congrArg Value.bool (Eq.symm ?_), hS.old⟩
 first
   | exact im_1 b9
   | exact im_2 b16
   | exact im_3 c23
   | exact im_4 hx b38 ((Bool.not_eq_true' _).mp c47)
   | exact im_5 b9 b16 c23 (all_end hall hk (by assumption))
theorem implIsModel_c {W : World} {c : Config} {m : Model} {cs : List Value} (hm : modelEK.K W m cs) : Calls Tryz.prog 13 #[.agg c.enc.toArray, .agg cs.toArray] W (Ret fun v w' => v = .bool (isModel c m) ∧ Below W.heap.size W w') := by
 refine cfr Tryz.func13 Tryz.ntmps13 fun a hF => ?_
 obtain ⟨v0, v1, rfl, r0, r1⟩ := hm
 obtain ⟨A_x, q_x, rfl, hq_x, hn_x⟩ := r1.sl; unfold maxLen at hn_x
 have hS := Sep.refl W
 refine ws fun K1 hK1 => wl_box (cs := [_, _, _, _, _, _]) hF hS rfl (hF.ev rfl) rfl fun g1 w1 a hS _ hF => wl_box (cs := [_, _]) hF hS rfl (hF.ev rfl) rfl fun g2 w2 a hS _ hF => ge hK1 hF rfl fun a hF => ws fun K2 hK2 => gB 1 1 hF hS rfl rfl rfl fun a hF => ckr hF hS rfl (implIsConfig_c c) fun w3 a hS hF => ?_
 refine ga 1 hF rfl fun a hF => ?_
 revert hF; intro hF0; refine bsplit (t := 7) hF0 rfl (fun b7 hF => ?_) (fun b7 hF => ?_)
 ·
  clear hF0
  try simp only [decide_eq_true_eq, decide_eq_false_iff_not, Bool.not_eq_true', Bool.not_eq_false'] at b7
  refine gB 2 1 hF hS rfl rfl rfl fun a hF => wl_take hF rfl rfl rfl rfl <| gB 1 0 hF hS rfl rfl rfl fun a hF => ckr hF hS rfl (implValues_c (hS.rd r0)) fun w4 a hS hF => ga 2 hF rfl fun a hF => ?_
  revert hF; intro hF0; refine bsplit (t := 13) hF0 rfl (fun b13 hF => ?_) (fun b13 hF => ?_)
  ·
   clear hF0
   try simp only [decide_eq_true_eq, decide_eq_false_iff_not, Bool.not_eq_true', Bool.not_eq_false'] at b13
   refine gB 4 0 hF hS rfl rfl rfl fun a hF => wl_take hF rfl rfl rfl rfl <| gB 4 1 hF hS rfl rfl rfl fun a hF => ?_
   revert hF; intro hF0; refine bsplit (t := 21) hF0 rfl (fun b21 hF => ?_) (fun b21 hF => ?_)
   ·
    clear hF0
    try simp only [decide_eq_true_eq, decide_eq_false_iff_not, Bool.not_eq_true', Bool.not_eq_false'] at b21
    refine gB 2 0 hF hS rfl rfl rfl fun a hF => wl_take hF rfl rfl rfl rfl ?_
    refine wl hF rfl rfl rfl (r_makeFunc (by simp only [List.map_toArray, List.map_cons, List.map_nil]; rw [hF.ev rfl])) fun a hF => ?_
    refine ckr hF hS rfl (containsFuncS_c (p := fun l => decide ((0 : Int) < l.length) && !valOk c l) (cap := #[.pointer (some ⟨g1, 0, none⟩)]) (hS.rd r1) (by kernel_rfl) (fun w_ v x hB hr => by rw [app_one]; exact isModel1_c hr (fun j u hu => cellB hB (hS.box_rd (i := 1) rfl j u hu)))) fun w5 a hS hF => ?_
    refine ge hK2 hF rfl fun a hF => ?_
    refine xr ?_
    refine ret1 rfl hF rfl ⟨congrArg Value.bool (Eq.symm ?_), hS.old⟩
    first
      | exact im_1 b7
      | exact im_2 b13
      | exact im_3 b21
      | exact im_6 b7 b13 b21
   clear hF0
   try simp only [decide_eq_true_eq, decide_eq_false_iff_not, Bool.not_eq_true', Bool.not_eq_false'] at b21
   refine ge hK2 hF rfl fun a hF => ?_
   refine xr ?_
   refine ret1 rfl hF rfl ⟨congrArg Value.bool (Eq.symm ?_), hS.old⟩
   first
     | exact im_1 b7
     | exact im_2 b13
     | exact im_3 b21
     | exact im_6 b7 b13 b21
  clear hF0
  try simp only [decide_eq_true_eq, decide_eq_false_iff_not, Bool.not_eq_true', Bool.not_eq_false'] at b13
  refine ge hK2 hF rfl fun a hF => ?_
  refine xr ?_
  refine ret1 rfl hF rfl ⟨congrArg Value.bool (Eq.symm ?_), hS.old⟩
  first
    | exact im_1 b7
    | exact im_2 b13
    | exact im_3 b21
    | exact im_6 b7 b13 b21
 clear hF0
 try simp only [decide_eq_true_eq, decide_eq_false_iff_not, Bool.not_eq_true', Bool.not_eq_false'] at b7
 refine ge hK2 hF rfl fun a hF => ?_
 refine xr ?_
 refine ret1 rfl hF rfl ⟨congrArg Value.bool (Eq.symm ?_), hS.old⟩
 first
   | exact im_1 b7
   | exact im_2 b13
   | exact im_3 b21
   | exact im_6 b7 b13 b21
end Go.Proofs.YtbgacfdnmbhloaaGreat.Wk
