/- Walks: new states, new machines. -/
import Derived.Test.YtjloiphocdaahaaChecked
import Derived.Test.YtjloiphocdaahaaWkV
import Derived.Test.YtjloiphocdaahaaFactsE
namespace Go.Proofs.Ytjloiphocdaahaa.Wk
open Go Go.RowKit Sl
set_option linter.unusedVariables false
set_option linter.unusedSimpArgs false
set_option maxRecDepth 20000

def newCells (c : Config) : List Int := if c.ok then (List.replicate (cellCount c).toNat 0).set 0 1 else []
def zeroState : Sl.State := ⟨⟨0, 0, 0, 0, 0, 0⟩, [], [], [], 0, 0, 0, 0⟩
def zeroMachine : Sl.Machine := ⟨zeroState, [], [], [], 0⟩
def newState (c : Config) : Sl.State := if c.ok then ⟨c, newCells c, List.replicate c.capacity.toNat 0, List.replicate c.threads.toNat default, 0, 0, 0, 0⟩ else zeroState
def newMachine (c : Config) (ps : List (List Sl.Op)) : Sl.Machine × Bool := if progsOk c ps = true then (⟨newState c, ps, List.replicate c.threads.toNat 0, [], 0⟩, true) else (zeroMachine, false)
theorem _root_.Go.Proofs.Ytjloiphocdaahaa.Sl.Sep.nilpart {α : Type} {ek : EK α} {x : α} {vs : List Slv} {w0 w : World} {l : List Res} (h : Sep w0 l w) (hin : Sat (ek.inner x vs) (fun _ => False) w) : Sep w0 (Part ek x vs :: l) w := h.new (Below.refl _ _) (hin.mono (fun k hk => hk.elim))
theorem _root_.Go.Proofs.Ytjloiphocdaahaa.Sl.Sep.own_nilA {α : Type} {w0 w : World} {l : List Res} (h : Sep w0 l w) (ek : EK α) (A : Option Addr) : Sep w0 (Own ek (.slice A 0 0) [] :: l) w := h.new (Below.refl _ _) ⟨A, 0, 0, rfl, rfl, Nat.zero_le _, .inl ⟨rfl, rfl⟩⟩
theorem nil_sat {α : Type} (ek : EK α) {l : List Res} {w : World} (h : Sat l (fun _ => False) w) : Sat (Own ek (sv (none, 0, 0)) [] :: l) (fun _ => False) w := Sat.cons (S1 := fun _ => False) (S' := fun _ => False) h (own_nil ek _ w) (fun k hk => hk) (fun k hk => hk) (fun k hk _ => hk)
theorem state_inner0 (w : World) : Sat (stateEK.inner zeroState []) (fun _ => False) w := nil_sat intEK (nil_sat intEK (nil_sat threadEK (Sat.nil _ _)))
theorem machine_inner0 (w : World) : Sat (machineEK.inner zeroMachine []) (fun _ => False) w := nil_sat intEK (nil_sat intEK (nil_sat threadEK (nil_sat (sliceEK opEK) (nil_sat intEK (nil_sat eventEK (Sat.nil _ _))))))
theorem newCells_len {c : Config} (h : c.ok) : (newCells c).length = (cellCount c).toNat := by unfold newCells; rw [if_pos h]; simp
theorem rep_nx {α : Type} (k : Nat) (x : α) : List.replicate k x ++ [x] = List.replicate (k + 1) x := List.replicate_succ'.symm
theorem newState_size {c : Config} : (newState c).size ≤ 200 ∧ (newState c).cnt ≤ 14 * 200 := by
  have h : (newState c).size ≤ 200 := by
    unfold newState
    split
    · rename_i hok
      have hc := newCells_len hok
      have hb := hok
      unfold Config.ok at hb
      have hcc := cellCount_eq hok
      have hz : ∀ n : Nat, crow Sl.Thread.size (List.replicate n default) = 0 := fun n => by
        induction n with
        | zero => rfl
        | succ n ih => rw [List.replicate_succ]; simp only [crow, ih]; rfl
      unfold Sl.State.size
      simp only [List.length_replicate, hz, hc]
      omega
    · unfold zeroState Sl.State.size; simp [crow]
  have := state_cnt (newState c)
  omega

set_option maxHeartbeats 4000000 in
set_option maxRecDepth 20000 in
theorem specNewCells_c {W : World} (c : Config) : Calls Try.prog 101 #[.agg c.enc.toArray] W (Ret (Mk W (fun z : Slv => sv z) (fun z => [Own intEK (sv z) (newCells c)]))) := by
  refine calls_fr Try.func101 rfl Try.ntmps101 rfl ?_
  intro a hF
  have hS := Sep.refl W
  refine ws fun K1 hK1 => ?_
  refine wl_box (cs := [_, _, _, _, _, _]) hF hS rfl (hF.ev rfl) rfl ?_; clear hF a; intro g1 w1 a hS_ hB_ hF; replace hS := hS_; clear hS_ hB_
  refine wl_mvs (A := [_]) hF rfl ?_; clear hF a; intro a hF
  refine wl_nil (hK1 _ _ ?_)
  refine wp_seq_k fun K2 hK2 => ?_
  refine ws fun K3 hK3 => ?_
  refine wl hF rfl rfl rfl (r_loadn ag34 (hF.ev rfl) (hS.box_rd (i := 0) rfl) sz34) ?_; clear hF a; intro a hF
  refine wl_call hF rfl rfl rfl (r_call1 en60 (hF.ev rfl)) (specIsConfig_c _) ?_; clear hF a; rintro v w2 a ⟨rfl, hB_⟩ hF; replace hS := hS.ext hB_; clear hB_
  refine wl hF rfl rfl rfl (r_not (hF.ev rfl)) ?_; clear hF a; intro a hF
  refine wl_nil (hK3 _ _ ?_)
  refine wc_fx (t := 6) hF rfl ?_ ?_ <;> clear hF <;> intro c6 hF <;> try simp only [zb1, zb2, zb3, zb4, zb5, zb6, zb7, zb8] at c6
  ·
    refine ws fun K4 hK4 => ?_
    refine wl_bslice intEK [] [] rfl hF hS rfl mk24 rfl trivial rfl rfl rfl rfl ?_; clear hF a; intro gl_7 w3 a hS_ hF; replace hS := hS_; clear hS_
    refine wl_mvs (A := [_]) hF rfl ?_; clear hF a; intro a hF
    refine wl_nil (hK4 _ _ ?_)
    refine wp_ret ?_
    try simp only [Exit.then, Exit.inBlock, ↓reduceIte]
    first
      | (refine ret1 rfl hF rfl ⟨(_, _, _), rfl, ?_⟩; rw [show newCells c = [] from if_neg c6]; exact hS.pick [0] (by decide) rfl)
      | (refine ret1 rfl hF rfl ⟨(_, _, _), rfl, ?_⟩; rw [show newCells c = _ from if_pos c6]; exact hS.pick [99] (by decide) rfl)
  have hb := c6; unfold Config.ok at hb
  have hcc := cellCount_eq c6
  refine wp_skip ?_
  refine hK2 _ _ ?_
  refine ws fun K5 hK5 => ?_
  refine wl hF rfl rfl rfl (r_loadn ag34 (hF.ev rfl) (hS.box_rd (i := 0) rfl) sz34) ?_; clear hF a; intro a hF
  refine wl_call hF rfl rfl rfl (r_call1 en129 (hF.ev rfl)) (specCellCount_c _) ?_; clear hF a; rintro v w4 a ⟨rfl, hB_⟩ hF; replace hS := hS.ext hB_; clear hB_
  refine wl_make intEK 0 [] hF hS rfl mk24 rfl (fun _ => Sat.nil _ _) ((hF.ev rfl).trans (show vi (cellCount c) = Value.int .i64 ((Int.toNat (cellCount c) : Nat) : Int) from by rw [Int.toNat_of_nonneg (by omega)])) (by omega) (by unfold maxLen; omega) ?_; clear hF a; intro gm_10 w5 a hS_ hF; replace hS := hS_; clear hS_
  refine wl_mvs (A := [_]) hF rfl ?_; clear hF a; intro a hF
  refine wl_nil (hK5 _ _ ?_)
  refine ws fun K6 hK6 => ?_
  refine wl_mvs (A := [_]) hF rfl ?_; clear hF a; intro a hF
  refine wl_call hF rfl rfl rfl (r_call0 en143 ) (specClockCell_c) ?_; clear hF a; rintro v w6 a ⟨rfl, hB_⟩ hF; replace hS := hS.ext hB_; clear hB_
  obtain ⟨g13, o13, m13, q13, hv13, hm13, hl13, hc13⟩ := Rd.atF ((hS.own_rd (i := 0) rfl)) (a := a) (X := .tmp 12) (hF.ev rfl) (by omega) (by simp; omega)
  refine wl hF rfl rfl rfl (r_index sl24 ((hF.ev rfl).trans hv13) (hF.ev rfl) (by omega) (by first | omega | (simp at hm13; omega))) ?_; clear hF a; intro a hF
  refine wl_istore (q := 0) hF hS rfl hv13 (by omega) (by omega) sz3 (hF.ev rfl) rfl ec ?_; intro w7 hS_; replace hS := hS_; clear hS_; dsimp only [List.set] at hS
  refine wl_nil (hK6 _ _ ?_)
  refine ws fun K7 hK7 => ?_
  refine wl_mvs (A := [_, _]) hF rfl ?_; clear hF a; intro a hF
  refine wl_nil (hK7 _ _ ?_)
  refine wp_ret ?_
  try simp only [Exit.then, Exit.inBlock, ↓reduceIte]
  first
    | (refine ret1 rfl hF rfl ⟨(_, _, _), rfl, ?_⟩; rw [show newCells c = [] from if_neg c6]; exact hS.pick [99] (by decide) rfl)
    | (refine ret1 rfl hF rfl ⟨(_, _, _), rfl, ?_⟩; rw [show newCells c = _ from if_pos c6]; exact hS.pick [0] (by decide) rfl)

set_option maxHeartbeats 4000000 in
set_option maxRecDepth 20000 in
theorem implNewCells_c {W : World} (c : Config) : Calls Try.prog 108 #[.agg c.enc.toArray] W (Ret (Mk W (fun z : Slv => sv z) (fun z => [Own intEK (sv z) (newCells c)]))) := by
  refine calls_fr Try.func108 rfl Try.ntmps108 rfl ?_
  intro a hF
  have hS := Sep.refl W
  refine ws fun K1 hK1 => ?_
  refine wl_box (cs := [_, _, _, _, _, _]) hF hS rfl (hF.ev rfl) rfl ?_; clear hF a; intro g1 w1 a hS_ hB_ hF; replace hS := hS_; clear hS_ hB_
  refine wl_mvs (A := [_]) hF rfl ?_; clear hF a; intro a hF
  refine wl_nil (hK1 _ _ ?_)
  refine wp_seq_k fun K2 hK2 => ?_
  refine ws fun K3 hK3 => ?_
  refine wl hF rfl rfl rfl (r_loadn ag34 (hF.ev rfl) (hS.box_rd (i := 0) rfl) sz34) ?_; clear hF a; intro a hF
  refine wl_call hF rfl rfl rfl (r_call1 en104 (hF.ev rfl)) (implIsConfig_c _) ?_; clear hF a; rintro v w2 a ⟨rfl, hB_⟩ hF; replace hS := hS.ext hB_; clear hB_
  refine wl hF rfl rfl rfl (r_not (hF.ev rfl)) ?_; clear hF a; intro a hF
  refine wl_nil (hK3 _ _ ?_)
  refine wc_fx (t := 6) hF rfl ?_ ?_ <;> clear hF <;> intro c6 hF <;> try simp only [zb1, zb2, zb3, zb4, zb5, zb6, zb7, zb8] at c6
  ·
    refine ws fun K4 hK4 => ?_
    refine wl_mvs (A := [_]) hF rfl ?_; clear hF a; intro a hF
    refine wl_nil (hK4 _ _ ?_)
    refine wp_ret ?_
    try simp only [Exit.then, Exit.inBlock, ↓reduceIte]
    first
      | (refine ret1 rfl hF rfl ⟨(_, _, _), rfl, ?_⟩; rw [show newCells c = [] from if_neg c6]; exact (hS.own_nil intEK).pick [0] (by decide) rfl)
      | (refine ret1 rfl hF rfl ⟨(_, _, _), rfl, ?_⟩; rw [show newCells c = _ from if_pos c6]; exact hS.pick [99] (by decide) rfl)
  have hb := c6; unfold Config.ok at hb
  have hcc := cellCount_eq c6
  refine wp_skip ?_
  refine hK2 _ _ ?_
  refine ws fun K5 hK5 => ?_
  refine wl hF rfl rfl rfl (r_loadn ag34 (hF.ev rfl) (hS.box_rd (i := 0) rfl) sz34) ?_; clear hF a; intro a hF
  refine wl_call hF rfl rfl rfl (r_call1 en117 (hF.ev rfl)) (implCellCount_c _) ?_; clear hF a; rintro v w3 a ⟨rfl, hB_⟩ hF; replace hS := hS.ext hB_; clear hB_
  refine wl_make intEK 0 [] hF hS rfl mk24 rfl (fun _ => Sat.nil _ _) ((hF.ev rfl).trans (show vi (cellCount c) = Value.int .i64 ((Int.toNat (cellCount c) : Nat) : Int) from by rw [Int.toNat_of_nonneg (by omega)])) (by omega) (by unfold maxLen; omega) ?_; clear hF a; intro gm_9 w4 a hS_ hF; replace hS := hS_; clear hS_
  refine wl_mvs (A := [_]) hF rfl ?_; clear hF a; intro a hF
  refine wl_nil (hK5 _ _ ?_)
  refine ws fun K6 hK6 => ?_
  refine wl_mvs (A := [_]) hF rfl ?_; clear hF a; intro a hF
  refine wl_call hF rfl rfl rfl (r_call0 en118 ) (implClockCell_c) ?_; clear hF a; rintro v w5 a ⟨rfl, hB_⟩ hF; replace hS := hS.ext hB_; clear hB_
  obtain ⟨g12, o12, m12, q12, hv12, hm12, hl12, hc12⟩ := Rd.atF ((hS.own_rd (i := 0) rfl)) (a := a) (X := .tmp 11) (hF.ev rfl) (by omega) (by simp; omega)
  refine wl hF rfl rfl rfl (r_index sl24 ((hF.ev rfl).trans hv12) (hF.ev rfl) (by omega) (by first | omega | (simp at hm12; omega))) ?_; clear hF a; intro a hF
  refine wl_istore (q := 0) hF hS rfl hv12 (by omega) (by omega) sz3 (hF.ev rfl) rfl ec ?_; intro w6 hS_; replace hS := hS_; clear hS_; dsimp only [List.set] at hS
  refine wl_nil (hK6 _ _ ?_)
  refine ws fun K7 hK7 => ?_
  refine wl_mvs (A := [_, _]) hF rfl ?_; clear hF a; intro a hF
  refine wl_nil (hK7 _ _ ?_)
  refine wp_ret ?_
  try simp only [Exit.then, Exit.inBlock, ↓reduceIte]
  first
    | (refine ret1 rfl hF rfl ⟨(_, _, _), rfl, ?_⟩; rw [show newCells c = [] from if_neg c6]; exact (hS.own_nil intEK).pick [0] (by decide) rfl)
    | (refine ret1 rfl hF rfl ⟨(_, _, _), rfl, ?_⟩; rw [show newCells c = _ from if_pos c6]; exact hS.pick [0] (by decide) rfl)

set_option maxHeartbeats 4000000 in
set_option maxRecDepth 20000 in
theorem specNewState_c {W : World} (c : Config) : Calls Try.prog 61 #[.agg c.enc.toArray] W (Ret (Mk W (fun vs => .agg (stateEK.cells (newState c) vs).toArray) (fun vs => [Part stateEK (newState c) vs]))) := by
  refine calls_fr Try.func61 rfl Try.ntmps61 rfl ?_
  intro a hF
  have hS := Sep.refl W
  refine ws fun K1 hK1 => ?_
  refine wl_box (cs := [_, _, _, _, _, _]) hF hS rfl (hF.ev rfl) rfl ?_; clear hF a; intro g1 w1 a hS_ hB_ hF; replace hS := hS_; clear hS_ hB_
  refine wl_alloc hF hS rfl zr37 ?_; clear hF a; intro g2 w2 a hS_ hB_ hF; replace hS := hS_; clear hS_ hB_
  refine wl_nil (hK1 _ _ ?_)
  refine wp_seq_k fun K2 hK2 => ?_
  refine ws fun K3 hK3 => ?_
  refine wl hF rfl rfl rfl (r_loadn ag34 (hF.ev rfl) (hS.box_rd (i := 1) rfl) sz34) ?_; clear hF a; intro a hF
  refine wl_call hF rfl rfl rfl (r_call1 en60 (hF.ev rfl)) (specIsConfig_c _) ?_; clear hF a; rintro v w3 a ⟨rfl, hB_⟩ hF; replace hS := hS.ext hB_; clear hB_
  refine wl hF rfl rfl rfl (r_not (hF.ev rfl)) ?_; clear hF a; intro a hF
  refine wl_nil (hK3 _ _ ?_)
  refine wc_fx (t := 7) hF rfl ?_ ?_ <;> clear hF <;> intro c7 hF <;> try simp only [zb1, zb2, zb3, zb4, zb5, zb6, zb7, zb8] at c7
  ·
    refine ws fun K4 hK4 => ?_
    refine wl hF rfl rfl rfl (r_build (bd37) trivial) ?_; clear hF a; intro a hF
    refine wl_storew hF hS (i := 0) rfl (hF.ev rfl) (hF.ev rfl) sz37 rfl rfl ?_; intro w4 hS_; replace hS := hS_; clear hS_; dsimp only [List.set, Nat.reduceAdd] at hS
    refine wl_nil (hK4 _ _ ?_)
    refine wp_ret ?_
    try simp only [Exit.then, Exit.inBlock, ↓reduceIte]
    first
      | (refine ret1c rfl ag37 hF hS (i := 0) rfl sz37 rfl ⟨[], ?_, ?_⟩
         · rw [show newState c = zeroState from if_neg c7]; rfl
         · rw [show newState c = zeroState from if_neg c7]; exact (Sep.nilpart (hS.pick [] (by decide) rfl) (state_inner0 _)))
      | (obtain rfl : k = c.threads.toNat := by omega
         have e : newState c = ⟨c, newCells c, List.replicate c.capacity.toNat 0, List.replicate c.threads.toNat default, 0, 0, 0, 0⟩ := if_pos c7
         refine ret1c rfl ag37 hF hS (i := 0) rfl sz37 rfl ⟨[s11, (some ⟨gm_14, 0, none⟩, c.capacity.toNat, c.capacity.toNat), q], ?_, ?_⟩
         · rw [e]; rfl
         · rw [e]; exact hS.part_of [99, 99, 99] (by decide) rfl)
  have hb := c7; unfold Config.ok at hb
  refine wp_skip ?_
  refine hK2 _ _ ?_
  refine wp_seq_k fun K5 hK5 => ?_
  refine wp_region_todo (is := [0, 1, 3, 4, 2, 5, 6, 8]) [(7, 3, [.int .i64 0, .int .i64 0, .int .i64 0, .int .i64 0, .int .i64 0, .int .i64 0, .slice none 0 0, .slice none 0 0, .slice none 0 0, .int .i64 0, .int .i64 0, .int .i64 0, .int .i64 0])] [8] (by kernel_rfl) hF hS ⟨⟨⟨_, _, _, rfl, zr37⟩, trivial⟩, by decide, by decide, by decide⟩ (by kernel_rfl) ?_; clear hF; intro hl_ wd hSd
  refine todo_load [6, 8] hl_ (by kernel_rfl) rfl rfl rfl rfl rfl (fun a w_ hF hB_ => r_loadn ag34 (hF.ev rfl) ((hSd.ext hB_).box_rd (i := 1) rfl) sz34) ?_
  refine todo_load [2, 6, 8] hl_ (by kernel_rfl) rfl rfl rfl rfl rfl (fun a w_ hF hB_ => r_loadn ag34 (hF.ev rfl) ((hSd.ext hB_).box_rd (i := 1) rfl) sz34) ?_
  refine todo_pure hl_ (by kernel_rfl) rfl rfl rfl rfl rfl (fun a w_ hF => r_field fo34_2 (hF.ev rfl)) ?_
  refine todo_load [5, 6, 8] hl_ (by kernel_rfl) rfl rfl rfl rfl rfl (fun a w_ hF hB_ => r_load1 sc3 (hF.ev rfl) ((hSd.ext hB_).box (i := 1) rfl rfl)) ?_
  refine todo_fork [(2, [5, 6, 8]), (5, [2, 6, 8])] hl_ rfl (by kernel_rfl) (List.forall_mem_cons.2 ⟨?_, List.forall_mem_cons.2 ⟨?_, fun _ h_ => nomatch h_⟩⟩)
  ·
    refine op_mk rfl rfl rfl rfl rfl rfl (fun a w_ hF => r_call1 en101 (hF.ev rfl)) (fun w_ hS => specNewCells_c _) ?_; rintro s11
    refine todo_op hl_ rfl (by kernel_rfl) rfl rfl rfl rfl rfl (fun a w_ hF hS => r_make0 intEK 0 [] mk24 rfl (fun _ => Sat.nil _ _) ((hF.ev rfl).trans (show vi (c.capacity) = Value.int .i64 ((Int.toNat (c.capacity) : Nat) : Int) from by rw [Int.toNat_of_nonneg (by omega)])) (by omega) (by unfold maxLen; omega)) ?_; intro gm_14
    refine todo_pure hl_ (by kernel_rfl) rfl rfl rfl rfl rfl (fun a w_ hF => r_build (bd37_0_1_2 _ _ _ _ _ _ _ _ _ _ _ _) ⟨rfl, (hF.ev rfl), rfl, (hF.ev rfl), rfl, (hF.ev rfl), trivial⟩) ?_
    refine todo_fin hl_ rfl (by kernel_rfl) (tl := [_]) rfl ?_; clear hS a; intro a w6 hF hA_
    obtain ⟨g3, hS, he_0⟩ := hA_.open1; clear hA_
    replace hF := hF.more he_0; clear he_0
    clear hl_; try clear hSd; try clear wd
    try dsimp only [List.cons_append, List.nil_append, List.set] at hS
    refine wl_storew hF hS (i := 0) rfl (hF.ev rfl) (hF.ev rfl) sz37 rfl rfl ?_; intro w7 hS_; replace hS := hS_; clear hS_; dsimp only [List.set, Nat.reduceAdd] at hS
    refine wl_nil ⟨rfl, ?_⟩
    refine hK5 _ _ ?_
    refine wp_seq_k fun K6 hK6 => ?_
    refine ws fun K7 hK7 => ?_
    refine wl_mvs (A := [_]) hF rfl ?_; clear hF a; intro a hF
    refine wl_nil (hK7 _ _ ?_)
    refine wp_block ?_
    replace hS := hS.own_nil threadEK
    replace hS := hS.pull (p := 1) rfl; dsimp only [List.eraseIdx] at hS
    replace hS := hS.pull (p := 1) rfl; dsimp only [List.eraseIdx] at hS
    have hL_ := (((hF.nil.keep hF (t := 3) rfl).keep hF (t := 2) rfl).keep hF (t := 1) rfl)
    refine wp_loop_m (σ := Nat × Slv) (fun z L_ => (4, vi z.1) :: L_) (fun z l_ => (Own threadEK (sv z.2) (List.replicate z.1 default)) :: (Box g3 [vi c.threads, vi c.keys, vi c.capacity, vi c.batch, vi c.policy, vi c.clockMax, sv s11, .slice (some ⟨gm_14, 0, none⟩) c.capacity.toNat c.capacity.toNat, sv z.2, vi 0, vi 0, vi 0, vi 0]) :: l_) (fun z => ((z.1 : Int) ≤ c.threads)) (fun z => c.threads.toNat - z.1) (0, (none, 0, 0)) (hS) (hL_.keepE hF (t := 4) rfl rfl) ?_ ?_
    · exact by dsimp only; omega
    clear hF hS hL_ a
    rintro ⟨k, q⟩ a w8 hk hS hF; try dsimp only at hF; try dsimp only at hS; try dsimp only at hk
    refine wp_seq_k fun K8 hK8 => ?_
    refine ws fun K9 hK9 => ?_
    refine wl_mvs (A := [_]) hF rfl ?_; clear hF a; intro a hF
    refine wl hF rfl rfl rfl (r_field fo34_0 (hF.ev rfl)) ?_; clear hF a; intro a hF
    refine wl hF rfl rfl rfl (r_load1 sc3 (hF.ev rfl) (hS.box (i := 5) rfl rfl)) ?_; clear hF a; intro a hF
    refine wl hF rfl rfl rfl (r_lss (hF.ev rfl) (hF.ev rfl)) ?_; clear hF a; intro a hF
    refine wl_nil (hK9 _ _ ?_)
    refine wc_fx (t := 19) hF rfl ?_ ?_ <;> clear hF <;> intro c19 hF <;> try simp only [zb1, zb2, zb3, zb4, zb5, zb6, zb7, zb8] at c19
    ·
      refine wp_skip ?_
      refine hK8 _ _ ?_
      refine wp_seq_k fun K10 hK10 => ?_
      refine wp_block ?_
      refine wp_region_lit ?_
      refine wl hF rfl rfl rfl (r_field fo37_3 (hF.ev rfl)) ?_; clear hF a; intro a hF
      refine wl hF rfl rfl rfl (r_load1 sc35 (hF.ev rfl) (hS.box (i := 1) rfl rfl)) ?_; clear hF a; intro a hF
      refine wl hF rfl rfl rfl (r_build (bd112) trivial) ?_; clear hF a; intro a hF
      replace hS := hS.nilpart (ek := threadEK) (x := default) (vs := []) (thread_inner0 _)
      refine wl_bslice (rawEK threadEK.sz) [.agg (threadEK.cells (default) []).toArray] [raw threadEK (default) []] rfl hF hS rfl mk35 rfl ⟨rfl, (hF.ev rfl), trivial⟩ rfl rfl rfl rfl ?_; clear hF a; intro gl_25 w9 a hS_ hF; replace hS := hS_; clear hS_
      have hu_ := hS.own_rd (i := 0) rfl
      replace hS := hS.pull (p := 1) rfl; dsimp only [List.eraseIdx] at hS
      replace hS := hS.pull (p := 2) rfl; dsimp only [List.eraseIdx] at hS
      refine wl_appendn (ek := threadEK) hF hS rfl hu_ mk35 rfl (hF.ev rfl) (hF.ev rfl) (by simp; omega) (by unfold maxLen; simp; omega) ?_; clear hF a hu_; intro A_26 c_26 w10 a hS_ hF; replace hS := hS_; clear hS_
      refine wl hF rfl rfl rfl (r_field fo37_3 (hF.ev rfl)) ?_; clear hF a; intro a hF
      refine wl_store hF hS (i := 2) rfl sz35 (hF.ev rfl) (hF.ev rfl) rfl rfl ?_; intro w11 hS_; replace hS := hS_; clear hS_; dsimp only [List.set, Nat.reduceAdd] at hS
      refine wl_nil ?_
      simp only [Exit.then, Exit.inBlock, ↓reduceIte]
      refine hK10 _ _ ?_
      refine wp_region_lit ?_
      refine wl_mvs (A := [_]) hF rfl ?_; clear hF a; intro a hF
      refine wl hF rfl rfl rfl (r_add (hF.ev rfl) ec) ?_; clear hF a; intro a hF
      refine wl_mvs (A := [_]) hF rfl ?_; clear hF a; intro a hF
      refine wl_nil ?_
      try simp only [Exit.then, Exit.inBlock, ↓reduceIte]
      rw [rep_nx] at hS
      refine ⟨(k + 1, (_, _, _)), (by dsimp only; omega), (hS.pick [0, 2, 3, 4, 5, 6] (by decide) rfl), ((((hF.nil.keep hF (t := 3) rfl).keep hF (t := 2) rfl).keep hF (t := 1) rfl).keepE hF (t := 4) rfl (wk (by omega))), by dsimp only; omega⟩
    refine wp_exit ?_
    simp only [Exit.then, Exit.inBlock, ↓reduceIte]
    refine hK6 _ _ ?_
    refine ws fun K11 hK11 => ?_
    refine wl hF rfl rfl rfl (r_loadn ag37 (hF.ev rfl) (hS.box_rd (i := 1) rfl) sz37) ?_; clear hF a; intro a hF
    refine wl_storew hF hS (i := 4) rfl (hF.ev rfl) (hF.ev rfl) sz37 rfl rfl ?_; intro w12 hS_; replace hS := hS_; clear hS_; dsimp only [List.set, Nat.reduceAdd] at hS
    refine wl_nil (hK11 _ _ ?_)
    refine wp_ret ?_
    try simp only [Exit.then, Exit.inBlock, ↓reduceIte]
    first
      | (refine ret1c rfl ag37 hF hS (i := 4) rfl sz37 rfl ⟨[], ?_, ?_⟩
         · rw [show newState c = zeroState from if_neg c7]; rfl
         · rw [show newState c = zeroState from if_neg c7]; exact (Sep.nilpart (hS.pick [] (by decide) rfl) (state_inner0 _)))
      | (obtain rfl : k = c.threads.toNat := by omega
         have e : newState c = ⟨c, newCells c, List.replicate c.capacity.toNat 0, List.replicate c.threads.toNat default, 0, 0, 0, 0⟩ := if_pos c7
         refine ret1c rfl ag37 hF hS (i := 4) rfl sz37 rfl ⟨[s11, (some ⟨gm_14, 0, none⟩, c.capacity.toNat, c.capacity.toNat), q], ?_, ?_⟩
         · rw [e]; rfl
         · rw [e]; exact hS.part_of [3, 2, 0] (by decide) rfl)
  ·
    refine op_op rfl rfl rfl rfl rfl rfl (fun a w_ hF hS => r_make0 intEK 0 [] mk24 rfl (fun _ => Sat.nil _ _) ((hF.ev rfl).trans (show vi (c.capacity) = Value.int .i64 ((Int.toNat (c.capacity) : Nat) : Int) from by rw [Int.toNat_of_nonneg (by omega)])) (by omega) (by unfold maxLen; omega)) ?_; intro gm_14
    refine todo_mk hl_ rfl (by kernel_rfl) rfl rfl rfl rfl rfl (fun a w_ hF => r_call1 en101 (hF.ev rfl)) (fun w_ hS => specNewCells_c _) ?_; rintro s11
    refine todo_pure hl_ (by kernel_rfl) rfl rfl rfl rfl rfl (fun a w_ hF => r_build (bd37_0_1_2 _ _ _ _ _ _ _ _ _ _ _ _) ⟨rfl, (hF.ev rfl), rfl, (hF.ev rfl), rfl, (hF.ev rfl), trivial⟩) ?_
    refine todo_fin hl_ rfl (by kernel_rfl) (tl := [_]) rfl ?_; clear hS a; intro a w14 hF hA_
    obtain ⟨g3, hS, he_0⟩ := hA_.open1; clear hA_
    replace hF := hF.more he_0; clear he_0
    clear hl_; try clear hSd; try clear wd
    try dsimp only [List.cons_append, List.nil_append, List.set] at hS
    refine wl_storew hF hS (i := 0) rfl (hF.ev rfl) (hF.ev rfl) sz37 rfl rfl ?_; intro w15 hS_; replace hS := hS_; clear hS_; dsimp only [List.set, Nat.reduceAdd] at hS
    refine wl_nil ⟨rfl, ?_⟩
    refine hK5 _ _ ?_
    refine wp_seq_k fun K12 hK12 => ?_
    refine ws fun K13 hK13 => ?_
    refine wl_mvs (A := [_]) hF rfl ?_; clear hF a; intro a hF
    refine wl_nil (hK13 _ _ ?_)
    refine wp_block ?_
    replace hS := hS.own_nil threadEK
    replace hS := hS.pull (p := 1) rfl; dsimp only [List.eraseIdx] at hS
    replace hS := hS.pull (p := 1) rfl; dsimp only [List.eraseIdx] at hS
    have hL_ := (((hF.nil.keep hF (t := 3) rfl).keep hF (t := 2) rfl).keep hF (t := 1) rfl)
    refine wp_loop_m (σ := Nat × Slv) (fun z L_ => (4, vi z.1) :: L_) (fun z l_ => (Own threadEK (sv z.2) (List.replicate z.1 default)) :: (Box g3 [vi c.threads, vi c.keys, vi c.capacity, vi c.batch, vi c.policy, vi c.clockMax, sv s11, .slice (some ⟨gm_14, 0, none⟩) c.capacity.toNat c.capacity.toNat, sv z.2, vi 0, vi 0, vi 0, vi 0]) :: l_) (fun z => ((z.1 : Int) ≤ c.threads)) (fun z => c.threads.toNat - z.1) (0, (none, 0, 0)) (hS) (hL_.keepE hF (t := 4) rfl rfl) ?_ ?_
    · exact by dsimp only; omega
    clear hF hS hL_ a
    rintro ⟨k, q⟩ a w16 hk hS hF; try dsimp only at hF; try dsimp only at hS; try dsimp only at hk
    refine wp_seq_k fun K14 hK14 => ?_
    refine ws fun K15 hK15 => ?_
    refine wl_mvs (A := [_]) hF rfl ?_; clear hF a; intro a hF
    refine wl hF rfl rfl rfl (r_field fo34_0 (hF.ev rfl)) ?_; clear hF a; intro a hF
    refine wl hF rfl rfl rfl (r_load1 sc3 (hF.ev rfl) (hS.box (i := 5) rfl rfl)) ?_; clear hF a; intro a hF
    refine wl hF rfl rfl rfl (r_lss (hF.ev rfl) (hF.ev rfl)) ?_; clear hF a; intro a hF
    refine wl_nil (hK15 _ _ ?_)
    refine wc_fx (t := 19) hF rfl ?_ ?_ <;> clear hF <;> intro c19 hF <;> try simp only [zb1, zb2, zb3, zb4, zb5, zb6, zb7, zb8] at c19
    ·
      refine wp_skip ?_
      refine hK14 _ _ ?_
      refine wp_seq_k fun K16 hK16 => ?_
      refine wp_block ?_
      refine wp_region_lit ?_
      refine wl hF rfl rfl rfl (r_field fo37_3 (hF.ev rfl)) ?_; clear hF a; intro a hF
      refine wl hF rfl rfl rfl (r_load1 sc35 (hF.ev rfl) (hS.box (i := 1) rfl rfl)) ?_; clear hF a; intro a hF
      refine wl hF rfl rfl rfl (r_build (bd112) trivial) ?_; clear hF a; intro a hF
      replace hS := hS.nilpart (ek := threadEK) (x := default) (vs := []) (thread_inner0 _)
      refine wl_bslice (rawEK threadEK.sz) [.agg (threadEK.cells (default) []).toArray] [raw threadEK (default) []] rfl hF hS rfl mk35 rfl ⟨rfl, (hF.ev rfl), trivial⟩ rfl rfl rfl rfl ?_; clear hF a; intro gl_25 w17 a hS_ hF; replace hS := hS_; clear hS_
      have hu_ := hS.own_rd (i := 0) rfl
      replace hS := hS.pull (p := 1) rfl; dsimp only [List.eraseIdx] at hS
      replace hS := hS.pull (p := 2) rfl; dsimp only [List.eraseIdx] at hS
      refine wl_appendn (ek := threadEK) hF hS rfl hu_ mk35 rfl (hF.ev rfl) (hF.ev rfl) (by simp; omega) (by unfold maxLen; simp; omega) ?_; clear hF a hu_; intro A_26 c_26 w18 a hS_ hF; replace hS := hS_; clear hS_
      refine wl hF rfl rfl rfl (r_field fo37_3 (hF.ev rfl)) ?_; clear hF a; intro a hF
      refine wl_store hF hS (i := 2) rfl sz35 (hF.ev rfl) (hF.ev rfl) rfl rfl ?_; intro w19 hS_; replace hS := hS_; clear hS_; dsimp only [List.set, Nat.reduceAdd] at hS
      refine wl_nil ?_
      simp only [Exit.then, Exit.inBlock, ↓reduceIte]
      refine hK16 _ _ ?_
      refine wp_region_lit ?_
      refine wl_mvs (A := [_]) hF rfl ?_; clear hF a; intro a hF
      refine wl hF rfl rfl rfl (r_add (hF.ev rfl) ec) ?_; clear hF a; intro a hF
      refine wl_mvs (A := [_]) hF rfl ?_; clear hF a; intro a hF
      refine wl_nil ?_
      try simp only [Exit.then, Exit.inBlock, ↓reduceIte]
      rw [rep_nx] at hS
      refine ⟨(k + 1, (_, _, _)), (by dsimp only; omega), (hS.pick [0, 2, 3, 4, 5, 6] (by decide) rfl), ((((hF.nil.keep hF (t := 3) rfl).keep hF (t := 2) rfl).keep hF (t := 1) rfl).keepE hF (t := 4) rfl (wk (by omega))), by dsimp only; omega⟩
    refine wp_exit ?_
    simp only [Exit.then, Exit.inBlock, ↓reduceIte]
    refine hK12 _ _ ?_
    refine ws fun K17 hK17 => ?_
    refine wl hF rfl rfl rfl (r_loadn ag37 (hF.ev rfl) (hS.box_rd (i := 1) rfl) sz37) ?_; clear hF a; intro a hF
    refine wl_storew hF hS (i := 4) rfl (hF.ev rfl) (hF.ev rfl) sz37 rfl rfl ?_; intro w20 hS_; replace hS := hS_; clear hS_; dsimp only [List.set, Nat.reduceAdd] at hS
    refine wl_nil (hK17 _ _ ?_)
    refine wp_ret ?_
    try simp only [Exit.then, Exit.inBlock, ↓reduceIte]
    first
      | (refine ret1c rfl ag37 hF hS (i := 4) rfl sz37 rfl ⟨[], ?_, ?_⟩
         · rw [show newState c = zeroState from if_neg c7]; rfl
         · rw [show newState c = zeroState from if_neg c7]; exact (Sep.nilpart (hS.pick [] (by decide) rfl) (state_inner0 _)))
      | (obtain rfl : k = c.threads.toNat := by omega
         have e : newState c = ⟨c, newCells c, List.replicate c.capacity.toNat 0, List.replicate c.threads.toNat default, 0, 0, 0, 0⟩ := if_pos c7
         refine ret1c rfl ag37 hF hS (i := 4) rfl sz37 rfl ⟨[s11, (some ⟨gm_14, 0, none⟩, c.capacity.toNat, c.capacity.toNat), q], ?_, ?_⟩
         · rw [e]; rfl
         · rw [e]; exact hS.part_of [2, 3, 0] (by decide) rfl)

set_option maxHeartbeats 4000000 in
set_option maxRecDepth 20000 in
theorem implNewState_c {W : World} (c : Config) : Calls Try.prog 65 #[.agg c.enc.toArray] W (Ret (Mk W (fun vs => .agg (stateEK.cells (newState c) vs).toArray) (fun vs => [Part stateEK (newState c) vs]))) := by
  refine calls_fr Try.func65 rfl Try.ntmps65 rfl ?_
  intro a hF
  have hS := Sep.refl W
  refine ws fun K1 hK1 => ?_
  refine wl_box (cs := [_, _, _, _, _, _]) hF hS rfl (hF.ev rfl) rfl ?_; clear hF a; intro g1 w1 a hS_ hB_ hF; replace hS := hS_; clear hS_ hB_
  refine wl_alloc hF hS rfl zr37 ?_; clear hF a; intro g2 w2 a hS_ hB_ hF; replace hS := hS_; clear hS_ hB_
  refine wl_nil (hK1 _ _ ?_)
  refine wp_seq_k fun K2 hK2 => ?_
  refine ws fun K3 hK3 => ?_
  refine wl hF rfl rfl rfl (r_loadn ag34 (hF.ev rfl) (hS.box_rd (i := 1) rfl) sz34) ?_; clear hF a; intro a hF
  refine wl_call hF rfl rfl rfl (r_call1 en104 (hF.ev rfl)) (implIsConfig_c _) ?_; clear hF a; rintro v w3 a ⟨rfl, hB_⟩ hF; replace hS := hS.ext hB_; clear hB_
  refine wl hF rfl rfl rfl (r_not (hF.ev rfl)) ?_; clear hF a; intro a hF
  refine wl_nil (hK3 _ _ ?_)
  refine wc_fx (t := 5) hF rfl ?_ ?_ <;> clear hF <;> intro c5 hF <;> try simp only [zb1, zb2, zb3, zb4, zb5, zb6, zb7, zb8] at c5
  ·
    refine ws fun K4 hK4 => ?_
    refine wl hF rfl rfl rfl (r_build (bd37) trivial) ?_; clear hF a; intro a hF
    refine wl_storew hF hS (i := 0) rfl (hF.ev rfl) (hF.ev rfl) sz37 rfl rfl ?_; intro w4 hS_; replace hS := hS_; clear hS_; dsimp only [List.set, Nat.reduceAdd] at hS
    refine wl_nil (hK4 _ _ ?_)
    refine wp_ret ?_
    try simp only [Exit.then, Exit.inBlock, ↓reduceIte]
    first
      | (refine ret1c rfl ag37 hF hS (i := 0) rfl sz37 rfl ⟨[], ?_, ?_⟩
         · rw [show newState c = zeroState from if_neg c5]; rfl
         · rw [show newState c = zeroState from if_neg c5]; exact (Sep.nilpart (hS.pick [] (by decide) rfl) (state_inner0 _)))
      | (have e : newState c = ⟨c, newCells c, List.replicate c.capacity.toNat 0, List.replicate c.threads.toNat default, 0, 0, 0, 0⟩ := if_pos c5
         refine ret1c rfl ag37 hF hS (i := 0) rfl sz37 rfl ⟨[s9, (some ⟨gm_12, 0, none⟩, c.capacity.toNat, c.capacity.toNat), (some ⟨gm_15, 0, none⟩, c.threads.toNat, c.threads.toNat)], ?_, ?_⟩
         · rw [e]; rfl
         · rw [e]; exact hS.part_of [99, 99, 99] (by decide) rfl)
  have hb := c5; unfold Config.ok at hb
  refine wp_skip ?_
  refine hK2 _ _ ?_
  refine wp_seq_k fun K5 hK5 => ?_
  refine wp_region_todo (is := [0, 1, 3, 4, 6, 7, 2, 5, 8, 9, 10]) [] [10] (by kernel_rfl) hF hS ⟨trivial, by decide, by decide, by decide⟩ (by kernel_rfl) ?_; clear hF; intro hl_ wd hSd
  refine todo_load [9, 10] hl_ (by kernel_rfl) rfl rfl rfl rfl rfl (fun a w_ hF hB_ => r_loadn ag34 (hF.ev rfl) ((hSd.ext hB_).box_rd (i := 1) rfl) sz34) ?_
  refine todo_load [2, 9, 10] hl_ (by kernel_rfl) rfl rfl rfl rfl rfl (fun a w_ hF hB_ => r_loadn ag34 (hF.ev rfl) ((hSd.ext hB_).box_rd (i := 1) rfl) sz34) ?_
  refine todo_pure hl_ (by kernel_rfl) rfl rfl rfl rfl rfl (fun a w_ hF => r_field fo34_2 (hF.ev rfl)) ?_
  refine todo_load [5, 9, 10] hl_ (by kernel_rfl) rfl rfl rfl rfl rfl (fun a w_ hF hB_ => r_load1 sc3 (hF.ev rfl) ((hSd.ext hB_).box (i := 1) rfl rfl)) ?_
  refine todo_pure hl_ (by kernel_rfl) rfl rfl rfl rfl rfl (fun a w_ hF => r_field fo34_0 (hF.ev rfl)) ?_
  refine todo_load [8, 9, 10] hl_ (by kernel_rfl) rfl rfl rfl rfl rfl (fun a w_ hF hB_ => r_load1 sc3 (hF.ev rfl) ((hSd.ext hB_).box (i := 1) rfl rfl)) ?_
  refine todo_fork [(2, [5, 8, 9, 10]), (5, [2, 8, 9, 10]), (8, [2, 5, 9, 10])] hl_ rfl (by kernel_rfl) (List.forall_mem_cons.2 ⟨?_, List.forall_mem_cons.2 ⟨?_, List.forall_mem_cons.2 ⟨?_, fun _ h_ => nomatch h_⟩⟩⟩)
  ·
    refine op_mk rfl rfl rfl rfl rfl rfl (fun a w_ hF => r_call1 en108 (hF.ev rfl)) (fun w_ hS => implNewCells_c _) ?_; rintro s9
    refine todo_fork [(5, [8, 9, 10]), (8, [5, 9, 10])] hl_ rfl (by kernel_rfl) (List.forall_mem_cons.2 ⟨?_, List.forall_mem_cons.2 ⟨?_, fun _ h_ => nomatch h_⟩⟩)
    ·
      refine op_op rfl rfl rfl rfl rfl rfl (fun a w_ hF hS => r_make0 intEK 0 [] mk24 rfl (fun _ => Sat.nil _ _) ((hF.ev rfl).trans (show vi (c.capacity) = Value.int .i64 ((Int.toNat (c.capacity) : Nat) : Int) from by rw [Int.toNat_of_nonneg (by omega)])) (by omega) (by unfold maxLen; omega)) ?_; intro gm_12
      refine todo_op hl_ rfl (by kernel_rfl) rfl rfl rfl rfl rfl (fun a w_ hF hS => r_make0 threadEK (default : Sl.Thread) [] mk35 rfl thread_inner0 ((hF.ev rfl).trans (show vi (c.threads) = Value.int .i64 ((Int.toNat (c.threads) : Nat) : Int) from by rw [Int.toNat_of_nonneg (by omega)])) (by omega) (by unfold maxLen; omega)) ?_; intro gm_15
      refine todo_pure hl_ (by kernel_rfl) rfl rfl rfl rfl rfl (fun a w_ hF => r_build (bd37_0_1_2_3 _ _ _ _ _ _ _ _ _ _ _ _ _ _ _) ⟨rfl, (hF.ev rfl), rfl, (hF.ev rfl), rfl, (hF.ev rfl), rfl, (hF.ev rfl), trivial⟩) ?_
      refine todo_fin hl_ rfl (by kernel_rfl) (tl := [_]) rfl ?_; clear hS a; intro a w7 hF hA_
      have hS := hA_.sep; clear hA_
      clear hl_; try clear hSd; try clear wd
      try dsimp only [List.cons_append, List.nil_append, List.set] at hS
      refine wl_storew hF hS (i := 3) rfl (hF.ev rfl) (hF.ev rfl) sz37 rfl rfl ?_; intro w8 hS_; replace hS := hS_; clear hS_; dsimp only [List.set, Nat.reduceAdd] at hS
      refine wl_nil ⟨rfl, ?_⟩
      refine hK5 _ _ ?_
      refine wp_ret ?_
      try simp only [Exit.then, Exit.inBlock, ↓reduceIte]
      first
        | (refine ret1c rfl ag37 hF hS (i := 3) rfl sz37 rfl ⟨[], ?_, ?_⟩
           · rw [show newState c = zeroState from if_neg c5]; rfl
           · rw [show newState c = zeroState from if_neg c5]; exact (Sep.nilpart (hS.pick [] (by decide) rfl) (state_inner0 _)))
        | (have e : newState c = ⟨c, newCells c, List.replicate c.capacity.toNat 0, List.replicate c.threads.toNat default, 0, 0, 0, 0⟩ := if_pos c5
           refine ret1c rfl ag37 hF hS (i := 3) rfl sz37 rfl ⟨[s9, (some ⟨gm_12, 0, none⟩, c.capacity.toNat, c.capacity.toNat), (some ⟨gm_15, 0, none⟩, c.threads.toNat, c.threads.toNat)], ?_, ?_⟩
           · rw [e]; rfl
           · rw [e]; exact hS.part_of [2, 1, 0] (by decide) rfl)
    ·
      refine op_op rfl rfl rfl rfl rfl rfl (fun a w_ hF hS => r_make0 threadEK (default : Sl.Thread) [] mk35 rfl thread_inner0 ((hF.ev rfl).trans (show vi (c.threads) = Value.int .i64 ((Int.toNat (c.threads) : Nat) : Int) from by rw [Int.toNat_of_nonneg (by omega)])) (by omega) (by unfold maxLen; omega)) ?_; intro gm_15
      refine todo_op hl_ rfl (by kernel_rfl) rfl rfl rfl rfl rfl (fun a w_ hF hS => r_make0 intEK 0 [] mk24 rfl (fun _ => Sat.nil _ _) ((hF.ev rfl).trans (show vi (c.capacity) = Value.int .i64 ((Int.toNat (c.capacity) : Nat) : Int) from by rw [Int.toNat_of_nonneg (by omega)])) (by omega) (by unfold maxLen; omega)) ?_; intro gm_12
      refine todo_pure hl_ (by kernel_rfl) rfl rfl rfl rfl rfl (fun a w_ hF => r_build (bd37_0_1_2_3 _ _ _ _ _ _ _ _ _ _ _ _ _ _ _) ⟨rfl, (hF.ev rfl), rfl, (hF.ev rfl), rfl, (hF.ev rfl), rfl, (hF.ev rfl), trivial⟩) ?_
      refine todo_fin hl_ rfl (by kernel_rfl) (tl := [_]) rfl ?_; clear hS a; intro a w11 hF hA_
      have hS := hA_.sep; clear hA_
      clear hl_; try clear hSd; try clear wd
      try dsimp only [List.cons_append, List.nil_append, List.set] at hS
      refine wl_storew hF hS (i := 3) rfl (hF.ev rfl) (hF.ev rfl) sz37 rfl rfl ?_; intro w12 hS_; replace hS := hS_; clear hS_; dsimp only [List.set, Nat.reduceAdd] at hS
      refine wl_nil ⟨rfl, ?_⟩
      refine hK5 _ _ ?_
      refine wp_ret ?_
      try simp only [Exit.then, Exit.inBlock, ↓reduceIte]
      first
        | (refine ret1c rfl ag37 hF hS (i := 3) rfl sz37 rfl ⟨[], ?_, ?_⟩
           · rw [show newState c = zeroState from if_neg c5]; rfl
           · rw [show newState c = zeroState from if_neg c5]; exact (Sep.nilpart (hS.pick [] (by decide) rfl) (state_inner0 _)))
        | (have e : newState c = ⟨c, newCells c, List.replicate c.capacity.toNat 0, List.replicate c.threads.toNat default, 0, 0, 0, 0⟩ := if_pos c5
           refine ret1c rfl ag37 hF hS (i := 3) rfl sz37 rfl ⟨[s9, (some ⟨gm_12, 0, none⟩, c.capacity.toNat, c.capacity.toNat), (some ⟨gm_15, 0, none⟩, c.threads.toNat, c.threads.toNat)], ?_, ?_⟩
           · rw [e]; rfl
           · rw [e]; exact hS.part_of [2, 0, 1] (by decide) rfl)
  ·
    refine op_op rfl rfl rfl rfl rfl rfl (fun a w_ hF hS => r_make0 intEK 0 [] mk24 rfl (fun _ => Sat.nil _ _) ((hF.ev rfl).trans (show vi (c.capacity) = Value.int .i64 ((Int.toNat (c.capacity) : Nat) : Int) from by rw [Int.toNat_of_nonneg (by omega)])) (by omega) (by unfold maxLen; omega)) ?_; intro gm_12
    refine todo_fork [(2, [8, 9, 10]), (8, [2, 9, 10])] hl_ rfl (by kernel_rfl) (List.forall_mem_cons.2 ⟨?_, List.forall_mem_cons.2 ⟨?_, fun _ h_ => nomatch h_⟩⟩)
    ·
      refine op_mk rfl rfl rfl rfl rfl rfl (fun a w_ hF => r_call1 en108 (hF.ev rfl)) (fun w_ hS => implNewCells_c _) ?_; rintro s9
      refine todo_op hl_ rfl (by kernel_rfl) rfl rfl rfl rfl rfl (fun a w_ hF hS => r_make0 threadEK (default : Sl.Thread) [] mk35 rfl thread_inner0 ((hF.ev rfl).trans (show vi (c.threads) = Value.int .i64 ((Int.toNat (c.threads) : Nat) : Int) from by rw [Int.toNat_of_nonneg (by omega)])) (by omega) (by unfold maxLen; omega)) ?_; intro gm_15
      refine todo_pure hl_ (by kernel_rfl) rfl rfl rfl rfl rfl (fun a w_ hF => r_build (bd37_0_1_2_3 _ _ _ _ _ _ _ _ _ _ _ _ _ _ _) ⟨rfl, (hF.ev rfl), rfl, (hF.ev rfl), rfl, (hF.ev rfl), rfl, (hF.ev rfl), trivial⟩) ?_
      refine todo_fin hl_ rfl (by kernel_rfl) (tl := [_]) rfl ?_; clear hS a; intro a w15 hF hA_
      have hS := hA_.sep; clear hA_
      clear hl_; try clear hSd; try clear wd
      try dsimp only [List.cons_append, List.nil_append, List.set] at hS
      refine wl_storew hF hS (i := 3) rfl (hF.ev rfl) (hF.ev rfl) sz37 rfl rfl ?_; intro w16 hS_; replace hS := hS_; clear hS_; dsimp only [List.set, Nat.reduceAdd] at hS
      refine wl_nil ⟨rfl, ?_⟩
      refine hK5 _ _ ?_
      refine wp_ret ?_
      try simp only [Exit.then, Exit.inBlock, ↓reduceIte]
      first
        | (refine ret1c rfl ag37 hF hS (i := 3) rfl sz37 rfl ⟨[], ?_, ?_⟩
           · rw [show newState c = zeroState from if_neg c5]; rfl
           · rw [show newState c = zeroState from if_neg c5]; exact (Sep.nilpart (hS.pick [] (by decide) rfl) (state_inner0 _)))
        | (have e : newState c = ⟨c, newCells c, List.replicate c.capacity.toNat 0, List.replicate c.threads.toNat default, 0, 0, 0, 0⟩ := if_pos c5
           refine ret1c rfl ag37 hF hS (i := 3) rfl sz37 rfl ⟨[s9, (some ⟨gm_12, 0, none⟩, c.capacity.toNat, c.capacity.toNat), (some ⟨gm_15, 0, none⟩, c.threads.toNat, c.threads.toNat)], ?_, ?_⟩
           · rw [e]; rfl
           · rw [e]; exact hS.part_of [1, 2, 0] (by decide) rfl)
    ·
      refine op_op rfl rfl rfl rfl rfl rfl (fun a w_ hF hS => r_make0 threadEK (default : Sl.Thread) [] mk35 rfl thread_inner0 ((hF.ev rfl).trans (show vi (c.threads) = Value.int .i64 ((Int.toNat (c.threads) : Nat) : Int) from by rw [Int.toNat_of_nonneg (by omega)])) (by omega) (by unfold maxLen; omega)) ?_; intro gm_15
      refine todo_mk hl_ rfl (by kernel_rfl) rfl rfl rfl rfl rfl (fun a w_ hF => r_call1 en108 (hF.ev rfl)) (fun w_ hS => implNewCells_c _) ?_; rintro s9
      refine todo_pure hl_ (by kernel_rfl) rfl rfl rfl rfl rfl (fun a w_ hF => r_build (bd37_0_1_2_3 _ _ _ _ _ _ _ _ _ _ _ _ _ _ _) ⟨rfl, (hF.ev rfl), rfl, (hF.ev rfl), rfl, (hF.ev rfl), rfl, (hF.ev rfl), trivial⟩) ?_
      refine todo_fin hl_ rfl (by kernel_rfl) (tl := [_]) rfl ?_; clear hS a; intro a w18 hF hA_
      have hS := hA_.sep; clear hA_
      clear hl_; try clear hSd; try clear wd
      try dsimp only [List.cons_append, List.nil_append, List.set] at hS
      refine wl_storew hF hS (i := 3) rfl (hF.ev rfl) (hF.ev rfl) sz37 rfl rfl ?_; intro w19 hS_; replace hS := hS_; clear hS_; dsimp only [List.set, Nat.reduceAdd] at hS
      refine wl_nil ⟨rfl, ?_⟩
      refine hK5 _ _ ?_
      refine wp_ret ?_
      try simp only [Exit.then, Exit.inBlock, ↓reduceIte]
      first
        | (refine ret1c rfl ag37 hF hS (i := 3) rfl sz37 rfl ⟨[], ?_, ?_⟩
           · rw [show newState c = zeroState from if_neg c5]; rfl
           · rw [show newState c = zeroState from if_neg c5]; exact (Sep.nilpart (hS.pick [] (by decide) rfl) (state_inner0 _)))
        | (have e : newState c = ⟨c, newCells c, List.replicate c.capacity.toNat 0, List.replicate c.threads.toNat default, 0, 0, 0, 0⟩ := if_pos c5
           refine ret1c rfl ag37 hF hS (i := 3) rfl sz37 rfl ⟨[s9, (some ⟨gm_12, 0, none⟩, c.capacity.toNat, c.capacity.toNat), (some ⟨gm_15, 0, none⟩, c.threads.toNat, c.threads.toNat)], ?_, ?_⟩
           · rw [e]; rfl
           · rw [e]; exact hS.part_of [0, 2, 1] (by decide) rfl)
  ·
    refine op_op rfl rfl rfl rfl rfl rfl (fun a w_ hF hS => r_make0 threadEK (default : Sl.Thread) [] mk35 rfl thread_inner0 ((hF.ev rfl).trans (show vi (c.threads) = Value.int .i64 ((Int.toNat (c.threads) : Nat) : Int) from by rw [Int.toNat_of_nonneg (by omega)])) (by omega) (by unfold maxLen; omega)) ?_; intro gm_15
    refine todo_fork [(2, [5, 9, 10]), (5, [2, 9, 10])] hl_ rfl (by kernel_rfl) (List.forall_mem_cons.2 ⟨?_, List.forall_mem_cons.2 ⟨?_, fun _ h_ => nomatch h_⟩⟩)
    ·
      refine op_mk rfl rfl rfl rfl rfl rfl (fun a w_ hF => r_call1 en108 (hF.ev rfl)) (fun w_ hS => implNewCells_c _) ?_; rintro s9
      refine todo_op hl_ rfl (by kernel_rfl) rfl rfl rfl rfl rfl (fun a w_ hF hS => r_make0 intEK 0 [] mk24 rfl (fun _ => Sat.nil _ _) ((hF.ev rfl).trans (show vi (c.capacity) = Value.int .i64 ((Int.toNat (c.capacity) : Nat) : Int) from by rw [Int.toNat_of_nonneg (by omega)])) (by omega) (by unfold maxLen; omega)) ?_; intro gm_12
      refine todo_pure hl_ (by kernel_rfl) rfl rfl rfl rfl rfl (fun a w_ hF => r_build (bd37_0_1_2_3 _ _ _ _ _ _ _ _ _ _ _ _ _ _ _) ⟨rfl, (hF.ev rfl), rfl, (hF.ev rfl), rfl, (hF.ev rfl), rfl, (hF.ev rfl), trivial⟩) ?_
      refine todo_fin hl_ rfl (by kernel_rfl) (tl := [_]) rfl ?_; clear hS a; intro a w22 hF hA_
      have hS := hA_.sep; clear hA_
      clear hl_; try clear hSd; try clear wd
      try dsimp only [List.cons_append, List.nil_append, List.set] at hS
      refine wl_storew hF hS (i := 3) rfl (hF.ev rfl) (hF.ev rfl) sz37 rfl rfl ?_; intro w23 hS_; replace hS := hS_; clear hS_; dsimp only [List.set, Nat.reduceAdd] at hS
      refine wl_nil ⟨rfl, ?_⟩
      refine hK5 _ _ ?_
      refine wp_ret ?_
      try simp only [Exit.then, Exit.inBlock, ↓reduceIte]
      first
        | (refine ret1c rfl ag37 hF hS (i := 3) rfl sz37 rfl ⟨[], ?_, ?_⟩
           · rw [show newState c = zeroState from if_neg c5]; rfl
           · rw [show newState c = zeroState from if_neg c5]; exact (Sep.nilpart (hS.pick [] (by decide) rfl) (state_inner0 _)))
        | (have e : newState c = ⟨c, newCells c, List.replicate c.capacity.toNat 0, List.replicate c.threads.toNat default, 0, 0, 0, 0⟩ := if_pos c5
           refine ret1c rfl ag37 hF hS (i := 3) rfl sz37 rfl ⟨[s9, (some ⟨gm_12, 0, none⟩, c.capacity.toNat, c.capacity.toNat), (some ⟨gm_15, 0, none⟩, c.threads.toNat, c.threads.toNat)], ?_, ?_⟩
           · rw [e]; rfl
           · rw [e]; exact hS.part_of [1, 0, 2] (by decide) rfl)
    ·
      refine op_op rfl rfl rfl rfl rfl rfl (fun a w_ hF hS => r_make0 intEK 0 [] mk24 rfl (fun _ => Sat.nil _ _) ((hF.ev rfl).trans (show vi (c.capacity) = Value.int .i64 ((Int.toNat (c.capacity) : Nat) : Int) from by rw [Int.toNat_of_nonneg (by omega)])) (by omega) (by unfold maxLen; omega)) ?_; intro gm_12
      refine todo_mk hl_ rfl (by kernel_rfl) rfl rfl rfl rfl rfl (fun a w_ hF => r_call1 en108 (hF.ev rfl)) (fun w_ hS => implNewCells_c _) ?_; rintro s9
      refine todo_pure hl_ (by kernel_rfl) rfl rfl rfl rfl rfl (fun a w_ hF => r_build (bd37_0_1_2_3 _ _ _ _ _ _ _ _ _ _ _ _ _ _ _) ⟨rfl, (hF.ev rfl), rfl, (hF.ev rfl), rfl, (hF.ev rfl), rfl, (hF.ev rfl), trivial⟩) ?_
      refine todo_fin hl_ rfl (by kernel_rfl) (tl := [_]) rfl ?_; clear hS a; intro a w25 hF hA_
      have hS := hA_.sep; clear hA_
      clear hl_; try clear hSd; try clear wd
      try dsimp only [List.cons_append, List.nil_append, List.set] at hS
      refine wl_storew hF hS (i := 3) rfl (hF.ev rfl) (hF.ev rfl) sz37 rfl rfl ?_; intro w26 hS_; replace hS := hS_; clear hS_; dsimp only [List.set, Nat.reduceAdd] at hS
      refine wl_nil ⟨rfl, ?_⟩
      refine hK5 _ _ ?_
      refine wp_ret ?_
      try simp only [Exit.then, Exit.inBlock, ↓reduceIte]
      first
        | (refine ret1c rfl ag37 hF hS (i := 3) rfl sz37 rfl ⟨[], ?_, ?_⟩
           · rw [show newState c = zeroState from if_neg c5]; rfl
           · rw [show newState c = zeroState from if_neg c5]; exact (Sep.nilpart (hS.pick [] (by decide) rfl) (state_inner0 _)))
        | (have e : newState c = ⟨c, newCells c, List.replicate c.capacity.toNat 0, List.replicate c.threads.toNat default, 0, 0, 0, 0⟩ := if_pos c5
           refine ret1c rfl ag37 hF hS (i := 3) rfl sz37 rfl ⟨[s9, (some ⟨gm_12, 0, none⟩, c.capacity.toNat, c.capacity.toNat), (some ⟨gm_15, 0, none⟩, c.threads.toNat, c.threads.toNat)], ?_, ?_⟩
           · rw [e]; rfl
           · rw [e]; exact hS.part_of [0, 1, 2] (by decide) rfl)

set_option maxHeartbeats 4000000 in
set_option maxRecDepth 20000 in
theorem cloneO_c {W : World} {va : Value} {xs : List Sl.Op} (ha : opEK.Rd W va xs) (hz : xs.length ≤ 1099511627776) : Calls Try.prog 109 #[va] W (Ret (Mk W (fun s : Slv => sv s) (fun s => [Own opEK (sv s) xs]))) := by
  refine calls_fr Try.func109 rfl Try.ntmps109 rfl ?_
  intro a hF
  have hS := Sep.refl W
  obtain ⟨A_a, q_a, rfl, hq_a, hn_a⟩ := ha.sl; unfold maxLen at hn_a
  refine ws fun K1 hK1 => ?_
  refine wl_mvs (A := [_]) hF rfl ?_; clear hF a; intro a hF
  refine wl_nil (hK1 _ _ ?_)
  refine wp_seq_k fun K2 hK2 => ?_
  refine ws fun K3 hK3 => ?_
  refine wl_mvs (A := [_]) hF rfl ?_; clear hF a; intro a hF
  refine wl hF rfl rfl rfl (r_eqnil ul76 (hF.ev rfl) ec) ?_; clear hF a; intro a hF
  refine wl_nil (hK3 _ _ ?_)
  refine wc_fx (t := 4) hF rfl ?_ ?_ <;> clear hF <;> intro c4 hF <;> try simp only [zb1, zb2, zb3, zb4, zb5, zb6, zb7, zb8] at c4
  ·
    refine ws fun K4 hK4 => ?_
    refine wl_mvs (A := [_]) hF rfl ?_; clear hF a; intro a hF
    refine wl_nil (hK4 _ _ ?_)
    refine wp_ret ?_
    try simp only [Exit.then, Exit.inBlock, ↓reduceIte]
    first
      | (obtain rfl : xs = [] := Rd.none_nil ha c4; refine ret1 rfl hF rfl ?_; exact Sep.mkS ((Sep.refl W).ext hS.old |>.own_nil _) rfl)
      | (refine ret1 rfl hF rfl ?_; exact Sep.mkS (hS.pick [99] (by decide) rfl) rfl)
  refine wp_skip ?_
  refine hK2 _ _ ?_
  refine ws fun K5 hK5 => ?_
  refine wl_bslice opEK [] [] rfl hF hS rfl mk76 rfl trivial rfl rfl rfl rfl ?_; clear hF a; intro gl_5 w1 a hS_ hF; replace hS := hS_; clear hS_
  refine wl_mvs (A := [_]) hF rfl ?_; clear hF a; intro a hF
  refine wl_append0 hF hS rfl (hS.rd ha) mk76 rfl (by omega) (by unfold maxLen; omega) (hF.ev rfl) (hF.ev rfl) ?_; clear hF a; intro s7 w2 a hS_ hF; replace hS := hS_; clear hS_
  refine wl_mvs (A := [_]) hF rfl ?_; clear hF a; intro a hF
  refine wl_nil (hK5 _ _ ?_)
  refine wp_ret ?_
  try simp only [Exit.then, Exit.inBlock, ↓reduceIte]
  first
    | (obtain rfl : xs = [] := Rd.none_nil ha c4; refine ret1 rfl hF rfl ?_; exact Sep.mkS ((Sep.refl W).ext hS.old |>.own_nil _) rfl)
    | (refine ret1 rfl hF rfl ?_; exact Sep.mkS (hS.pick [0] (by decide) rfl) rfl)

set_option maxHeartbeats 4000000 in
set_option maxRecDepth 20000 in
theorem copyPrograms_c {W : World} {va : Value} {ps : List (List Sl.Op)} (ha : (sliceEK opEK).Rd W va ps) (hz : ps.length + crow List.length ps ≤ 1048576) : Calls Try.prog 66 #[va] W (Ret (Mk W (fun z : Slv => sv z) (fun z => [Own (sliceEK opEK) (sv z) ps]))) := by
  refine calls_fr Try.func66 rfl Try.ntmps66 rfl ?_
  intro a hF
  have hS := Sep.refl W
  obtain ⟨A_a, q_a, rfl, hq_a, hn_a⟩ := ha.sl; unfold maxLen at hn_a
  refine ws fun K1 hK1 => ?_
  refine wl_mvs (A := [_]) hF rfl ?_; clear hF a; intro a hF
  refine wl_nil (hK1 _ _ ?_)
  refine ws fun K2 hK2 => ?_
  refine wl_bslice (rawEK 1) [] [] rfl hF hS rfl mk38 rfl trivial rfl rfl rfl rfl ?_; clear hF a; intro gl_6 w1 a hS_ hF; replace hS := hS_; clear hS_
  replace hS := hS.tail.own_nilA (sliceEK opEK) (some ⟨gl_6, 0, none⟩)
  refine wl_mvs (A := [_]) hF rfl ?_; clear hF a; intro a hF
  refine wl_nil (hK2 _ _ ?_)
  refine wp_seq_k fun K3 hK3 => ?_
  refine ws fun K4 hK4 => ?_
  refine wl_mvs (A := [_]) hF rfl ?_; clear hF a; intro a hF
  refine wl hF rfl rfl rfl (r_len ul38 (hF.ev rfl)) ?_; clear hF a; intro a hF
  refine wl_mvs (A := [_]) hF rfl ?_; clear hF a; intro a hF
  refine wl_nil (hK4 _ _ ?_)
  refine wp_block ?_
  replace hS := hS.pull (p := 0) rfl; dsimp only [List.eraseIdx] at hS
  have hL_ := (((hF.nil.keep hF (t := 8) rfl).keep hF (t := 7) rfl).keep hF (t := 2) rfl)
  refine wp_loop_m (σ := Nat × Slv) (fun z L_ => (9, vi z.1) :: (3, sv z.2) :: L_) (fun z l_ => (Own (sliceEK opEK) (sv z.2) (ps.take z.1)) :: l_) (fun z => (z.1 ≤ ps.length)) (fun z => ps.length - z.1) (0, (some ⟨gl_6, 0, none⟩, 0, 0)) (hS) ((hL_.keepE hF (t := 3) rfl rfl).keepE hF (t := 9) rfl rfl) ?_ ?_
  · exact Nat.zero_le _
  clear hF hS hL_ a
  rintro ⟨k, q⟩ a w2 hk hS hF; try dsimp only at hF; try dsimp only at hS; try dsimp only at hk
  refine ws fun K5 hK5 => ?_
  refine wl hF rfl rfl rfl (r_lss (hF.ev rfl) (hF.ev rfl)) ?_; clear hF a; intro a hF
  refine wl_nil (hK5 _ _ ?_)
  refine wp_seq_k fun K6 hK6 => ?_
  refine wc_fx (t := 10) hF rfl ?_ ?_ <;> clear hF <;> intro c10 hF <;> try simp only [zb1, zb2, zb3, zb4, zb5, zb6, zb7, zb8] at c10
  ·
    have hlt : k < ps.length := by omega
    have hx := at0_nat hlt
    have hc1 := crow_le1 (c := List.length) hx
    refine wp_skip ?_
    refine hK6 _ _ ?_
    refine wp_seq_k fun K7 hK7 => ?_
    refine wp_block ?_
    refine ws fun K8 hK8 => ?_
    obtain ⟨g11, o11, m11, q11, cs11, hv11, hm11, hl11, hk11, hz11, hc11⟩ := Rd.at (ha) (a := a) (X := .tmp 9) (hF.ev rfl) (by omega) (by omega)
    obtain ⟨v11, rfl, hr11⟩ := hk11; obtain ⟨Ae11, qe11, rfl, _, hme11⟩ := hr11.sl; unfold maxLen at hme11
    refine wl hF rfl rfl rfl (r_index sl38 ((hF.ev rfl).trans hv11) (hF.ev rfl) (by omega) (by first | omega | (simp at hm11; omega))) ?_; clear hF a; intro a hF
    refine wl hF rfl rfl rfl (r_load1 sc76 (hF.ev rfl) (cellB hS.old (hc11 0 _ rfl))) ?_; clear hF a; intro a hF
    refine wl_mvs (A := [_]) hF rfl ?_; clear hF a; intro a hF
    refine wl_nil (hK8 _ _ ?_)
    refine wp_region_lit ?_
    refine wl_mvs (A := [_, _]) hF rfl ?_; clear hF a; intro a hF
    refine wl_mk hF hS rfl rfl rfl (r_call1 en109 (hF.ev rfl)) (cloneO_c (hS.rd hr11) (by omega)) ?_; clear hF a; rintro s15 w3 a hS_ hF; replace hS := hS_; clear hS_; dsimp only [List.cons_append, List.nil_append] at hS
    have hln15 := hS.own_len (q := 0) rfl
    refine wl_bslice (rawEK 1) [sv s15] [raw (sliceEK opEK) (at0 ps (k : Int)) [s15]] rfl hF hS rfl mk38 rfl ⟨rfl, (hF.ev rfl), trivial⟩ rfl rfl rfl rfl ?_; clear hF a; intro gl_16 w4 a hS_ hF; replace hS := hS_; clear hS_
    have hu_ := hS.own_rd (i := 0) rfl
    replace hS := hS.pull (p := 1) rfl; dsimp only [List.eraseIdx] at hS
    replace hS := hS.own_part (s := (_, _, _))
    replace hS := hS.pull (p := 2) rfl; dsimp only [List.eraseIdx] at hS
    refine wl_appendn (ek := (sliceEK opEK)) hF hS rfl hu_ mk38 rfl (hF.ev rfl) (hF.ev rfl) (by simp; omega) (by unfold maxLen; simp; omega) ?_; clear hF a hu_; intro A_17 c_17 w5 a hS_ hF; replace hS := hS_; clear hS_
    refine wl_mvs (A := [_]) hF rfl ?_; clear hF a; intro a hF
    refine wl_nil ?_
    simp only [Exit.then, Exit.inBlock, ↓reduceIte]
    refine hK7 _ _ ?_
    refine wp_region_lit ?_
    refine wl hF rfl rfl rfl (r_add (hF.ev rfl) ec) ?_; clear hF a; intro a hF
    refine wl_mvs (A := [_]) hF rfl ?_; clear hF a; intro a hF
    refine wl_nil ?_
    try simp only [Exit.then, Exit.inBlock, ↓reduceIte]
    rw [← take_at0 (by omega)] at hS
    refine ⟨(k + 1, (_, _, _)), (by dsimp only; omega), (hS.pick [0] (by decide) rfl), (((((hF.nil.keep hF (t := 8) rfl).keep hF (t := 7) rfl).keep hF (t := 2) rfl).keepE hF (t := 3) rfl rfl).keepE hF (t := 9) rfl (wk (by omega))), by dsimp only; omega⟩
  refine wp_exit ?_
  simp only [Exit.then, Exit.inBlock, ↓reduceIte]
  refine hK3 _ _ ?_
  refine ws fun K9 hK9 => ?_
  refine wl_mvs (A := [_, _]) hF rfl ?_; clear hF a; intro a hF
  refine wl_nil (hK9 _ _ ?_)
  refine wp_ret ?_
  try simp only [Exit.then, Exit.inBlock, ↓reduceIte]
  obtain rfl : k = ps.length := by omega
  rw [List.take_length] at hS
  exact ret1 rfl hF rfl ⟨q, rfl, hS.pick [0] (by decide) rfl⟩

set_option maxHeartbeats 4000000 in
set_option maxRecDepth 20000 in
theorem specNewMachine_c {W : World} {c : Config} {va : Value} {ps : List (List Sl.Op)} (ha : (sliceEK opEK).Rd W va ps) (hz : ps.length + crow List.length ps ≤ 1048576) : Calls Try.prog 18 #[.agg c.enc.toArray, va] W (Ret (Mk W (fun vs => .tuple #[.agg (machineEK.cells (newMachine c ps).1 vs).toArray, .bool (newMachine c ps).2]) (fun vs => [Part machineEK (newMachine c ps).1 vs]))) := by
  refine calls_fr Try.func18 rfl Try.ntmps18 rfl ?_
  intro a hF
  have hS := Sep.refl W
  obtain ⟨A_a, q_a, rfl, hq_a, hn_a⟩ := ha.sl; unfold maxLen at hn_a
  refine ws fun K1 hK1 => ?_
  refine wl_box (cs := [_, _, _, _, _, _]) hF hS rfl (hF.ev rfl) rfl ?_; clear hF a; intro g1 w1 a hS_ hB_ hF; replace hS := hS_; clear hS_ hB_
  refine wl_alloc hF hS rfl zr41 ?_; clear hF a; intro g2 w2 a hS_ hB_ hF; replace hS := hS_; clear hS_ hB_
  refine wl_mvs (A := [_]) hF rfl ?_; clear hF a; intro a hF
  refine wl_nil (hK1 _ _ ?_)
  refine wp_seq_k fun K2 hK2 => ?_
  refine ws fun K3 hK3 => ?_
  refine wl hF rfl rfl rfl (r_loadn ag34 (hF.ev rfl) (hS.box_rd (i := 1) rfl) sz34) ?_; clear hF a; intro a hF
  refine wl_call hF rfl rfl rfl (r_call1 en60 (hF.ev rfl)) (specIsConfig_c _) ?_; clear hF a; rintro v w3 a ⟨rfl, hB_⟩ hF; replace hS := hS.ext hB_; clear hB_
  refine wl hF rfl rfl rfl (r_not (hF.ev rfl)) ?_; clear hF a; intro a hF
  refine wl_mvs (A := [_]) hF rfl ?_; clear hF a; intro a hF
  apply wl_or (A := [_, _, _, _, _, _]) (pk := 17) hF hS (tc := 11) rfl
  ·
    intro hg11 a hF; try simp only [zb1, zb2, zb3, zb4, zb5, zb6, zb7, zb8] at hg11
    refine wl_mvs (A := [_]) hF rfl ?_; clear hF a; intro a hF
    refine wl_take hF rfl rfl rfl rfl ?_
    refine wl hF rfl rfl rfl (r_len ul38 (hF.ev rfl)) ?_; clear hF a; intro a hF
    refine wl_take hF rfl rfl rfl rfl ?_
    refine wl hF rfl rfl rfl (r_field fo34_0 (hF.ev rfl)) ?_; clear hF a; intro a hF
    refine wl_take hF rfl rfl rfl rfl ?_
    refine wl hF rfl rfl rfl (r_load1 sc3 (hF.ev rfl) (hS.box (i := 1) rfl rfl)) ?_; clear hF a; intro a hF
    refine wl_take hF rfl rfl rfl rfl ?_
    refine wl hF rfl rfl rfl (r_neq (hF.ev rfl) (hF.ev rfl)) ?_; clear hF a; intro a hF
    refine wl hF rfl rfl rfl (r_pick_f (hF.ev rfl) (hF.ev rfl)) ?_; clear hF a; intro a hF
    exact wl_nil ⟨rfl, (Fr.pre (A := [_, _, _, _, _, _]) hF rfl).keep hF (t := 17) rfl, hS⟩
  ·
    intro hg11 a hF; try simp only [zb1, zb2, zb3, zb4, zb5, zb6, zb7, zb8] at hg11
    refine wl_mvs (A := [_, _, _, _, _]) hF rfl ?_; clear hF a; intro a hF
    refine wl hF rfl rfl rfl (r_pick_t (hF.ev rfl) ec) ?_; clear hF a; intro a hF
    exact wl_nil ⟨rfl, (Fr.pre (A := [_, _, _, _, _, _]) hF rfl).keep hF (t := 17) rfl, hS⟩
  clear hF a hS; intro a w4 hF hS
  refine wl_nil (hK3 _ _ ?_)
  refine wc_fx (t := 17) hF rfl ?_ ?_ <;> clear hF <;> intro c17 hF <;> try simp only [zb1, zb2, zb3, zb4, zb5, zb6, zb7, zb8] at c17
  ·
    refine ws fun K4 hK4 => ?_
    refine wl hF rfl rfl rfl (r_build (bd41) trivial) ?_; clear hF a; intro a hF
    refine wl_storew hF hS (i := 0) rfl (hF.ev rfl) (hF.ev rfl) sz41 rfl rfl ?_; intro w5 hS_; replace hS := hS_; clear hS_; dsimp only [List.set, Nat.reduceAdd] at hS
    refine wl_mvs (A := [_]) hF rfl ?_; clear hF a; intro a hF
    refine wl_nil (hK4 _ _ ?_)
    refine wp_ret ?_
    try simp only [Exit.then, Exit.inBlock, ↓reduceIte]
    first
      | (have e : newMachine c ps = (zeroMachine, false) := if_neg (by unfold progsOk; rcases c17 with h | h <;> simp [h])
         refine ret2c rfl ag41 hF hS (i := 0) rfl sz41 rfl rfl ⟨[], ?_, ?_⟩
         · rw [e]; rfl
         · rw [e]; exact (Sep.nilpart (hS.pick [] (by decide) rfl) (machine_inner0 _)))
      | (have e : newMachine c ps = (zeroMachine, false) := if_neg (by unfold progsOk; rw [all_no hx c36]; simp)
         refine ret2c rfl ag41 hF hS (i := 0) rfl sz41 rfl rfl ⟨[], ?_, ?_⟩
         · rw [e]; rfl
         · rw [e]; exact (Sep.nilpart (hS.pick [] (by decide) rfl) (machine_inner0 _)))
  have hb := c17.1; unfold Config.ok at hb
  refine wp_skip ?_
  refine hK2 _ _ ?_
  refine wp_seq_k fun K5 hK5 => ?_
  refine wp_region_todo (is := [0, 2, 3, 1, 4, 5, 7]) [(6, 6, [.int .i64 0, .int .i64 0, .int .i64 0, .int .i64 0, .int .i64 0, .int .i64 0, .slice none 0 0, .slice none 0 0, .slice none 0 0, .int .i64 0, .int .i64 0, .int .i64 0, .int .i64 0, .slice none 0 0, .slice none 0 0, .slice none 0 0, .int .i64 0])] [7] (by kernel_rfl) hF hS ⟨⟨⟨_, _, _, rfl, zr41⟩, trivial⟩, by decide, by decide, by decide⟩ (by kernel_rfl) ?_; clear hF; intro hl_ wd hSd
  refine todo_load [1, 5, 7] hl_ (by kernel_rfl) rfl rfl rfl rfl rfl (fun a w_ hF hB_ => r_loadn ag34 (hF.ev rfl) ((hSd.ext hB_).box_rd (i := 1) rfl) sz34) ?_
  refine todo_pure hl_ (by kernel_rfl) rfl rfl rfl rfl rfl (fun a w_ hF => r_field fo34_0 (hF.ev rfl)) ?_
  refine todo_load [4, 5, 7] hl_ (by kernel_rfl) rfl rfl rfl rfl rfl (fun a w_ hF hB_ => r_load1 sc3 (hF.ev rfl) ((hSd.ext hB_).box (i := 1) rfl rfl)) ?_
  refine todo_fork [(1, [4, 5, 7]), (4, [1, 5, 7])] hl_ rfl (by kernel_rfl) (List.forall_mem_cons.2 ⟨?_, List.forall_mem_cons.2 ⟨?_, fun _ h_ => nomatch h_⟩⟩)
  ·
    refine op_mk rfl rfl rfl rfl rfl rfl (fun a w_ hF => r_call1 en61 (hF.ev rfl)) (fun w_ hS => specNewState_c _) ?_; rintro vs20
    refine todo_op hl_ rfl (by kernel_rfl) rfl rfl rfl rfl rfl (fun a w_ hF hS => r_make0 intEK 0 [] mk24 rfl (fun _ => Sat.nil _ _) ((hF.ev rfl).trans (show vi (c.threads) = Value.int .i64 ((Int.toNat (c.threads) : Nat) : Int) from by rw [Int.toNat_of_nonneg (by omega)])) (by omega) (by unfold maxLen; omega)) ?_; intro gm_23
    refine todo_pure hl_ (by kernel_rfl) rfl rfl rfl rfl rfl (fun a w_ hF => r_build (bd41_0_2 _ _ _ _ _ _ _ _ _ _ _ _ _ _ _ _ _ _ _ _ _ _) ⟨rfl, (hF.ev rfl), rfl, (hF.ev rfl), trivial⟩) ?_
    refine todo_fin hl_ rfl (by kernel_rfl) (tl := [_]) rfl ?_; clear hS a; intro a w7 hF hA_
    obtain ⟨g3, hS, he_0⟩ := hA_.open1; clear hA_
    replace hF := hF.more he_0; clear he_0
    clear hl_; try clear hSd; try clear wd
    try dsimp only [List.cons_append, List.nil_append, List.set] at hS
    refine wl_storew hF hS (i := 0) rfl (hF.ev rfl) (hF.ev rfl) sz41 rfl rfl ?_; intro w8 hS_; replace hS := hS_; clear hS_; dsimp only [List.set, Nat.reduceAdd] at hS
    refine wl_nil ⟨rfl, ?_⟩
    refine hK5 _ _ ?_
    refine wp_seq_k fun K6 hK6 => ?_
    refine ws fun K7 hK7 => ?_
    refine wl_mvs (A := [_]) hF rfl ?_; clear hF a; intro a hF
    refine wl_nil (hK7 _ _ ?_)
    refine wp_block ?_
    replace hS := hS.own_nil (sliceEK opEK)
    replace hS := hS.pull (p := 1) rfl; dsimp only [List.eraseIdx] at hS
    replace hS := hS.pull (p := 1) rfl; dsimp only [List.eraseIdx] at hS
    have hL_ := ((((hF.nil.keep hF (t := 6) rfl).keep hF (t := 5) rfl).keep hF (t := 4) rfl).keep hF (t := 1) rfl)
    refine wp_loop_m (σ := Nat × Slv) (fun z L_ => (7, vi z.1) :: L_) (fun z l_ => (Own (sliceEK opEK) (sv z.2) (ps.take z.1)) :: (Box g3 (Sl.Machine.encv ⟨newState c, [], [], [], 0⟩ (sv (vs20.getD 0 (none, 0, 0))) (sv (vs20.getD 1 (none, 0, 0))) (sv (vs20.getD 2 (none, 0, 0))) (sv z.2) (.slice (some ⟨gm_23, 0, none⟩) c.threads.toNat c.threads.toNat) (.slice none 0 0))) :: l_) (fun z => (z.1 ≤ ps.length) ∧ ((ps.take z.1).all progOk = true)) (fun z => ps.length - z.1) (0, (none, 0, 0)) (hS) (hL_.keepE hF (t := 7) rfl rfl) ?_ ?_
    · exact ⟨Nat.zero_le _, rfl⟩
    clear hF hS hL_ a
    rintro ⟨k, q⟩ a w9 ⟨hk, hp⟩ hS hF; try dsimp only at hF; try dsimp only at hS; try dsimp only at hk; try dsimp only at hp
    dsimp only [Sl.Machine.encv] at hS
    refine wp_seq_k fun K8 hK8 => ?_
    refine ws fun K9 hK9 => ?_
    refine wl_mvs (A := [_, _]) hF rfl ?_; clear hF a; intro a hF
    refine wl hF rfl rfl rfl (r_len ul38 (hF.ev rfl)) ?_; clear hF a; intro a hF
    refine wl hF rfl rfl rfl (r_lss (hF.ev rfl) (hF.ev rfl)) ?_; clear hF a; intro a hF
    refine wl_nil (hK9 _ _ ?_)
    refine wc_fx (t := 28) hF rfl ?_ ?_ <;> clear hF <;> intro c28 hF <;> try simp only [zb1, zb2, zb3, zb4, zb5, zb6, zb7, zb8] at c28
    ·
      have hlt : k < ps.length := by omega
      have hx := at0_nat hlt
      have hc1 := crow_le1 (c := List.length) hx
      refine wp_skip ?_
      refine hK8 _ _ ?_
      refine wp_seq_k fun K10 hK10 => ?_
      refine wp_block ?_
      refine wp_seq_k fun K11 hK11 => ?_
      refine ws fun K12 hK12 => ?_
      refine wl_mvs (A := [_, _]) hF rfl ?_; clear hF a; intro a hF
      obtain ⟨g33, o33, m33, q33, cs33, hv33, hm33, hl33, hk33, hz33, hc33⟩ := Rd.at (ha) (a := a) (X := .tmp 32) (hF.ev rfl) (by omega) (by omega)
      obtain ⟨v33, rfl, hr33⟩ := hk33; obtain ⟨Ae33, qe33, rfl, _, hme33⟩ := hr33.sl; unfold maxLen at hme33
      refine wl hF rfl rfl rfl (r_index sl38 ((hF.ev rfl).trans hv33) (hF.ev rfl) (by omega) (by first | omega | (simp at hm33; omega))) ?_; clear hF a; intro a hF
      refine wl hF rfl rfl rfl (r_load1 sc76 (hF.ev rfl) (cellB hS.old (hc33 0 _ rfl))) ?_; clear hF a; intro a hF
      refine wl_call hF rfl rfl rfl (r_call1 en62 (hF.ev rfl)) (specProgram_c (hS.rd hr33)) ?_; clear hF a; rintro v w10 a ⟨rfl, hB_⟩ hF; replace hS := hS.ext hB_; clear hB_
      refine wl hF rfl rfl rfl (r_not (hF.ev rfl)) ?_; clear hF a; intro a hF
      refine wl_nil (hK12 _ _ ?_)
      refine wc_fx (t := 36) hF rfl ?_ ?_ <;> clear hF <;> intro c36 hF <;> try simp only [zb1, zb2, zb3, zb4, zb5, zb6, zb7, zb8] at c36
      ·
        refine ws fun K13 hK13 => ?_
        refine wl hF rfl rfl rfl (r_build (bd41) trivial) ?_; clear hF a; intro a hF
        refine wl_storew hF hS (i := 4) rfl (hF.ev rfl) (hF.ev rfl) sz41 rfl rfl ?_; intro w11 hS_; replace hS := hS_; clear hS_; dsimp only [List.set, Nat.reduceAdd] at hS
        refine wl_mvs (A := [_]) hF rfl ?_; clear hF a; intro a hF
        refine wl_nil (hK13 _ _ ?_)
        refine wp_ret ?_
        try simp only [Exit.then, Exit.inBlock, ↓reduceIte]
        first
          | (have e : newMachine c ps = (zeroMachine, false) := if_neg (by unfold progsOk; rcases c17 with h | h <;> simp [h])
             refine ret2c rfl ag41 hF hS (i := 4) rfl sz41 rfl rfl ⟨[], ?_, ?_⟩
             · rw [e]; rfl
             · rw [e]; exact (Sep.nilpart (hS.pick [] (by decide) rfl) (machine_inner0 _)))
          | (have e : newMachine c ps = (zeroMachine, false) := if_neg (by unfold progsOk; rw [all_no hx c36]; simp)
             refine ret2c rfl ag41 hF hS (i := 4) rfl sz41 rfl rfl ⟨[], ?_, ?_⟩
             · rw [e]; rfl
             · rw [e]; exact (Sep.nilpart (hS.pick [] (by decide) rfl) (machine_inner0 _)))
      refine wp_skip ?_
      refine hK11 _ _ ?_
      refine wp_region_todo (is := [0, 1, 3, 4, 5, 6, 2, 7, 8, 9, 10, 11]) [] [9, 10, 11] (by kernel_rfl) hF hS ⟨trivial, by decide, by decide, by decide⟩ (by kernel_rfl) ?_; clear hF; intro hl_ wd hSd
      refine todo_pure hl_ (by kernel_rfl) rfl rfl rfl rfl rfl (fun a w_ hF => r_field fo41_1 (hF.ev rfl)) ?_
      refine todo_load [9, 10, 11] hl_ (by kernel_rfl) rfl rfl rfl rfl rfl (fun a w_ hF hB_ => r_load1 sc38 (hF.ev rfl) ((hSd.ext hB_).box (i := 1) rfl rfl)) ?_
      refine todo_pure hl_ (by kernel_rfl) rfl rfl rfl rfl rfl (fun a w_ hF => r_move (hF.ev rfl)) ?_
      refine todo_pure hl_ (by kernel_rfl) rfl rfl rfl rfl rfl (fun a w_ hF => r_move (hF.ev rfl)) ?_
      obtain ⟨g43, o43, m43, q43, cs43, hv43, hm43, hl43, hk43, hz43, hc43⟩ := Rd.idx (ha) hx
      obtain ⟨v43, rfl, hr43⟩ := hk43; obtain ⟨Ae43, qe43, rfl, _, hme43⟩ := hr43.sl; unfold maxLen at hme43
      refine todo_pure hl_ (by kernel_rfl) rfl rfl rfl rfl rfl (fun a w_ hF => r_index sl38 ((hF.ev rfl).trans hv43) (hF.ev rfl) (by omega) (by omega)) ?_
      refine todo_load [7, 8, 9, 10, 11] hl_ (by kernel_rfl) rfl rfl rfl rfl rfl (fun a w_ hF hB_ => r_load1 sc76 (hF.ev rfl) (cellB (hSd.ext hB_).old (hc43 0 _ rfl))) ?_
      refine todo_op hl_ rfl (by kernel_rfl) rfl rfl rfl rfl rfl (fun a w_ hF hS => r_bslice opEK [] [] rfl mk76 rfl trivial rfl rfl rfl rfl) ?_; intro gl_40
      refine todo_op hl_ rfl (by kernel_rfl) rfl rfl rfl rfl rfl (fun a w_ hF hS => r_append0 (hS.rd hr43) mk76 rfl (by omega) (by unfold maxLen; omega) (hF.ev rfl) (hF.ev rfl)) ?_; intro s45
      refine todo_op hl_ rfl (by kernel_rfl) rfl rfl rfl rfl rfl (fun a w_ hF hS => r_bslice (rawEK 1) [sv s45] [raw (sliceEK opEK) (at0 ps (k : Int)) [s45]] rfl mk38 rfl ⟨rfl, (hF.ev rfl), trivial⟩ rfl rfl rfl rfl) ?_; intro gl_46
      refine todo_fin hl_ rfl (by kernel_rfl) (tl := [_, _, _]) rfl ?_; clear hS a; intro a w15 hF hA_
      have hS := hA_.sep; clear hA_
      clear hl_; try clear hSd; try clear wd
      try dsimp only [List.cons_append, List.nil_append, List.set] at hS
      have hu_ := hS.own_rd (i := 0) rfl
      replace hS := hS.pull (p := 1) rfl; dsimp only [List.eraseIdx] at hS
      replace hS := hS.own_part (s := (_, _, _))
      replace hS := hS.pull (p := 3) rfl; dsimp only [List.eraseIdx] at hS
      refine wl_appendn (ek := (sliceEK opEK)) hF hS rfl hu_ mk38 rfl (hF.ev rfl) (hF.ev rfl) (by simp; omega) (by unfold maxLen; simp; omega) ?_; clear hF a hu_; intro A_47 c_47 w16 a hS_ hF; replace hS := hS_; clear hS_
      refine wl hF rfl rfl rfl (r_field fo41_1 (hF.ev rfl)) ?_; clear hF a; intro a hF
      refine wl_store hF hS (i := 3) rfl sz38 (hF.ev rfl) (hF.ev rfl) rfl rfl ?_; intro w17 hS_; replace hS := hS_; clear hS_; dsimp only [List.set, Nat.reduceAdd] at hS
      refine wl_nil ⟨rfl, ?_⟩
      simp only [Exit.then, Exit.inBlock, ↓reduceIte]
      refine hK10 _ _ ?_
      refine wp_region_lit ?_
      refine wl_mvs (A := [_]) hF rfl ?_; clear hF a; intro a hF
      refine wl hF rfl rfl rfl (r_add (hF.ev rfl) ec) ?_; clear hF a; intro a hF
      refine wl_mvs (A := [_]) hF rfl ?_; clear hF a; intro a hF
      refine wl_nil ?_
      try simp only [Exit.then, Exit.inBlock, ↓reduceIte]
      rw [← take_at0 (by omega)] at hS
      refine ⟨(k + 1, (_, _, _)), ⟨by dsimp only; omega, all_nxt hp hx c36⟩, (hS.pick [0, 3, 4, 5, 6, 7] (by decide) rfl), (((((hF.nil.keep hF (t := 6) rfl).keep hF (t := 5) rfl).keep hF (t := 4) rfl).keep hF (t := 1) rfl).keepE hF (t := 7) rfl (wk (by omega))), by dsimp only; omega⟩
    refine wp_exit ?_
    simp only [Exit.then, Exit.inBlock, ↓reduceIte]
    refine hK6 _ _ ?_
    refine ws fun K14 hK14 => ?_
    refine wl hF rfl rfl rfl (r_loadn ag41 (hF.ev rfl) (hS.box_rd (i := 1) rfl) sz41) ?_; clear hF a; intro a hF
    refine wl_storew hF hS (i := 4) rfl (hF.ev rfl) (hF.ev rfl) sz41 rfl rfl ?_; intro w18 hS_; replace hS := hS_; clear hS_; dsimp only [List.set, Nat.reduceAdd] at hS
    refine wl_mvs (A := [_]) hF rfl ?_; clear hF a; intro a hF
    refine wl_nil (hK14 _ _ ?_)
    refine wp_ret ?_
    try simp only [Exit.then, Exit.inBlock, ↓reduceIte]
    obtain rfl : k = ps.length := by omega
    rw [List.take_length] at hS
    first
      | (have e : newMachine c ps = (⟨newState c, ps, List.replicate c.threads.toNat 0, [], 0⟩, true) := if_pos (by unfold progsOk; rw [decide_eq_true c17.1, decide_eq_true c17.2, all_done hp (Nat.le_refl _)]; rfl)
         replace hS := hS.pull (p := 3) rfl; dsimp only [List.eraseIdx] at hS
         replace hS : Sep W (Own intEK (sv (vs20.getD 0 (none, 0, 0))) (newState c).cells :: Own intEK (sv (vs20.getD 1 (none, 0, 0))) (newState c).generations :: Own threadEK (sv (vs20.getD 2 (none, 0, 0))) (newState c).threads :: _) _ := hS.part_open
         replace hS := hS.own_nil eventEK
         refine ret2c rfl ag41 hF hS (i := 7) rfl sz41 rfl rfl ⟨[vs20.getD 0 (none, 0, 0), vs20.getD 1 (none, 0, 0), vs20.getD 2 (none, 0, 0), q, (some ⟨gm_23, 0, none⟩, c.threads.toNat, c.threads.toNat), (none, 0, 0)], ?_, ?_⟩
         · rw [e]; rfl
         · rw [e]; exact hS.part_of [1, 2, 3, 4, 6, 0] (by decide) rfl)
  ·
    refine op_op rfl rfl rfl rfl rfl rfl (fun a w_ hF hS => r_make0 intEK 0 [] mk24 rfl (fun _ => Sat.nil _ _) ((hF.ev rfl).trans (show vi (c.threads) = Value.int .i64 ((Int.toNat (c.threads) : Nat) : Int) from by rw [Int.toNat_of_nonneg (by omega)])) (by omega) (by unfold maxLen; omega)) ?_; intro gm_23
    refine todo_mk hl_ rfl (by kernel_rfl) rfl rfl rfl rfl rfl (fun a w_ hF => r_call1 en61 (hF.ev rfl)) (fun w_ hS => specNewState_c _) ?_; rintro vs20
    refine todo_pure hl_ (by kernel_rfl) rfl rfl rfl rfl rfl (fun a w_ hF => r_build (bd41_0_2 _ _ _ _ _ _ _ _ _ _ _ _ _ _ _ _ _ _ _ _ _ _) ⟨rfl, (hF.ev rfl), rfl, (hF.ev rfl), trivial⟩) ?_
    refine todo_fin hl_ rfl (by kernel_rfl) (tl := [_]) rfl ?_; clear hS a; intro a w20 hF hA_
    obtain ⟨g3, hS, he_0⟩ := hA_.open1; clear hA_
    replace hF := hF.more he_0; clear he_0
    clear hl_; try clear hSd; try clear wd
    try dsimp only [List.cons_append, List.nil_append, List.set] at hS
    refine wl_storew hF hS (i := 0) rfl (hF.ev rfl) (hF.ev rfl) sz41 rfl rfl ?_; intro w21 hS_; replace hS := hS_; clear hS_; dsimp only [List.set, Nat.reduceAdd] at hS
    refine wl_nil ⟨rfl, ?_⟩
    refine hK5 _ _ ?_
    refine wp_seq_k fun K15 hK15 => ?_
    refine ws fun K16 hK16 => ?_
    refine wl_mvs (A := [_]) hF rfl ?_; clear hF a; intro a hF
    refine wl_nil (hK16 _ _ ?_)
    refine wp_block ?_
    replace hS := hS.own_nil (sliceEK opEK)
    replace hS := hS.pull (p := 1) rfl; dsimp only [List.eraseIdx] at hS
    replace hS := hS.pull (p := 1) rfl; dsimp only [List.eraseIdx] at hS
    have hL_ := ((((hF.nil.keep hF (t := 6) rfl).keep hF (t := 5) rfl).keep hF (t := 4) rfl).keep hF (t := 1) rfl)
    refine wp_loop_m (σ := Nat × Slv) (fun z L_ => (7, vi z.1) :: L_) (fun z l_ => (Own (sliceEK opEK) (sv z.2) (ps.take z.1)) :: (Box g3 (Sl.Machine.encv ⟨newState c, [], [], [], 0⟩ (sv (vs20.getD 0 (none, 0, 0))) (sv (vs20.getD 1 (none, 0, 0))) (sv (vs20.getD 2 (none, 0, 0))) (sv z.2) (.slice (some ⟨gm_23, 0, none⟩) c.threads.toNat c.threads.toNat) (.slice none 0 0))) :: l_) (fun z => (z.1 ≤ ps.length) ∧ ((ps.take z.1).all progOk = true)) (fun z => ps.length - z.1) (0, (none, 0, 0)) (hS) (hL_.keepE hF (t := 7) rfl rfl) ?_ ?_
    · exact ⟨Nat.zero_le _, rfl⟩
    clear hF hS hL_ a
    rintro ⟨k, q⟩ a w22 ⟨hk, hp⟩ hS hF; try dsimp only at hF; try dsimp only at hS; try dsimp only at hk; try dsimp only at hp
    dsimp only [Sl.Machine.encv] at hS
    refine wp_seq_k fun K17 hK17 => ?_
    refine ws fun K18 hK18 => ?_
    refine wl_mvs (A := [_, _]) hF rfl ?_; clear hF a; intro a hF
    refine wl hF rfl rfl rfl (r_len ul38 (hF.ev rfl)) ?_; clear hF a; intro a hF
    refine wl hF rfl rfl rfl (r_lss (hF.ev rfl) (hF.ev rfl)) ?_; clear hF a; intro a hF
    refine wl_nil (hK18 _ _ ?_)
    refine wc_fx (t := 28) hF rfl ?_ ?_ <;> clear hF <;> intro c28 hF <;> try simp only [zb1, zb2, zb3, zb4, zb5, zb6, zb7, zb8] at c28
    ·
      have hlt : k < ps.length := by omega
      have hx := at0_nat hlt
      have hc1 := crow_le1 (c := List.length) hx
      refine wp_skip ?_
      refine hK17 _ _ ?_
      refine wp_seq_k fun K19 hK19 => ?_
      refine wp_block ?_
      refine wp_seq_k fun K20 hK20 => ?_
      refine ws fun K21 hK21 => ?_
      refine wl_mvs (A := [_, _]) hF rfl ?_; clear hF a; intro a hF
      obtain ⟨g33, o33, m33, q33, cs33, hv33, hm33, hl33, hk33, hz33, hc33⟩ := Rd.at (ha) (a := a) (X := .tmp 32) (hF.ev rfl) (by omega) (by omega)
      obtain ⟨v33, rfl, hr33⟩ := hk33; obtain ⟨Ae33, qe33, rfl, _, hme33⟩ := hr33.sl; unfold maxLen at hme33
      refine wl hF rfl rfl rfl (r_index sl38 ((hF.ev rfl).trans hv33) (hF.ev rfl) (by omega) (by first | omega | (simp at hm33; omega))) ?_; clear hF a; intro a hF
      refine wl hF rfl rfl rfl (r_load1 sc76 (hF.ev rfl) (cellB hS.old (hc33 0 _ rfl))) ?_; clear hF a; intro a hF
      refine wl_call hF rfl rfl rfl (r_call1 en62 (hF.ev rfl)) (specProgram_c (hS.rd hr33)) ?_; clear hF a; rintro v w23 a ⟨rfl, hB_⟩ hF; replace hS := hS.ext hB_; clear hB_
      refine wl hF rfl rfl rfl (r_not (hF.ev rfl)) ?_; clear hF a; intro a hF
      refine wl_nil (hK21 _ _ ?_)
      refine wc_fx (t := 36) hF rfl ?_ ?_ <;> clear hF <;> intro c36 hF <;> try simp only [zb1, zb2, zb3, zb4, zb5, zb6, zb7, zb8] at c36
      ·
        refine ws fun K22 hK22 => ?_
        refine wl hF rfl rfl rfl (r_build (bd41) trivial) ?_; clear hF a; intro a hF
        refine wl_storew hF hS (i := 4) rfl (hF.ev rfl) (hF.ev rfl) sz41 rfl rfl ?_; intro w24 hS_; replace hS := hS_; clear hS_; dsimp only [List.set, Nat.reduceAdd] at hS
        refine wl_mvs (A := [_]) hF rfl ?_; clear hF a; intro a hF
        refine wl_nil (hK22 _ _ ?_)
        refine wp_ret ?_
        try simp only [Exit.then, Exit.inBlock, ↓reduceIte]
        first
          | (have e : newMachine c ps = (zeroMachine, false) := if_neg (by unfold progsOk; rcases c17 with h | h <;> simp [h])
             refine ret2c rfl ag41 hF hS (i := 4) rfl sz41 rfl rfl ⟨[], ?_, ?_⟩
             · rw [e]; rfl
             · rw [e]; exact (Sep.nilpart (hS.pick [] (by decide) rfl) (machine_inner0 _)))
          | (have e : newMachine c ps = (zeroMachine, false) := if_neg (by unfold progsOk; rw [all_no hx c36]; simp)
             refine ret2c rfl ag41 hF hS (i := 4) rfl sz41 rfl rfl ⟨[], ?_, ?_⟩
             · rw [e]; rfl
             · rw [e]; exact (Sep.nilpart (hS.pick [] (by decide) rfl) (machine_inner0 _)))
      refine wp_skip ?_
      refine hK20 _ _ ?_
      refine wp_region_todo (is := [0, 1, 3, 4, 5, 6, 2, 7, 8, 9, 10, 11]) [] [9, 10, 11] (by kernel_rfl) hF hS ⟨trivial, by decide, by decide, by decide⟩ (by kernel_rfl) ?_; clear hF; intro hl_ wd hSd
      refine todo_pure hl_ (by kernel_rfl) rfl rfl rfl rfl rfl (fun a w_ hF => r_field fo41_1 (hF.ev rfl)) ?_
      refine todo_load [9, 10, 11] hl_ (by kernel_rfl) rfl rfl rfl rfl rfl (fun a w_ hF hB_ => r_load1 sc38 (hF.ev rfl) ((hSd.ext hB_).box (i := 1) rfl rfl)) ?_
      refine todo_pure hl_ (by kernel_rfl) rfl rfl rfl rfl rfl (fun a w_ hF => r_move (hF.ev rfl)) ?_
      refine todo_pure hl_ (by kernel_rfl) rfl rfl rfl rfl rfl (fun a w_ hF => r_move (hF.ev rfl)) ?_
      obtain ⟨g43, o43, m43, q43, cs43, hv43, hm43, hl43, hk43, hz43, hc43⟩ := Rd.idx (ha) hx
      obtain ⟨v43, rfl, hr43⟩ := hk43; obtain ⟨Ae43, qe43, rfl, _, hme43⟩ := hr43.sl; unfold maxLen at hme43
      refine todo_pure hl_ (by kernel_rfl) rfl rfl rfl rfl rfl (fun a w_ hF => r_index sl38 ((hF.ev rfl).trans hv43) (hF.ev rfl) (by omega) (by omega)) ?_
      refine todo_load [7, 8, 9, 10, 11] hl_ (by kernel_rfl) rfl rfl rfl rfl rfl (fun a w_ hF hB_ => r_load1 sc76 (hF.ev rfl) (cellB (hSd.ext hB_).old (hc43 0 _ rfl))) ?_
      refine todo_op hl_ rfl (by kernel_rfl) rfl rfl rfl rfl rfl (fun a w_ hF hS => r_bslice opEK [] [] rfl mk76 rfl trivial rfl rfl rfl rfl) ?_; intro gl_40
      refine todo_op hl_ rfl (by kernel_rfl) rfl rfl rfl rfl rfl (fun a w_ hF hS => r_append0 (hS.rd hr43) mk76 rfl (by omega) (by unfold maxLen; omega) (hF.ev rfl) (hF.ev rfl)) ?_; intro s45
      refine todo_op hl_ rfl (by kernel_rfl) rfl rfl rfl rfl rfl (fun a w_ hF hS => r_bslice (rawEK 1) [sv s45] [raw (sliceEK opEK) (at0 ps (k : Int)) [s45]] rfl mk38 rfl ⟨rfl, (hF.ev rfl), trivial⟩ rfl rfl rfl rfl) ?_; intro gl_46
      refine todo_fin hl_ rfl (by kernel_rfl) (tl := [_, _, _]) rfl ?_; clear hS a; intro a w28 hF hA_
      have hS := hA_.sep; clear hA_
      clear hl_; try clear hSd; try clear wd
      try dsimp only [List.cons_append, List.nil_append, List.set] at hS
      have hu_ := hS.own_rd (i := 0) rfl
      replace hS := hS.pull (p := 1) rfl; dsimp only [List.eraseIdx] at hS
      replace hS := hS.own_part (s := (_, _, _))
      replace hS := hS.pull (p := 3) rfl; dsimp only [List.eraseIdx] at hS
      refine wl_appendn (ek := (sliceEK opEK)) hF hS rfl hu_ mk38 rfl (hF.ev rfl) (hF.ev rfl) (by simp; omega) (by unfold maxLen; simp; omega) ?_; clear hF a hu_; intro A_47 c_47 w29 a hS_ hF; replace hS := hS_; clear hS_
      refine wl hF rfl rfl rfl (r_field fo41_1 (hF.ev rfl)) ?_; clear hF a; intro a hF
      refine wl_store hF hS (i := 3) rfl sz38 (hF.ev rfl) (hF.ev rfl) rfl rfl ?_; intro w30 hS_; replace hS := hS_; clear hS_; dsimp only [List.set, Nat.reduceAdd] at hS
      refine wl_nil ⟨rfl, ?_⟩
      simp only [Exit.then, Exit.inBlock, ↓reduceIte]
      refine hK19 _ _ ?_
      refine wp_region_lit ?_
      refine wl_mvs (A := [_]) hF rfl ?_; clear hF a; intro a hF
      refine wl hF rfl rfl rfl (r_add (hF.ev rfl) ec) ?_; clear hF a; intro a hF
      refine wl_mvs (A := [_]) hF rfl ?_; clear hF a; intro a hF
      refine wl_nil ?_
      try simp only [Exit.then, Exit.inBlock, ↓reduceIte]
      rw [← take_at0 (by omega)] at hS
      refine ⟨(k + 1, (_, _, _)), ⟨by dsimp only; omega, all_nxt hp hx c36⟩, (hS.pick [0, 3, 4, 5, 6, 7] (by decide) rfl), (((((hF.nil.keep hF (t := 6) rfl).keep hF (t := 5) rfl).keep hF (t := 4) rfl).keep hF (t := 1) rfl).keepE hF (t := 7) rfl (wk (by omega))), by dsimp only; omega⟩
    refine wp_exit ?_
    simp only [Exit.then, Exit.inBlock, ↓reduceIte]
    refine hK15 _ _ ?_
    refine ws fun K23 hK23 => ?_
    refine wl hF rfl rfl rfl (r_loadn ag41 (hF.ev rfl) (hS.box_rd (i := 1) rfl) sz41) ?_; clear hF a; intro a hF
    refine wl_storew hF hS (i := 4) rfl (hF.ev rfl) (hF.ev rfl) sz41 rfl rfl ?_; intro w31 hS_; replace hS := hS_; clear hS_; dsimp only [List.set, Nat.reduceAdd] at hS
    refine wl_mvs (A := [_]) hF rfl ?_; clear hF a; intro a hF
    refine wl_nil (hK23 _ _ ?_)
    refine wp_ret ?_
    try simp only [Exit.then, Exit.inBlock, ↓reduceIte]
    obtain rfl : k = ps.length := by omega
    rw [List.take_length] at hS
    first
      | (have e : newMachine c ps = (⟨newState c, ps, List.replicate c.threads.toNat 0, [], 0⟩, true) := if_pos (by unfold progsOk; rw [decide_eq_true c17.1, decide_eq_true c17.2, all_done hp (Nat.le_refl _)]; rfl)
         replace hS := hS.pull (p := 2) rfl; dsimp only [List.eraseIdx] at hS
         replace hS : Sep W (Own intEK (sv (vs20.getD 0 (none, 0, 0))) (newState c).cells :: Own intEK (sv (vs20.getD 1 (none, 0, 0))) (newState c).generations :: Own threadEK (sv (vs20.getD 2 (none, 0, 0))) (newState c).threads :: _) _ := hS.part_open
         replace hS := hS.own_nil eventEK
         refine ret2c rfl ag41 hF hS (i := 7) rfl sz41 rfl rfl ⟨[vs20.getD 0 (none, 0, 0), vs20.getD 1 (none, 0, 0), vs20.getD 2 (none, 0, 0), q, (some ⟨gm_23, 0, none⟩, c.threads.toNat, c.threads.toNat), (none, 0, 0)], ?_, ?_⟩
         · rw [e]; rfl
         · rw [e]; exact hS.part_of [1, 2, 3, 4, 6, 0] (by decide) rfl)

set_option maxHeartbeats 4000000 in
set_option maxRecDepth 20000 in
theorem implNewMachine_c {W : World} {c : Config} {va : Value} {ps : List (List Sl.Op)} (ha : (sliceEK opEK).Rd W va ps) (hz : ps.length + crow List.length ps ≤ 1048576) : Calls Try.prog 21 #[.agg c.enc.toArray, va] W (Ret (Mk W (fun vs => .tuple #[.agg (machineEK.cells (newMachine c ps).1 vs).toArray, .bool (newMachine c ps).2]) (fun vs => [Part machineEK (newMachine c ps).1 vs]))) := by
  refine calls_fr Try.func21 rfl Try.ntmps21 rfl ?_
  intro a hF
  have hS := Sep.refl W
  obtain ⟨A_a, q_a, rfl, hq_a, hn_a⟩ := ha.sl; unfold maxLen at hn_a
  refine ws fun K1 hK1 => ?_
  refine wl_box (cs := [_, _, _, _, _, _]) hF hS rfl (hF.ev rfl) rfl ?_; clear hF a; intro g1 w1 a hS_ hB_ hF; replace hS := hS_; clear hS_ hB_
  refine wl_alloc hF hS rfl zr41 ?_; clear hF a; intro g2 w2 a hS_ hB_ hF; replace hS := hS_; clear hS_ hB_
  refine wl_mvs (A := [_]) hF rfl ?_; clear hF a; intro a hF
  refine wl_nil (hK1 _ _ ?_)
  refine wp_seq_k fun K2 hK2 => ?_
  refine ws fun K3 hK3 => ?_
  refine wl hF rfl rfl rfl (r_loadn ag34 (hF.ev rfl) (hS.box_rd (i := 1) rfl) sz34) ?_; clear hF a; intro a hF
  refine wl_mvs (A := [_]) hF rfl ?_; clear hF a; intro a hF
  refine wl_call hF rfl rfl rfl (r_call2 en64 (hF.ev rfl) (hF.ev rfl)) (arePrograms_c (hS.rd ha)) ?_; clear hF a; rintro v w3 a ⟨rfl, hB_⟩ hF; replace hS := hS.ext hB_; clear hB_
  refine wl hF rfl rfl rfl (r_not (hF.ev rfl)) ?_; clear hF a; intro a hF
  refine wl_nil (hK3 _ _ ?_)
  refine wc_fx (t := 9) hF rfl ?_ ?_ <;> clear hF <;> intro c9 hF <;> try simp only [zb1, zb2, zb3, zb4, zb5, zb6, zb7, zb8] at c9
  ·
    refine ws fun K4 hK4 => ?_
    refine wl hF rfl rfl rfl (r_build (bd41) trivial) ?_; clear hF a; intro a hF
    refine wl_storew hF hS (i := 0) rfl (hF.ev rfl) (hF.ev rfl) sz41 rfl rfl ?_; intro w4 hS_; replace hS := hS_; clear hS_; dsimp only [List.set, Nat.reduceAdd] at hS
    refine wl_mvs (A := [_]) hF rfl ?_; clear hF a; intro a hF
    refine wl_nil (hK4 _ _ ?_)
    refine wp_ret ?_
    try simp only [Exit.then, Exit.inBlock, ↓reduceIte]
    first
      | (have e : newMachine c ps = (zeroMachine, false) := if_neg (by rw [c9]; decide)
         refine ret2c rfl ag41 hF hS (i := 0) rfl sz41 rfl rfl ⟨[], ?_, ?_⟩
         · rw [e]; rfl
         · rw [e]; exact (Sep.nilpart (hS.pick [] (by decide) rfl) (machine_inner0 _)))
  have hpo := c9; unfold progsOk at hpo; simp only [zb4, zb7] at hpo
  have hb := hpo.1.1; unfold Config.ok at hb
  refine wp_skip ?_
  refine hK2 _ _ ?_
  refine wp_seq_k fun K5 hK5 => ?_
  refine wp_region_todo (is := [0, 2, 4, 5, 1, 3, 6, 7, 8, 9]) [] [8, 9] (by kernel_rfl) hF hS ⟨trivial, by decide, by decide, by decide⟩ (by kernel_rfl) ?_; clear hF; intro hl_ wd hSd
  refine todo_load [1, 3, 7, 8, 9] hl_ (by kernel_rfl) rfl rfl rfl rfl rfl (fun a w_ hF hB_ => r_loadn ag34 (hF.ev rfl) ((hSd.ext hB_).box_rd (i := 1) rfl) sz34) ?_
  refine todo_pure hl_ (by kernel_rfl) rfl rfl rfl rfl rfl (fun a w_ hF => r_move (hF.ev rfl)) ?_
  refine todo_pure hl_ (by kernel_rfl) rfl rfl rfl rfl rfl (fun a w_ hF => r_field fo34_0 (hF.ev rfl)) ?_
  refine todo_load [6, 7, 8, 9] hl_ (by kernel_rfl) rfl rfl rfl rfl rfl (fun a w_ hF hB_ => r_load1 sc3 (hF.ev rfl) ((hSd.ext hB_).box (i := 1) rfl rfl)) ?_
  refine todo_fork [(1, [3, 6, 7, 8, 9]), (6, [1, 3, 7, 8, 9])] hl_ rfl (by kernel_rfl) (List.forall_mem_cons.2 ⟨?_, List.forall_mem_cons.2 ⟨?_, fun _ h_ => nomatch h_⟩⟩)
  ·
    refine op_mk rfl rfl rfl rfl rfl rfl (fun a w_ hF => r_call1 en65 (hF.ev rfl)) (fun w_ hS => implNewState_c _) ?_; rintro vs12
    refine todo_fork [(3, [6, 7, 8, 9]), (6, [3, 7, 8, 9])] hl_ rfl (by kernel_rfl) (List.forall_mem_cons.2 ⟨?_, List.forall_mem_cons.2 ⟨?_, fun _ h_ => nomatch h_⟩⟩)
    ·
      refine op_mk rfl rfl rfl rfl rfl rfl (fun a w_ hF => r_call1 en66 (hF.ev rfl)) (fun w_ hS => copyPrograms_c (hS.rd ha) (by omega)) ?_; rintro s14
      refine todo_op hl_ rfl (by kernel_rfl) rfl rfl rfl rfl rfl (fun a w_ hF hS => r_make0 intEK 0 [] mk24 rfl (fun _ => Sat.nil _ _) ((hF.ev rfl).trans (show vi (c.threads) = Value.int .i64 ((Int.toNat (c.threads) : Nat) : Int) from by rw [Int.toNat_of_nonneg (by omega)])) (by omega) (by unfold maxLen; omega)) ?_; intro gm_17
      refine todo_pure hl_ (by kernel_rfl) rfl rfl rfl rfl rfl (fun a w_ hF => r_build (bd41_0_1_2 _ _ _ _ _ _ _ _ _ _ _ _ _ _ _ _ _ _ _ _ _ _ _ _ _) ⟨rfl, (hF.ev rfl), rfl, (hF.ev rfl), rfl, (hF.ev rfl), trivial⟩) ?_
      refine todo_fin hl_ rfl (by kernel_rfl) (tl := [_, _]) rfl ?_; clear hS a; intro a w6 hF hA_
      have hS := hA_.sep; clear hA_
      clear hl_; try clear hSd; try clear wd
      try dsimp only [List.cons_append, List.nil_append, List.set] at hS
      refine wl_storew hF hS (i := 3) rfl (hF.ev rfl) (hF.ev rfl) sz41 rfl rfl ?_; intro w7 hS_; replace hS := hS_; clear hS_; dsimp only [List.set, Nat.reduceAdd] at hS
      refine wl_mvs (A := [_]) hF rfl ?_; clear hF a; intro a hF
      refine wl_nil ⟨rfl, ?_⟩
      refine hK5 _ _ ?_
      refine wp_ret ?_
      try simp only [Exit.then, Exit.inBlock, ↓reduceIte]
      first
        | (have e : newMachine c ps = (⟨newState c, ps, List.replicate c.threads.toNat 0, [], 0⟩, true) := if_pos (c9)
           replace hS := hS.pull (p := 2) rfl; dsimp only [List.eraseIdx] at hS
           replace hS : Sep W (Own intEK (sv (vs12.getD 0 (none, 0, 0))) (newState c).cells :: Own intEK (sv (vs12.getD 1 (none, 0, 0))) (newState c).generations :: Own threadEK (sv (vs12.getD 2 (none, 0, 0))) (newState c).threads :: _) _ := hS.part_open
           replace hS := hS.own_nil eventEK
           refine ret2c rfl ag41 hF hS (i := 6) rfl sz41 rfl rfl ⟨[vs12.getD 0 (none, 0, 0), vs12.getD 1 (none, 0, 0), vs12.getD 2 (none, 0, 0), s14, (some ⟨gm_17, 0, none⟩, c.threads.toNat, c.threads.toNat), (none, 0, 0)], ?_, ?_⟩
           · rw [e]; rfl
           · rw [e]; exact hS.part_of [1, 2, 3, 5, 4, 0] (by decide) rfl)
    ·
      refine op_op rfl rfl rfl rfl rfl rfl (fun a w_ hF hS => r_make0 intEK 0 [] mk24 rfl (fun _ => Sat.nil _ _) ((hF.ev rfl).trans (show vi (c.threads) = Value.int .i64 ((Int.toNat (c.threads) : Nat) : Int) from by rw [Int.toNat_of_nonneg (by omega)])) (by omega) (by unfold maxLen; omega)) ?_; intro gm_17
      refine todo_mk hl_ rfl (by kernel_rfl) rfl rfl rfl rfl rfl (fun a w_ hF => r_call1 en66 (hF.ev rfl)) (fun w_ hS => copyPrograms_c (hS.rd ha) (by omega)) ?_; rintro s14
      refine todo_pure hl_ (by kernel_rfl) rfl rfl rfl rfl rfl (fun a w_ hF => r_build (bd41_0_1_2 _ _ _ _ _ _ _ _ _ _ _ _ _ _ _ _ _ _ _ _ _ _ _ _ _) ⟨rfl, (hF.ev rfl), rfl, (hF.ev rfl), rfl, (hF.ev rfl), trivial⟩) ?_
      refine todo_fin hl_ rfl (by kernel_rfl) (tl := [_, _]) rfl ?_; clear hS a; intro a w9 hF hA_
      have hS := hA_.sep; clear hA_
      clear hl_; try clear hSd; try clear wd
      try dsimp only [List.cons_append, List.nil_append, List.set] at hS
      refine wl_storew hF hS (i := 3) rfl (hF.ev rfl) (hF.ev rfl) sz41 rfl rfl ?_; intro w10 hS_; replace hS := hS_; clear hS_; dsimp only [List.set, Nat.reduceAdd] at hS
      refine wl_mvs (A := [_]) hF rfl ?_; clear hF a; intro a hF
      refine wl_nil ⟨rfl, ?_⟩
      refine hK5 _ _ ?_
      refine wp_ret ?_
      try simp only [Exit.then, Exit.inBlock, ↓reduceIte]
      first
        | (have e : newMachine c ps = (⟨newState c, ps, List.replicate c.threads.toNat 0, [], 0⟩, true) := if_pos (c9)
           replace hS := hS.pull (p := 2) rfl; dsimp only [List.eraseIdx] at hS
           replace hS : Sep W (Own intEK (sv (vs12.getD 0 (none, 0, 0))) (newState c).cells :: Own intEK (sv (vs12.getD 1 (none, 0, 0))) (newState c).generations :: Own threadEK (sv (vs12.getD 2 (none, 0, 0))) (newState c).threads :: _) _ := hS.part_open
           replace hS := hS.own_nil eventEK
           refine ret2c rfl ag41 hF hS (i := 6) rfl sz41 rfl rfl ⟨[vs12.getD 0 (none, 0, 0), vs12.getD 1 (none, 0, 0), vs12.getD 2 (none, 0, 0), s14, (some ⟨gm_17, 0, none⟩, c.threads.toNat, c.threads.toNat), (none, 0, 0)], ?_, ?_⟩
           · rw [e]; rfl
           · rw [e]; exact hS.part_of [1, 2, 3, 4, 5, 0] (by decide) rfl)
  ·
    refine op_op rfl rfl rfl rfl rfl rfl (fun a w_ hF hS => r_make0 intEK 0 [] mk24 rfl (fun _ => Sat.nil _ _) ((hF.ev rfl).trans (show vi (c.threads) = Value.int .i64 ((Int.toNat (c.threads) : Nat) : Int) from by rw [Int.toNat_of_nonneg (by omega)])) (by omega) (by unfold maxLen; omega)) ?_; intro gm_17
    refine todo_mk hl_ rfl (by kernel_rfl) rfl rfl rfl rfl rfl (fun a w_ hF => r_call1 en65 (hF.ev rfl)) (fun w_ hS => implNewState_c _) ?_; rintro vs12
    refine todo_mk hl_ rfl (by kernel_rfl) rfl rfl rfl rfl rfl (fun a w_ hF => r_call1 en66 (hF.ev rfl)) (fun w_ hS => copyPrograms_c (hS.rd ha) (by omega)) ?_; rintro s14
    refine todo_pure hl_ (by kernel_rfl) rfl rfl rfl rfl rfl (fun a w_ hF => r_build (bd41_0_1_2 _ _ _ _ _ _ _ _ _ _ _ _ _ _ _ _ _ _ _ _ _ _ _ _ _) ⟨rfl, (hF.ev rfl), rfl, (hF.ev rfl), rfl, (hF.ev rfl), trivial⟩) ?_
    refine todo_fin hl_ rfl (by kernel_rfl) (tl := [_, _]) rfl ?_; clear hS a; intro a w12 hF hA_
    have hS := hA_.sep; clear hA_
    clear hl_; try clear hSd; try clear wd
    try dsimp only [List.cons_append, List.nil_append, List.set] at hS
    refine wl_storew hF hS (i := 3) rfl (hF.ev rfl) (hF.ev rfl) sz41 rfl rfl ?_; intro w13 hS_; replace hS := hS_; clear hS_; dsimp only [List.set, Nat.reduceAdd] at hS
    refine wl_mvs (A := [_]) hF rfl ?_; clear hF a; intro a hF
    refine wl_nil ⟨rfl, ?_⟩
    refine hK5 _ _ ?_
    refine wp_ret ?_
    try simp only [Exit.then, Exit.inBlock, ↓reduceIte]
    first
      | (have e : newMachine c ps = (⟨newState c, ps, List.replicate c.threads.toNat 0, [], 0⟩, true) := if_pos (c9)
         replace hS := hS.pull (p := 1) rfl; dsimp only [List.eraseIdx] at hS
         replace hS : Sep W (Own intEK (sv (vs12.getD 0 (none, 0, 0))) (newState c).cells :: Own intEK (sv (vs12.getD 1 (none, 0, 0))) (newState c).generations :: Own threadEK (sv (vs12.getD 2 (none, 0, 0))) (newState c).threads :: _) _ := hS.part_open
         replace hS := hS.own_nil eventEK
         refine ret2c rfl ag41 hF hS (i := 6) rfl sz41 rfl rfl ⟨[vs12.getD 0 (none, 0, 0), vs12.getD 1 (none, 0, 0), vs12.getD 2 (none, 0, 0), s14, (some ⟨gm_17, 0, none⟩, c.threads.toNat, c.threads.toNat), (none, 0, 0)], ?_, ?_⟩
         · rw [e]; rfl
         · rw [e]; exact hS.part_of [1, 2, 3, 4, 5, 0] (by decide) rfl)

end Go.Proofs.Ytjloiphocdaahaa.Wk
