/- FnSteps, for all byte strings: at the state and thread drawn, the program's Step does what the reference's does, exactly when the thread runs; it changes no other thread and at most one shared cell, counts the step and the change, and a step that loads changes no cell. Condition: the law's own guard on size. -/
import Derived.Test.YtgofolgogfmhgaaGreatCsvE
import Derived.Test.YtgofolgogfmhgaaGreatRows
set_option maxHeartbeats 4000000
set_option maxRecDepth 20000
namespace Go.Proofs.YtgofolgogfmhgaaGreat.Wk
open Go Go.RowKit Sl
set_option linter.unusedVariables false
set_option linter.unusedSimpArgs false
set_option maxRecDepth 20000
def swaps : List Int := [4, 14, 18, 31, 40, 42, 44, 61]
def stores : List Int := [2, 5, 11, 15, 20, 21, 32, 33, 34, 36, 41, 46, 47, 62, 63, 80]
def accessOf (pc : Int) : ByteArray := if pc ∈ swaps then ⟨#[115, 119, 97, 112]⟩ else if pc ∈ stores then ⟨#[115, 116, 111, 114, 101]⟩ else ⟨#[108, 111, 97, 100]⟩
def nextAccess (s : State) (p : Int) : ByteArray := if isRunning s p = true then accessOf (at0 s.threads p).pc else ⟨#[]⟩
theorem specNextAccess_c {W : World} {s : Sl.State} {cs : List Value} (hm : stateEK.K W s cs) (hw : s.wf) (hz : (s.size : Int) ≤ 1048576) {p : Int} (hp : int64 p) : Calls Tryz.prog 36 #[.agg cs.toArray, vi p] W (Ret fun v w' => v = .string (nextAccess s p) ∧ Below W.heap.size W w') := by
 refine cfr Tryz.func36 Tryz.ntmps36 fun a hF => ?_
 have hS := Sep.refl W
 obtain ⟨v0, v1, v2, rfl, r0, r1, r2⟩ := hm
 have hm : stateEK.K W s (s.encv v0 v1 v2) := ⟨_, _, _, rfl, r0, r1, r2⟩
 obtain ⟨A_a, q_a, rfl, hq_a, hn_a⟩ := r0.sl; unfold maxLen at hn_a
 obtain ⟨A_b, q_b, rfl, hq_b, hn_b⟩ := r1.sl; unfold maxLen at hn_b
 obtain ⟨A_c, q_c, rfl, hq_c, hn_c⟩ := r2.sl; unfold maxLen at hn_c
 have hwl : IntKind.i64.wrap ((s.threads.length : Int) - 1) = s.threads.length - 1 := w64_id (by omega) (by omega)
 refine ws fun K1 hK1 => wl_box (cs := [_, _, _, _, _, _, _, _, _, _, _, _, _]) hF hS rfl (hF.ev rfl) rfl fun g1 w1 a hS _ hF => ge hK1 hF rfl fun a hF => wp_seq_k fun K2 hK2 => ws fun K3 hK3 => gb 2 0 hF hS rfl rfl rfl fun a hF => ckr hF hS rfl (specIsRunning_c (hS.k hm) hw (by omega) hp) fun w2 a hS hF => ?_
 refine ge hK3 hF rfl fun a hF => cx 8 hF rfl (fun c8 hF => ?_) fun c8 hF => ?_
 ·
  refine rg hF rfl fun a hF => ?_
  refine xr ?_
  refine ret1 rfl hF rfl ⟨congrArg Value.string (Eq.symm ?_), hS.old⟩
  unfold nextAccess
  first
    | exact if_neg (by rw [c8]; decide)
    | (rw [if_pos c8]; unfold accessOf
       first
       | exact if_pos (by rw [c15]; decide)
       | (rw [if_neg (by rw [c15]; decide)]; exact if_pos (by rw [c15]; decide))
       | (rw [if_neg (by rw [c24]; decide)]; exact if_pos (by rw [c24]; decide))
       | rw [if_neg (by unfold swaps; simp only [List.mem_cons, List.not_mem_nil, or_false]; omega), if_neg (by unfold stores; simp only [List.mem_cons, List.not_mem_nil, or_false]; omega)])
 have hru := c8; unfold isRunning at hru; simp only [Bool.and_eq_true, decide_eq_true_eq] at hru
 have hb1 := hru.1.2
 refine wp_skip <| hK2 _ _ <| wp_seq_k fun K5 hK5 => ws fun K6 hK6 => gb 3 0 hF hS rfl rfl rfl fun a hF => ?_
 obtain ⟨g12, o12, m12, q12, cs12, hv12, hm12, hl12, hk12, hz12, hc12⟩ := Rd.at (r2) (a := a) (X := .tmp 11) (hF.ev rfl) (by omega) (by omega)
 have hkk12 := hk12; obtain ⟨v12_0, v12_1, v12_2, v12_3, v12_4, rfl, r12_0, r12_1, r12_2, r12_3, r12_4⟩ := hk12
 refine wl hF rfl rfl rfl (r_index sl27 ((hF.ev rfl).trans hv12) (hF.ev rfl) (by omega) (by first | omega | (simp at hm12; omega))) fun a hF => ?_
 refine ga 1 hF rfl fun a hF => wl hF rfl rfl rfl (r_load1 sc3 (hF.ev rfl) (cellB hS.old (hc12 0 _ rfl))) fun a hF => wl_nil <| hK6 _ _ <| wp_block <| wp_seq_k fun K7 hK7 => rg hF rfl fun a hF => cx 15 hF rfl (fun c15 hF => ?_) fun c15 hF => ?_
 ·
  refine wp_skip <| hK7 _ _ <| wc_true (hF.ev rfl) <| rg hF rfl fun a hF => ?_
  refine xr ?_
  refine ret1 rfl hF rfl ⟨congrArg Value.string (Eq.symm ?_), hS.old⟩
  unfold nextAccess
  first
    | exact if_neg (by rw [c8]; decide)
    | (rw [if_pos c8]; unfold accessOf
       first
       | exact if_pos (by rw [c15]; decide)
       | (rw [if_neg (by rw [c15]; decide)]; exact if_pos (by rw [c15]; decide))
       | (rw [if_neg (by rw [c24]; decide)]; exact if_pos (by rw [c24]; decide))
       | rw [if_neg (by unfold swaps; simp only [List.mem_cons, List.not_mem_nil, or_false]; omega), if_neg (by unfold stores; simp only [List.mem_cons, List.not_mem_nil, or_false]; omega)])
 refine rg hF rfl fun a hF => cx 15 hF rfl (fun c15 hF => ?_) fun c15 hF => ?_
 ·
  refine wp_skip <| hK7 _ _ <| wc_true (hF.ev rfl) <| rg hF rfl fun a hF => ?_
  refine xr ?_
  refine ret1 rfl hF rfl ⟨congrArg Value.string (Eq.symm ?_), hS.old⟩
  unfold nextAccess
  first
    | exact if_neg (by rw [c8]; decide)
    | (rw [if_pos c8]; unfold accessOf
       first
       | exact if_pos (by rw [c15]; decide)
       | (rw [if_neg (by rw [c15]; decide)]; exact if_pos (by rw [c15]; decide))
       | (rw [if_neg (by rw [c24]; decide)]; exact if_pos (by rw [c24]; decide))
       | rw [if_neg (by unfold swaps; simp only [List.mem_cons, List.not_mem_nil, or_false]; omega), if_neg (by unfold stores; simp only [List.mem_cons, List.not_mem_nil, or_false]; omega)])
 refine rg hF rfl fun a hF => cx 15 hF rfl (fun c15 hF => ?_) fun c15 hF => ?_
 ·
  refine wp_skip <| hK7 _ _ <| wc_true (hF.ev rfl) <| rg hF rfl fun a hF => ?_
  refine xr ?_
  refine ret1 rfl hF rfl ⟨congrArg Value.string (Eq.symm ?_), hS.old⟩
  unfold nextAccess
  first
    | exact if_neg (by rw [c8]; decide)
    | (rw [if_pos c8]; unfold accessOf
       first
       | exact if_pos (by rw [c15]; decide)
       | (rw [if_neg (by rw [c15]; decide)]; exact if_pos (by rw [c15]; decide))
       | (rw [if_neg (by rw [c24]; decide)]; exact if_pos (by rw [c24]; decide))
       | rw [if_neg (by unfold swaps; simp only [List.mem_cons, List.not_mem_nil, or_false]; omega), if_neg (by unfold stores; simp only [List.mem_cons, List.not_mem_nil, or_false]; omega)])
 refine rg hF rfl fun a hF => cx 15 hF rfl (fun c15 hF => ?_) fun c15 hF => ?_
 ·
  refine wp_skip <| hK7 _ _ <| wc_true (hF.ev rfl) <| rg hF rfl fun a hF => ?_
  refine xr ?_
  refine ret1 rfl hF rfl ⟨congrArg Value.string (Eq.symm ?_), hS.old⟩
  unfold nextAccess
  first
    | exact if_neg (by rw [c8]; decide)
    | (rw [if_pos c8]; unfold accessOf
       first
       | exact if_pos (by rw [c15]; decide)
       | (rw [if_neg (by rw [c15]; decide)]; exact if_pos (by rw [c15]; decide))
       | (rw [if_neg (by rw [c24]; decide)]; exact if_pos (by rw [c24]; decide))
       | rw [if_neg (by unfold swaps; simp only [List.mem_cons, List.not_mem_nil, or_false]; omega), if_neg (by unfold stores; simp only [List.mem_cons, List.not_mem_nil, or_false]; omega)])
 refine rg hF rfl fun a hF => cx 15 hF rfl (fun c15 hF => ?_) fun c15 hF => ?_
 ·
  refine wp_skip <| hK7 _ _ <| wc_true (hF.ev rfl) <| rg hF rfl fun a hF => ?_
  refine xr ?_
  refine ret1 rfl hF rfl ⟨congrArg Value.string (Eq.symm ?_), hS.old⟩
  unfold nextAccess
  first
    | exact if_neg (by rw [c8]; decide)
    | (rw [if_pos c8]; unfold accessOf
       first
       | exact if_pos (by rw [c15]; decide)
       | (rw [if_neg (by rw [c15]; decide)]; exact if_pos (by rw [c15]; decide))
       | (rw [if_neg (by rw [c24]; decide)]; exact if_pos (by rw [c24]; decide))
       | rw [if_neg (by unfold swaps; simp only [List.mem_cons, List.not_mem_nil, or_false]; omega), if_neg (by unfold stores; simp only [List.mem_cons, List.not_mem_nil, or_false]; omega)])
 refine rg hF rfl fun a hF => cx 15 hF rfl (fun c15 hF => ?_) fun c15 hF => ?_
 ·
  refine wp_skip <| hK7 _ _ <| wc_true (hF.ev rfl) <| rg hF rfl fun a hF => ?_
  refine xr ?_
  refine ret1 rfl hF rfl ⟨congrArg Value.string (Eq.symm ?_), hS.old⟩
  unfold nextAccess
  first
    | exact if_neg (by rw [c8]; decide)
    | (rw [if_pos c8]; unfold accessOf
       first
       | exact if_pos (by rw [c15]; decide)
       | (rw [if_neg (by rw [c15]; decide)]; exact if_pos (by rw [c15]; decide))
       | (rw [if_neg (by rw [c24]; decide)]; exact if_pos (by rw [c24]; decide))
       | rw [if_neg (by unfold swaps; simp only [List.mem_cons, List.not_mem_nil, or_false]; omega), if_neg (by unfold stores; simp only [List.mem_cons, List.not_mem_nil, or_false]; omega)])
 refine rg hF rfl fun a hF => cx 15 hF rfl (fun c15 hF => ?_) fun c15 hF => ?_
 ·
  refine wp_skip <| hK7 _ _ <| wc_true (hF.ev rfl) <| rg hF rfl fun a hF => ?_
  refine xr ?_
  refine ret1 rfl hF rfl ⟨congrArg Value.string (Eq.symm ?_), hS.old⟩
  unfold nextAccess
  first
    | exact if_neg (by rw [c8]; decide)
    | (rw [if_pos c8]; unfold accessOf
       first
       | exact if_pos (by rw [c15]; decide)
       | (rw [if_neg (by rw [c15]; decide)]; exact if_pos (by rw [c15]; decide))
       | (rw [if_neg (by rw [c24]; decide)]; exact if_pos (by rw [c24]; decide))
       | rw [if_neg (by unfold swaps; simp only [List.mem_cons, List.not_mem_nil, or_false]; omega), if_neg (by unfold stores; simp only [List.mem_cons, List.not_mem_nil, or_false]; omega)])
 refine wp_region_lit <| ge hK7 hF rfl fun a hF => cx 15 hF rfl (fun c15 hF => ?_) fun c15 hF => ?_
 ·
  refine rg hF rfl fun a hF => ?_
  refine xr ?_
  refine ret1 rfl hF rfl ⟨congrArg Value.string (Eq.symm ?_), hS.old⟩
  unfold nextAccess
  first
    | exact if_neg (by rw [c8]; decide)
    | (rw [if_pos c8]; unfold accessOf
       first
       | exact if_pos (by rw [c15]; decide)
       | (rw [if_neg (by rw [c15]; decide)]; exact if_pos (by rw [c15]; decide))
       | (rw [if_neg (by rw [c24]; decide)]; exact if_pos (by rw [c24]; decide))
       | rw [if_neg (by unfold swaps; simp only [List.mem_cons, List.not_mem_nil, or_false]; omega), if_neg (by unfold stores; simp only [List.mem_cons, List.not_mem_nil, or_false]; omega)])
 refine wp_seq_k fun K23 hK23 => rg hF rfl fun a hF => cx 24 hF rfl (fun c24 hF => ?_) fun c24 hF => ?_
 ·
  refine wp_skip <| hK23 _ _ <| wc_true (hF.ev rfl) <| rg hF rfl fun a hF => ?_
  refine xr ?_
  refine ret1 rfl hF rfl ⟨congrArg Value.string (Eq.symm ?_), hS.old⟩
  unfold nextAccess
  first
    | exact if_neg (by rw [c8]; decide)
    | (rw [if_pos c8]; unfold accessOf
       first
       | exact if_pos (by rw [c15]; decide)
       | (rw [if_neg (by rw [c15]; decide)]; exact if_pos (by rw [c15]; decide))
       | (rw [if_neg (by rw [c24]; decide)]; exact if_pos (by rw [c24]; decide))
       | rw [if_neg (by unfold swaps; simp only [List.mem_cons, List.not_mem_nil, or_false]; omega), if_neg (by unfold stores; simp only [List.mem_cons, List.not_mem_nil, or_false]; omega)])
 refine rg hF rfl fun a hF => cx 24 hF rfl (fun c24 hF => ?_) fun c24 hF => ?_
 ·
  refine wp_skip <| hK23 _ _ <| wc_true (hF.ev rfl) <| rg hF rfl fun a hF => ?_
  refine xr ?_
  refine ret1 rfl hF rfl ⟨congrArg Value.string (Eq.symm ?_), hS.old⟩
  unfold nextAccess
  first
    | exact if_neg (by rw [c8]; decide)
    | (rw [if_pos c8]; unfold accessOf
       first
       | exact if_pos (by rw [c15]; decide)
       | (rw [if_neg (by rw [c15]; decide)]; exact if_pos (by rw [c15]; decide))
       | (rw [if_neg (by rw [c24]; decide)]; exact if_pos (by rw [c24]; decide))
       | rw [if_neg (by unfold swaps; simp only [List.mem_cons, List.not_mem_nil, or_false]; omega), if_neg (by unfold stores; simp only [List.mem_cons, List.not_mem_nil, or_false]; omega)])
 refine rg hF rfl fun a hF => cx 24 hF rfl (fun c24 hF => ?_) fun c24 hF => ?_
 ·
  refine wp_skip <| hK23 _ _ <| wc_true (hF.ev rfl) <| rg hF rfl fun a hF => ?_
  refine xr ?_
  refine ret1 rfl hF rfl ⟨congrArg Value.string (Eq.symm ?_), hS.old⟩
  unfold nextAccess
  first
    | exact if_neg (by rw [c8]; decide)
    | (rw [if_pos c8]; unfold accessOf
       first
       | exact if_pos (by rw [c15]; decide)
       | (rw [if_neg (by rw [c15]; decide)]; exact if_pos (by rw [c15]; decide))
       | (rw [if_neg (by rw [c24]; decide)]; exact if_pos (by rw [c24]; decide))
       | rw [if_neg (by unfold swaps; simp only [List.mem_cons, List.not_mem_nil, or_false]; omega), if_neg (by unfold stores; simp only [List.mem_cons, List.not_mem_nil, or_false]; omega)])
 refine rg hF rfl fun a hF => cx 24 hF rfl (fun c24 hF => ?_) fun c24 hF => ?_
 ·
  refine wp_skip <| hK23 _ _ <| wc_true (hF.ev rfl) <| rg hF rfl fun a hF => ?_
  refine xr ?_
  refine ret1 rfl hF rfl ⟨congrArg Value.string (Eq.symm ?_), hS.old⟩
  unfold nextAccess
  first
    | exact if_neg (by rw [c8]; decide)
    | (rw [if_pos c8]; unfold accessOf
       first
       | exact if_pos (by rw [c15]; decide)
       | (rw [if_neg (by rw [c15]; decide)]; exact if_pos (by rw [c15]; decide))
       | (rw [if_neg (by rw [c24]; decide)]; exact if_pos (by rw [c24]; decide))
       | rw [if_neg (by unfold swaps; simp only [List.mem_cons, List.not_mem_nil, or_false]; omega), if_neg (by unfold stores; simp only [List.mem_cons, List.not_mem_nil, or_false]; omega)])
 refine rg hF rfl fun a hF => cx 24 hF rfl (fun c24 hF => ?_) fun c24 hF => ?_
 ·
  refine wp_skip <| hK23 _ _ <| wc_true (hF.ev rfl) <| rg hF rfl fun a hF => ?_
  refine xr ?_
  refine ret1 rfl hF rfl ⟨congrArg Value.string (Eq.symm ?_), hS.old⟩
  unfold nextAccess
  first
    | exact if_neg (by rw [c8]; decide)
    | (rw [if_pos c8]; unfold accessOf
       first
       | exact if_pos (by rw [c15]; decide)
       | (rw [if_neg (by rw [c15]; decide)]; exact if_pos (by rw [c15]; decide))
       | (rw [if_neg (by rw [c24]; decide)]; exact if_pos (by rw [c24]; decide))
       | rw [if_neg (by unfold swaps; simp only [List.mem_cons, List.not_mem_nil, or_false]; omega), if_neg (by unfold stores; simp only [List.mem_cons, List.not_mem_nil, or_false]; omega)])
 refine rg hF rfl fun a hF => cx 24 hF rfl (fun c24 hF => ?_) fun c24 hF => ?_
 ·
  refine wp_skip <| hK23 _ _ <| wc_true (hF.ev rfl) <| rg hF rfl fun a hF => ?_
  refine xr ?_
  refine ret1 rfl hF rfl ⟨congrArg Value.string (Eq.symm ?_), hS.old⟩
  unfold nextAccess
  first
    | exact if_neg (by rw [c8]; decide)
    | (rw [if_pos c8]; unfold accessOf
       first
       | exact if_pos (by rw [c15]; decide)
       | (rw [if_neg (by rw [c15]; decide)]; exact if_pos (by rw [c15]; decide))
       | (rw [if_neg (by rw [c24]; decide)]; exact if_pos (by rw [c24]; decide))
       | rw [if_neg (by unfold swaps; simp only [List.mem_cons, List.not_mem_nil, or_false]; omega), if_neg (by unfold stores; simp only [List.mem_cons, List.not_mem_nil, or_false]; omega)])
 refine rg hF rfl fun a hF => cx 24 hF rfl (fun c24 hF => ?_) fun c24 hF => ?_
 ·
  refine wp_skip <| hK23 _ _ <| wc_true (hF.ev rfl) <| rg hF rfl fun a hF => ?_
  refine xr ?_
  refine ret1 rfl hF rfl ⟨congrArg Value.string (Eq.symm ?_), hS.old⟩
  unfold nextAccess
  first
    | exact if_neg (by rw [c8]; decide)
    | (rw [if_pos c8]; unfold accessOf
       first
       | exact if_pos (by rw [c15]; decide)
       | (rw [if_neg (by rw [c15]; decide)]; exact if_pos (by rw [c15]; decide))
       | (rw [if_neg (by rw [c24]; decide)]; exact if_pos (by rw [c24]; decide))
       | rw [if_neg (by unfold swaps; simp only [List.mem_cons, List.not_mem_nil, or_false]; omega), if_neg (by unfold stores; simp only [List.mem_cons, List.not_mem_nil, or_false]; omega)])
 refine rg hF rfl fun a hF => cx 24 hF rfl (fun c24 hF => ?_) fun c24 hF => ?_
 ·
  refine wp_skip <| hK23 _ _ <| wc_true (hF.ev rfl) <| rg hF rfl fun a hF => ?_
  refine xr ?_
  refine ret1 rfl hF rfl ⟨congrArg Value.string (Eq.symm ?_), hS.old⟩
  unfold nextAccess
  first
    | exact if_neg (by rw [c8]; decide)
    | (rw [if_pos c8]; unfold accessOf
       first
       | exact if_pos (by rw [c15]; decide)
       | (rw [if_neg (by rw [c15]; decide)]; exact if_pos (by rw [c15]; decide))
       | (rw [if_neg (by rw [c24]; decide)]; exact if_pos (by rw [c24]; decide))
       | rw [if_neg (by unfold swaps; simp only [List.mem_cons, List.not_mem_nil, or_false]; omega), if_neg (by unfold stores; simp only [List.mem_cons, List.not_mem_nil, or_false]; omega)])
 refine rg hF rfl fun a hF => cx 24 hF rfl (fun c24 hF => ?_) fun c24 hF => ?_
 ·
  refine wp_skip <| hK23 _ _ <| wc_true (hF.ev rfl) <| rg hF rfl fun a hF => ?_
  refine xr ?_
  refine ret1 rfl hF rfl ⟨congrArg Value.string (Eq.symm ?_), hS.old⟩
  unfold nextAccess
  first
    | exact if_neg (by rw [c8]; decide)
    | (rw [if_pos c8]; unfold accessOf
       first
       | exact if_pos (by rw [c15]; decide)
       | (rw [if_neg (by rw [c15]; decide)]; exact if_pos (by rw [c15]; decide))
       | (rw [if_neg (by rw [c24]; decide)]; exact if_pos (by rw [c24]; decide))
       | rw [if_neg (by unfold swaps; simp only [List.mem_cons, List.not_mem_nil, or_false]; omega), if_neg (by unfold stores; simp only [List.mem_cons, List.not_mem_nil, or_false]; omega)])
 refine rg hF rfl fun a hF => cx 24 hF rfl (fun c24 hF => ?_) fun c24 hF => ?_
 ·
  refine wp_skip <| hK23 _ _ <| wc_true (hF.ev rfl) <| rg hF rfl fun a hF => ?_
  refine xr ?_
  refine ret1 rfl hF rfl ⟨congrArg Value.string (Eq.symm ?_), hS.old⟩
  unfold nextAccess
  first
    | exact if_neg (by rw [c8]; decide)
    | (rw [if_pos c8]; unfold accessOf
       first
       | exact if_pos (by rw [c15]; decide)
       | (rw [if_neg (by rw [c15]; decide)]; exact if_pos (by rw [c15]; decide))
       | (rw [if_neg (by rw [c24]; decide)]; exact if_pos (by rw [c24]; decide))
       | rw [if_neg (by unfold swaps; simp only [List.mem_cons, List.not_mem_nil, or_false]; omega), if_neg (by unfold stores; simp only [List.mem_cons, List.not_mem_nil, or_false]; omega)])
 refine rg hF rfl fun a hF => cx 24 hF rfl (fun c24 hF => ?_) fun c24 hF => ?_
 ·
  refine wp_skip <| hK23 _ _ <| wc_true (hF.ev rfl) <| rg hF rfl fun a hF => ?_
  refine xr ?_
  refine ret1 rfl hF rfl ⟨congrArg Value.string (Eq.symm ?_), hS.old⟩
  unfold nextAccess
  first
    | exact if_neg (by rw [c8]; decide)
    | (rw [if_pos c8]; unfold accessOf
       first
       | exact if_pos (by rw [c15]; decide)
       | (rw [if_neg (by rw [c15]; decide)]; exact if_pos (by rw [c15]; decide))
       | (rw [if_neg (by rw [c24]; decide)]; exact if_pos (by rw [c24]; decide))
       | rw [if_neg (by unfold swaps; simp only [List.mem_cons, List.not_mem_nil, or_false]; omega), if_neg (by unfold stores; simp only [List.mem_cons, List.not_mem_nil, or_false]; omega)])
 refine rg hF rfl fun a hF => cx 24 hF rfl (fun c24 hF => ?_) fun c24 hF => ?_
 ·
  refine wp_skip <| hK23 _ _ <| wc_true (hF.ev rfl) <| rg hF rfl fun a hF => ?_
  refine xr ?_
  refine ret1 rfl hF rfl ⟨congrArg Value.string (Eq.symm ?_), hS.old⟩
  unfold nextAccess
  first
    | exact if_neg (by rw [c8]; decide)
    | (rw [if_pos c8]; unfold accessOf
       first
       | exact if_pos (by rw [c15]; decide)
       | (rw [if_neg (by rw [c15]; decide)]; exact if_pos (by rw [c15]; decide))
       | (rw [if_neg (by rw [c24]; decide)]; exact if_pos (by rw [c24]; decide))
       | rw [if_neg (by unfold swaps; simp only [List.mem_cons, List.not_mem_nil, or_false]; omega), if_neg (by unfold stores; simp only [List.mem_cons, List.not_mem_nil, or_false]; omega)])
 refine rg hF rfl fun a hF => cx 24 hF rfl (fun c24 hF => ?_) fun c24 hF => ?_
 ·
  refine wp_skip <| hK23 _ _ <| wc_true (hF.ev rfl) <| rg hF rfl fun a hF => ?_
  refine xr ?_
  refine ret1 rfl hF rfl ⟨congrArg Value.string (Eq.symm ?_), hS.old⟩
  unfold nextAccess
  first
    | exact if_neg (by rw [c8]; decide)
    | (rw [if_pos c8]; unfold accessOf
       first
       | exact if_pos (by rw [c15]; decide)
       | (rw [if_neg (by rw [c15]; decide)]; exact if_pos (by rw [c15]; decide))
       | (rw [if_neg (by rw [c24]; decide)]; exact if_pos (by rw [c24]; decide))
       | rw [if_neg (by unfold swaps; simp only [List.mem_cons, List.not_mem_nil, or_false]; omega), if_neg (by unfold stores; simp only [List.mem_cons, List.not_mem_nil, or_false]; omega)])
 refine rg hF rfl fun a hF => cx 24 hF rfl (fun c24 hF => ?_) fun c24 hF => ?_
 ·
  refine wp_skip <| hK23 _ _ <| wc_true (hF.ev rfl) <| rg hF rfl fun a hF => ?_
  refine xr ?_
  refine ret1 rfl hF rfl ⟨congrArg Value.string (Eq.symm ?_), hS.old⟩
  unfold nextAccess
  first
    | exact if_neg (by rw [c8]; decide)
    | (rw [if_pos c8]; unfold accessOf
       first
       | exact if_pos (by rw [c15]; decide)
       | (rw [if_neg (by rw [c15]; decide)]; exact if_pos (by rw [c15]; decide))
       | (rw [if_neg (by rw [c24]; decide)]; exact if_pos (by rw [c24]; decide))
       | rw [if_neg (by unfold swaps; simp only [List.mem_cons, List.not_mem_nil, or_false]; omega), if_neg (by unfold stores; simp only [List.mem_cons, List.not_mem_nil, or_false]; omega)])
 refine rg hF rfl fun a hF => cx 24 hF rfl (fun c24 hF => ?_) fun c24 hF => ?_
 ·
  refine wp_skip <| hK23 _ _ <| wc_true (hF.ev rfl) <| rg hF rfl fun a hF => ?_
  refine xr ?_
  refine ret1 rfl hF rfl ⟨congrArg Value.string (Eq.symm ?_), hS.old⟩
  unfold nextAccess
  first
    | exact if_neg (by rw [c8]; decide)
    | (rw [if_pos c8]; unfold accessOf
       first
       | exact if_pos (by rw [c15]; decide)
       | (rw [if_neg (by rw [c15]; decide)]; exact if_pos (by rw [c15]; decide))
       | (rw [if_neg (by rw [c24]; decide)]; exact if_pos (by rw [c24]; decide))
       | rw [if_neg (by unfold swaps; simp only [List.mem_cons, List.not_mem_nil, or_false]; omega), if_neg (by unfold stores; simp only [List.mem_cons, List.not_mem_nil, or_false]; omega)])
 refine wp_region_lit <| ge hK23 hF rfl fun a hF => cx 24 hF rfl (fun c24 hF => ?_) fun c24 hF => ?_
 ·
  refine rg hF rfl fun a hF => ?_
  refine xr ?_
  refine ret1 rfl hF rfl ⟨congrArg Value.string (Eq.symm ?_), hS.old⟩
  unfold nextAccess
  first
    | exact if_neg (by rw [c8]; decide)
    | (rw [if_pos c8]; unfold accessOf
       first
       | exact if_pos (by rw [c15]; decide)
       | (rw [if_neg (by rw [c15]; decide)]; exact if_pos (by rw [c15]; decide))
       | (rw [if_neg (by rw [c24]; decide)]; exact if_pos (by rw [c24]; decide))
       | rw [if_neg (by unfold swaps; simp only [List.mem_cons, List.not_mem_nil, or_false]; omega), if_neg (by unfold stores; simp only [List.mem_cons, List.not_mem_nil, or_false]; omega)])
 refine wp_skip ?_
 refine xt ?_
 refine hK5 _ _ <| rg hF rfl fun a hF => ?_
 refine xr ?_
 refine ret1 rfl hF rfl ⟨congrArg Value.string (Eq.symm ?_), hS.old⟩
 unfold nextAccess
 first
   | exact if_neg (by rw [c8]; decide)
   | (rw [if_pos c8]; unfold accessOf
      first
      | exact if_pos (by rw [c15]; decide)
      | (rw [if_neg (by rw [c15]; decide)]; exact if_pos (by rw [c15]; decide))
      | (rw [if_neg (by rw [c24]; decide)]; exact if_pos (by rw [c24]; decide))
      | rw [if_neg (by unfold swaps; simp only [List.mem_cons, List.not_mem_nil, or_false]; omega), if_neg (by unfold stores; simp only [List.mem_cons, List.not_mem_nil, or_false]; omega)])
theorem implNextAccess_c {W : World} {s : Sl.State} {cs : List Value} (hm : stateEK.K W s cs) (hw : s.wf) (hz : (s.size : Int) ≤ 1048576) {p : Int} (hp : int64 p) : Calls Tryz.prog 35 #[.agg cs.toArray, vi p] W (Ret fun v w' => v = .string (nextAccess s p) ∧ Below W.heap.size W w') := by
 refine cfr Tryz.func35 Tryz.ntmps35 fun a hF => ?_
 have hS := Sep.refl W
 obtain ⟨v0, v1, v2, rfl, r0, r1, r2⟩ := hm
 have hm : stateEK.K W s (s.encv v0 v1 v2) := ⟨_, _, _, rfl, r0, r1, r2⟩
 obtain ⟨A_a, q_a, rfl, hq_a, hn_a⟩ := r0.sl; unfold maxLen at hn_a
 obtain ⟨A_b, q_b, rfl, hq_b, hn_b⟩ := r1.sl; unfold maxLen at hn_b
 obtain ⟨A_c, q_c, rfl, hq_c, hn_c⟩ := r2.sl; unfold maxLen at hn_c
 have hwl : IntKind.i64.wrap ((s.threads.length : Int) - 1) = s.threads.length - 1 := w64_id (by omega) (by omega)
 refine ws fun K1 hK1 => wl_box (cs := [_, _, _, _, _, _, _, _, _, _, _, _, _]) hF hS rfl (hF.ev rfl) rfl fun g1 w1 a hS _ hF => ge hK1 hF rfl fun a hF => wp_seq_k fun K2 hK2 => ws fun K3 hK3 => gb 2 0 hF hS rfl rfl rfl fun a hF => ckr hF hS rfl (implIsRunning_c (hS.k hm) hw (by omega) hp) fun w2 a hS hF => ?_
 refine ge hK3 hF rfl fun a hF => cx 8 hF rfl (fun c8 hF => ?_) fun c8 hF => ?_
 ·
  refine rg hF rfl fun a hF => ?_
  refine xr ?_
  refine ret1 rfl hF rfl ⟨congrArg Value.string (Eq.symm ?_), hS.old⟩
  unfold nextAccess
  first
    | exact if_neg (by rw [c8]; decide)
    | (rw [if_pos c8]; unfold accessOf
       first
       | exact if_pos (by rw [c15]; decide)
       | (rw [if_neg (by rw [c15]; decide)]; exact if_pos (by rw [c15]; decide))
       | (rw [if_neg (by rw [c24]; decide)]; exact if_pos (by rw [c24]; decide))
       | rw [if_neg (by unfold swaps; simp only [List.mem_cons, List.not_mem_nil, or_false]; omega), if_neg (by unfold stores; simp only [List.mem_cons, List.not_mem_nil, or_false]; omega)])
 have hru := c8; unfold isRunning at hru; simp only [Bool.and_eq_true, decide_eq_true_eq] at hru
 have hb1 := hru.1.2
 refine wp_skip <| hK2 _ _ <| wp_seq_k fun K5 hK5 => ws fun K6 hK6 => gb 3 0 hF hS rfl rfl rfl fun a hF => ?_
 obtain ⟨g12, o12, m12, q12, cs12, hv12, hm12, hl12, hk12, hz12, hc12⟩ := Rd.at (r2) (a := a) (X := .tmp 11) (hF.ev rfl) (by omega) (by omega)
 have hkk12 := hk12; obtain ⟨v12_0, v12_1, v12_2, v12_3, v12_4, rfl, r12_0, r12_1, r12_2, r12_3, r12_4⟩ := hk12
 refine wl hF rfl rfl rfl (r_index sl27 ((hF.ev rfl).trans hv12) (hF.ev rfl) (by omega) (by first | omega | (simp at hm12; omega))) fun a hF => ?_
 refine ga 1 hF rfl fun a hF => wl hF rfl rfl rfl (r_load1 sc3 (hF.ev rfl) (cellB hS.old (hc12 0 _ rfl))) fun a hF => wl_nil <| hK6 _ _ <| wp_block <| wp_seq_k fun K7 hK7 => rg hF rfl fun a hF => cx 15 hF rfl (fun c15 hF => ?_) fun c15 hF => ?_
 ·
  refine wp_skip <| hK7 _ _ <| wc_true (hF.ev rfl) <| rg hF rfl fun a hF => ?_
  refine xr ?_
  refine ret1 rfl hF rfl ⟨congrArg Value.string (Eq.symm ?_), hS.old⟩
  unfold nextAccess
  first
    | exact if_neg (by rw [c8]; decide)
    | (rw [if_pos c8]; unfold accessOf
       first
       | exact if_pos (by rw [c15]; decide)
       | (rw [if_neg (by rw [c15]; decide)]; exact if_pos (by rw [c15]; decide))
       | (rw [if_neg (by rw [c24]; decide)]; exact if_pos (by rw [c24]; decide))
       | rw [if_neg (by unfold swaps; simp only [List.mem_cons, List.not_mem_nil, or_false]; omega), if_neg (by unfold stores; simp only [List.mem_cons, List.not_mem_nil, or_false]; omega)])
 refine rg hF rfl fun a hF => cx 15 hF rfl (fun c15 hF => ?_) fun c15 hF => ?_
 ·
  refine wp_skip <| hK7 _ _ <| wc_true (hF.ev rfl) <| rg hF rfl fun a hF => ?_
  refine xr ?_
  refine ret1 rfl hF rfl ⟨congrArg Value.string (Eq.symm ?_), hS.old⟩
  unfold nextAccess
  first
    | exact if_neg (by rw [c8]; decide)
    | (rw [if_pos c8]; unfold accessOf
       first
       | exact if_pos (by rw [c15]; decide)
       | (rw [if_neg (by rw [c15]; decide)]; exact if_pos (by rw [c15]; decide))
       | (rw [if_neg (by rw [c24]; decide)]; exact if_pos (by rw [c24]; decide))
       | rw [if_neg (by unfold swaps; simp only [List.mem_cons, List.not_mem_nil, or_false]; omega), if_neg (by unfold stores; simp only [List.mem_cons, List.not_mem_nil, or_false]; omega)])
 refine rg hF rfl fun a hF => cx 15 hF rfl (fun c15 hF => ?_) fun c15 hF => ?_
 ·
  refine wp_skip <| hK7 _ _ <| wc_true (hF.ev rfl) <| rg hF rfl fun a hF => ?_
  refine xr ?_
  refine ret1 rfl hF rfl ⟨congrArg Value.string (Eq.symm ?_), hS.old⟩
  unfold nextAccess
  first
    | exact if_neg (by rw [c8]; decide)
    | (rw [if_pos c8]; unfold accessOf
       first
       | exact if_pos (by rw [c15]; decide)
       | (rw [if_neg (by rw [c15]; decide)]; exact if_pos (by rw [c15]; decide))
       | (rw [if_neg (by rw [c24]; decide)]; exact if_pos (by rw [c24]; decide))
       | rw [if_neg (by unfold swaps; simp only [List.mem_cons, List.not_mem_nil, or_false]; omega), if_neg (by unfold stores; simp only [List.mem_cons, List.not_mem_nil, or_false]; omega)])
 refine rg hF rfl fun a hF => cx 15 hF rfl (fun c15 hF => ?_) fun c15 hF => ?_
 ·
  refine wp_skip <| hK7 _ _ <| wc_true (hF.ev rfl) <| rg hF rfl fun a hF => ?_
  refine xr ?_
  refine ret1 rfl hF rfl ⟨congrArg Value.string (Eq.symm ?_), hS.old⟩
  unfold nextAccess
  first
    | exact if_neg (by rw [c8]; decide)
    | (rw [if_pos c8]; unfold accessOf
       first
       | exact if_pos (by rw [c15]; decide)
       | (rw [if_neg (by rw [c15]; decide)]; exact if_pos (by rw [c15]; decide))
       | (rw [if_neg (by rw [c24]; decide)]; exact if_pos (by rw [c24]; decide))
       | rw [if_neg (by unfold swaps; simp only [List.mem_cons, List.not_mem_nil, or_false]; omega), if_neg (by unfold stores; simp only [List.mem_cons, List.not_mem_nil, or_false]; omega)])
 refine rg hF rfl fun a hF => cx 15 hF rfl (fun c15 hF => ?_) fun c15 hF => ?_
 ·
  refine wp_skip <| hK7 _ _ <| wc_true (hF.ev rfl) <| rg hF rfl fun a hF => ?_
  refine xr ?_
  refine ret1 rfl hF rfl ⟨congrArg Value.string (Eq.symm ?_), hS.old⟩
  unfold nextAccess
  first
    | exact if_neg (by rw [c8]; decide)
    | (rw [if_pos c8]; unfold accessOf
       first
       | exact if_pos (by rw [c15]; decide)
       | (rw [if_neg (by rw [c15]; decide)]; exact if_pos (by rw [c15]; decide))
       | (rw [if_neg (by rw [c24]; decide)]; exact if_pos (by rw [c24]; decide))
       | rw [if_neg (by unfold swaps; simp only [List.mem_cons, List.not_mem_nil, or_false]; omega), if_neg (by unfold stores; simp only [List.mem_cons, List.not_mem_nil, or_false]; omega)])
 refine rg hF rfl fun a hF => cx 15 hF rfl (fun c15 hF => ?_) fun c15 hF => ?_
 ·
  refine wp_skip <| hK7 _ _ <| wc_true (hF.ev rfl) <| rg hF rfl fun a hF => ?_
  refine xr ?_
  refine ret1 rfl hF rfl ⟨congrArg Value.string (Eq.symm ?_), hS.old⟩
  unfold nextAccess
  first
    | exact if_neg (by rw [c8]; decide)
    | (rw [if_pos c8]; unfold accessOf
       first
       | exact if_pos (by rw [c15]; decide)
       | (rw [if_neg (by rw [c15]; decide)]; exact if_pos (by rw [c15]; decide))
       | (rw [if_neg (by rw [c24]; decide)]; exact if_pos (by rw [c24]; decide))
       | rw [if_neg (by unfold swaps; simp only [List.mem_cons, List.not_mem_nil, or_false]; omega), if_neg (by unfold stores; simp only [List.mem_cons, List.not_mem_nil, or_false]; omega)])
 refine rg hF rfl fun a hF => cx 15 hF rfl (fun c15 hF => ?_) fun c15 hF => ?_
 ·
  refine wp_skip <| hK7 _ _ <| wc_true (hF.ev rfl) <| rg hF rfl fun a hF => ?_
  refine xr ?_
  refine ret1 rfl hF rfl ⟨congrArg Value.string (Eq.symm ?_), hS.old⟩
  unfold nextAccess
  first
    | exact if_neg (by rw [c8]; decide)
    | (rw [if_pos c8]; unfold accessOf
       first
       | exact if_pos (by rw [c15]; decide)
       | (rw [if_neg (by rw [c15]; decide)]; exact if_pos (by rw [c15]; decide))
       | (rw [if_neg (by rw [c24]; decide)]; exact if_pos (by rw [c24]; decide))
       | rw [if_neg (by unfold swaps; simp only [List.mem_cons, List.not_mem_nil, or_false]; omega), if_neg (by unfold stores; simp only [List.mem_cons, List.not_mem_nil, or_false]; omega)])
 refine wp_region_lit <| ge hK7 hF rfl fun a hF => cx 15 hF rfl (fun c15 hF => ?_) fun c15 hF => ?_
 ·
  refine rg hF rfl fun a hF => ?_
  refine xr ?_
  refine ret1 rfl hF rfl ⟨congrArg Value.string (Eq.symm ?_), hS.old⟩
  unfold nextAccess
  first
    | exact if_neg (by rw [c8]; decide)
    | (rw [if_pos c8]; unfold accessOf
       first
       | exact if_pos (by rw [c15]; decide)
       | (rw [if_neg (by rw [c15]; decide)]; exact if_pos (by rw [c15]; decide))
       | (rw [if_neg (by rw [c24]; decide)]; exact if_pos (by rw [c24]; decide))
       | rw [if_neg (by unfold swaps; simp only [List.mem_cons, List.not_mem_nil, or_false]; omega), if_neg (by unfold stores; simp only [List.mem_cons, List.not_mem_nil, or_false]; omega)])
 refine wp_seq_k fun K23 hK23 => rg hF rfl fun a hF => cx 24 hF rfl (fun c24 hF => ?_) fun c24 hF => ?_
 ·
  refine wp_skip <| hK23 _ _ <| wc_true (hF.ev rfl) <| rg hF rfl fun a hF => ?_
  refine xr ?_
  refine ret1 rfl hF rfl ⟨congrArg Value.string (Eq.symm ?_), hS.old⟩
  unfold nextAccess
  first
    | exact if_neg (by rw [c8]; decide)
    | (rw [if_pos c8]; unfold accessOf
       first
       | exact if_pos (by rw [c15]; decide)
       | (rw [if_neg (by rw [c15]; decide)]; exact if_pos (by rw [c15]; decide))
       | (rw [if_neg (by rw [c24]; decide)]; exact if_pos (by rw [c24]; decide))
       | rw [if_neg (by unfold swaps; simp only [List.mem_cons, List.not_mem_nil, or_false]; omega), if_neg (by unfold stores; simp only [List.mem_cons, List.not_mem_nil, or_false]; omega)])
 refine rg hF rfl fun a hF => cx 24 hF rfl (fun c24 hF => ?_) fun c24 hF => ?_
 ·
  refine wp_skip <| hK23 _ _ <| wc_true (hF.ev rfl) <| rg hF rfl fun a hF => ?_
  refine xr ?_
  refine ret1 rfl hF rfl ⟨congrArg Value.string (Eq.symm ?_), hS.old⟩
  unfold nextAccess
  first
    | exact if_neg (by rw [c8]; decide)
    | (rw [if_pos c8]; unfold accessOf
       first
       | exact if_pos (by rw [c15]; decide)
       | (rw [if_neg (by rw [c15]; decide)]; exact if_pos (by rw [c15]; decide))
       | (rw [if_neg (by rw [c24]; decide)]; exact if_pos (by rw [c24]; decide))
       | rw [if_neg (by unfold swaps; simp only [List.mem_cons, List.not_mem_nil, or_false]; omega), if_neg (by unfold stores; simp only [List.mem_cons, List.not_mem_nil, or_false]; omega)])
 refine rg hF rfl fun a hF => cx 24 hF rfl (fun c24 hF => ?_) fun c24 hF => ?_
 ·
  refine wp_skip <| hK23 _ _ <| wc_true (hF.ev rfl) <| rg hF rfl fun a hF => ?_
  refine xr ?_
  refine ret1 rfl hF rfl ⟨congrArg Value.string (Eq.symm ?_), hS.old⟩
  unfold nextAccess
  first
    | exact if_neg (by rw [c8]; decide)
    | (rw [if_pos c8]; unfold accessOf
       first
       | exact if_pos (by rw [c15]; decide)
       | (rw [if_neg (by rw [c15]; decide)]; exact if_pos (by rw [c15]; decide))
       | (rw [if_neg (by rw [c24]; decide)]; exact if_pos (by rw [c24]; decide))
       | rw [if_neg (by unfold swaps; simp only [List.mem_cons, List.not_mem_nil, or_false]; omega), if_neg (by unfold stores; simp only [List.mem_cons, List.not_mem_nil, or_false]; omega)])
 refine rg hF rfl fun a hF => cx 24 hF rfl (fun c24 hF => ?_) fun c24 hF => ?_
 ·
  refine wp_skip <| hK23 _ _ <| wc_true (hF.ev rfl) <| rg hF rfl fun a hF => ?_
  refine xr ?_
  refine ret1 rfl hF rfl ⟨congrArg Value.string (Eq.symm ?_), hS.old⟩
  unfold nextAccess
  first
    | exact if_neg (by rw [c8]; decide)
    | (rw [if_pos c8]; unfold accessOf
       first
       | exact if_pos (by rw [c15]; decide)
       | (rw [if_neg (by rw [c15]; decide)]; exact if_pos (by rw [c15]; decide))
       | (rw [if_neg (by rw [c24]; decide)]; exact if_pos (by rw [c24]; decide))
       | rw [if_neg (by unfold swaps; simp only [List.mem_cons, List.not_mem_nil, or_false]; omega), if_neg (by unfold stores; simp only [List.mem_cons, List.not_mem_nil, or_false]; omega)])
 refine rg hF rfl fun a hF => cx 24 hF rfl (fun c24 hF => ?_) fun c24 hF => ?_
 ·
  refine wp_skip <| hK23 _ _ <| wc_true (hF.ev rfl) <| rg hF rfl fun a hF => ?_
  refine xr ?_
  refine ret1 rfl hF rfl ⟨congrArg Value.string (Eq.symm ?_), hS.old⟩
  unfold nextAccess
  first
    | exact if_neg (by rw [c8]; decide)
    | (rw [if_pos c8]; unfold accessOf
       first
       | exact if_pos (by rw [c15]; decide)
       | (rw [if_neg (by rw [c15]; decide)]; exact if_pos (by rw [c15]; decide))
       | (rw [if_neg (by rw [c24]; decide)]; exact if_pos (by rw [c24]; decide))
       | rw [if_neg (by unfold swaps; simp only [List.mem_cons, List.not_mem_nil, or_false]; omega), if_neg (by unfold stores; simp only [List.mem_cons, List.not_mem_nil, or_false]; omega)])
 refine rg hF rfl fun a hF => cx 24 hF rfl (fun c24 hF => ?_) fun c24 hF => ?_
 ·
  refine wp_skip <| hK23 _ _ <| wc_true (hF.ev rfl) <| rg hF rfl fun a hF => ?_
  refine xr ?_
  refine ret1 rfl hF rfl ⟨congrArg Value.string (Eq.symm ?_), hS.old⟩
  unfold nextAccess
  first
    | exact if_neg (by rw [c8]; decide)
    | (rw [if_pos c8]; unfold accessOf
       first
       | exact if_pos (by rw [c15]; decide)
       | (rw [if_neg (by rw [c15]; decide)]; exact if_pos (by rw [c15]; decide))
       | (rw [if_neg (by rw [c24]; decide)]; exact if_pos (by rw [c24]; decide))
       | rw [if_neg (by unfold swaps; simp only [List.mem_cons, List.not_mem_nil, or_false]; omega), if_neg (by unfold stores; simp only [List.mem_cons, List.not_mem_nil, or_false]; omega)])
 refine rg hF rfl fun a hF => cx 24 hF rfl (fun c24 hF => ?_) fun c24 hF => ?_
 ·
  refine wp_skip <| hK23 _ _ <| wc_true (hF.ev rfl) <| rg hF rfl fun a hF => ?_
  refine xr ?_
  refine ret1 rfl hF rfl ⟨congrArg Value.string (Eq.symm ?_), hS.old⟩
  unfold nextAccess
  first
    | exact if_neg (by rw [c8]; decide)
    | (rw [if_pos c8]; unfold accessOf
       first
       | exact if_pos (by rw [c15]; decide)
       | (rw [if_neg (by rw [c15]; decide)]; exact if_pos (by rw [c15]; decide))
       | (rw [if_neg (by rw [c24]; decide)]; exact if_pos (by rw [c24]; decide))
       | rw [if_neg (by unfold swaps; simp only [List.mem_cons, List.not_mem_nil, or_false]; omega), if_neg (by unfold stores; simp only [List.mem_cons, List.not_mem_nil, or_false]; omega)])
 refine rg hF rfl fun a hF => cx 24 hF rfl (fun c24 hF => ?_) fun c24 hF => ?_
 ·
  refine wp_skip <| hK23 _ _ <| wc_true (hF.ev rfl) <| rg hF rfl fun a hF => ?_
  refine xr ?_
  refine ret1 rfl hF rfl ⟨congrArg Value.string (Eq.symm ?_), hS.old⟩
  unfold nextAccess
  first
    | exact if_neg (by rw [c8]; decide)
    | (rw [if_pos c8]; unfold accessOf
       first
       | exact if_pos (by rw [c15]; decide)
       | (rw [if_neg (by rw [c15]; decide)]; exact if_pos (by rw [c15]; decide))
       | (rw [if_neg (by rw [c24]; decide)]; exact if_pos (by rw [c24]; decide))
       | rw [if_neg (by unfold swaps; simp only [List.mem_cons, List.not_mem_nil, or_false]; omega), if_neg (by unfold stores; simp only [List.mem_cons, List.not_mem_nil, or_false]; omega)])
 refine rg hF rfl fun a hF => cx 24 hF rfl (fun c24 hF => ?_) fun c24 hF => ?_
 ·
  refine wp_skip <| hK23 _ _ <| wc_true (hF.ev rfl) <| rg hF rfl fun a hF => ?_
  refine xr ?_
  refine ret1 rfl hF rfl ⟨congrArg Value.string (Eq.symm ?_), hS.old⟩
  unfold nextAccess
  first
    | exact if_neg (by rw [c8]; decide)
    | (rw [if_pos c8]; unfold accessOf
       first
       | exact if_pos (by rw [c15]; decide)
       | (rw [if_neg (by rw [c15]; decide)]; exact if_pos (by rw [c15]; decide))
       | (rw [if_neg (by rw [c24]; decide)]; exact if_pos (by rw [c24]; decide))
       | rw [if_neg (by unfold swaps; simp only [List.mem_cons, List.not_mem_nil, or_false]; omega), if_neg (by unfold stores; simp only [List.mem_cons, List.not_mem_nil, or_false]; omega)])
 refine rg hF rfl fun a hF => cx 24 hF rfl (fun c24 hF => ?_) fun c24 hF => ?_
 ·
  refine wp_skip <| hK23 _ _ <| wc_true (hF.ev rfl) <| rg hF rfl fun a hF => ?_
  refine xr ?_
  refine ret1 rfl hF rfl ⟨congrArg Value.string (Eq.symm ?_), hS.old⟩
  unfold nextAccess
  first
    | exact if_neg (by rw [c8]; decide)
    | (rw [if_pos c8]; unfold accessOf
       first
       | exact if_pos (by rw [c15]; decide)
       | (rw [if_neg (by rw [c15]; decide)]; exact if_pos (by rw [c15]; decide))
       | (rw [if_neg (by rw [c24]; decide)]; exact if_pos (by rw [c24]; decide))
       | rw [if_neg (by unfold swaps; simp only [List.mem_cons, List.not_mem_nil, or_false]; omega), if_neg (by unfold stores; simp only [List.mem_cons, List.not_mem_nil, or_false]; omega)])
 refine rg hF rfl fun a hF => cx 24 hF rfl (fun c24 hF => ?_) fun c24 hF => ?_
 ·
  refine wp_skip <| hK23 _ _ <| wc_true (hF.ev rfl) <| rg hF rfl fun a hF => ?_
  refine xr ?_
  refine ret1 rfl hF rfl ⟨congrArg Value.string (Eq.symm ?_), hS.old⟩
  unfold nextAccess
  first
    | exact if_neg (by rw [c8]; decide)
    | (rw [if_pos c8]; unfold accessOf
       first
       | exact if_pos (by rw [c15]; decide)
       | (rw [if_neg (by rw [c15]; decide)]; exact if_pos (by rw [c15]; decide))
       | (rw [if_neg (by rw [c24]; decide)]; exact if_pos (by rw [c24]; decide))
       | rw [if_neg (by unfold swaps; simp only [List.mem_cons, List.not_mem_nil, or_false]; omega), if_neg (by unfold stores; simp only [List.mem_cons, List.not_mem_nil, or_false]; omega)])
 refine rg hF rfl fun a hF => cx 24 hF rfl (fun c24 hF => ?_) fun c24 hF => ?_
 ·
  refine wp_skip <| hK23 _ _ <| wc_true (hF.ev rfl) <| rg hF rfl fun a hF => ?_
  refine xr ?_
  refine ret1 rfl hF rfl ⟨congrArg Value.string (Eq.symm ?_), hS.old⟩
  unfold nextAccess
  first
    | exact if_neg (by rw [c8]; decide)
    | (rw [if_pos c8]; unfold accessOf
       first
       | exact if_pos (by rw [c15]; decide)
       | (rw [if_neg (by rw [c15]; decide)]; exact if_pos (by rw [c15]; decide))
       | (rw [if_neg (by rw [c24]; decide)]; exact if_pos (by rw [c24]; decide))
       | rw [if_neg (by unfold swaps; simp only [List.mem_cons, List.not_mem_nil, or_false]; omega), if_neg (by unfold stores; simp only [List.mem_cons, List.not_mem_nil, or_false]; omega)])
 refine rg hF rfl fun a hF => cx 24 hF rfl (fun c24 hF => ?_) fun c24 hF => ?_
 ·
  refine wp_skip <| hK23 _ _ <| wc_true (hF.ev rfl) <| rg hF rfl fun a hF => ?_
  refine xr ?_
  refine ret1 rfl hF rfl ⟨congrArg Value.string (Eq.symm ?_), hS.old⟩
  unfold nextAccess
  first
    | exact if_neg (by rw [c8]; decide)
    | (rw [if_pos c8]; unfold accessOf
       first
       | exact if_pos (by rw [c15]; decide)
       | (rw [if_neg (by rw [c15]; decide)]; exact if_pos (by rw [c15]; decide))
       | (rw [if_neg (by rw [c24]; decide)]; exact if_pos (by rw [c24]; decide))
       | rw [if_neg (by unfold swaps; simp only [List.mem_cons, List.not_mem_nil, or_false]; omega), if_neg (by unfold stores; simp only [List.mem_cons, List.not_mem_nil, or_false]; omega)])
 refine rg hF rfl fun a hF => cx 24 hF rfl (fun c24 hF => ?_) fun c24 hF => ?_
 ·
  refine wp_skip <| hK23 _ _ <| wc_true (hF.ev rfl) <| rg hF rfl fun a hF => ?_
  refine xr ?_
  refine ret1 rfl hF rfl ⟨congrArg Value.string (Eq.symm ?_), hS.old⟩
  unfold nextAccess
  first
    | exact if_neg (by rw [c8]; decide)
    | (rw [if_pos c8]; unfold accessOf
       first
       | exact if_pos (by rw [c15]; decide)
       | (rw [if_neg (by rw [c15]; decide)]; exact if_pos (by rw [c15]; decide))
       | (rw [if_neg (by rw [c24]; decide)]; exact if_pos (by rw [c24]; decide))
       | rw [if_neg (by unfold swaps; simp only [List.mem_cons, List.not_mem_nil, or_false]; omega), if_neg (by unfold stores; simp only [List.mem_cons, List.not_mem_nil, or_false]; omega)])
 refine rg hF rfl fun a hF => cx 24 hF rfl (fun c24 hF => ?_) fun c24 hF => ?_
 ·
  refine wp_skip <| hK23 _ _ <| wc_true (hF.ev rfl) <| rg hF rfl fun a hF => ?_
  refine xr ?_
  refine ret1 rfl hF rfl ⟨congrArg Value.string (Eq.symm ?_), hS.old⟩
  unfold nextAccess
  first
    | exact if_neg (by rw [c8]; decide)
    | (rw [if_pos c8]; unfold accessOf
       first
       | exact if_pos (by rw [c15]; decide)
       | (rw [if_neg (by rw [c15]; decide)]; exact if_pos (by rw [c15]; decide))
       | (rw [if_neg (by rw [c24]; decide)]; exact if_pos (by rw [c24]; decide))
       | rw [if_neg (by unfold swaps; simp only [List.mem_cons, List.not_mem_nil, or_false]; omega), if_neg (by unfold stores; simp only [List.mem_cons, List.not_mem_nil, or_false]; omega)])
 refine wp_region_lit <| ge hK23 hF rfl fun a hF => cx 24 hF rfl (fun c24 hF => ?_) fun c24 hF => ?_
 ·
  refine rg hF rfl fun a hF => ?_
  refine xr ?_
  refine ret1 rfl hF rfl ⟨congrArg Value.string (Eq.symm ?_), hS.old⟩
  unfold nextAccess
  first
    | exact if_neg (by rw [c8]; decide)
    | (rw [if_pos c8]; unfold accessOf
       first
       | exact if_pos (by rw [c15]; decide)
       | (rw [if_neg (by rw [c15]; decide)]; exact if_pos (by rw [c15]; decide))
       | (rw [if_neg (by rw [c24]; decide)]; exact if_pos (by rw [c24]; decide))
       | rw [if_neg (by unfold swaps; simp only [List.mem_cons, List.not_mem_nil, or_false]; omega), if_neg (by unfold stores; simp only [List.mem_cons, List.not_mem_nil, or_false]; omega)])
 refine wp_skip ?_
 refine xt ?_
 refine hK5 _ _ <| rg hF rfl fun a hF => ?_
 refine xr ?_
 refine ret1 rfl hF rfl ⟨congrArg Value.string (Eq.symm ?_), hS.old⟩
 unfold nextAccess
 first
   | exact if_neg (by rw [c8]; decide)
   | (rw [if_pos c8]; unfold accessOf
      first
      | exact if_pos (by rw [c15]; decide)
      | (rw [if_neg (by rw [c15]; decide)]; exact if_pos (by rw [c15]; decide))
      | (rw [if_neg (by rw [c24]; decide)]; exact if_pos (by rw [c24]; decide))
      | rw [if_neg (by unfold swaps; simp only [List.mem_cons, List.not_mem_nil, or_false]; omega), if_neg (by unfold stores; simp only [List.mem_cons, List.not_mem_nil, or_false]; omega)])
set_option maxRecDepth 20000
/-- in how many places two rows differ -/
def diffs : List Int → List Int → Nat
  | x :: xs, y :: ys => (if x = y then 0 else 1) + diffs xs ys
  | _, _ => 0
theorem diffs_self : ∀ xs : List Int, diffs xs xs = 0
  | [] => rfl
  | x :: xs => by simp [diffs, diffs_self xs]
theorem diffs_le : ∀ xs ys : List Int, diffs xs ys ≤ xs.length
  | [], ys => by simp [diffs]
  | x :: xs, [] => by simp [diffs]
  | x :: xs, y :: ys => by have := diffs_le xs ys; simp only [diffs, List.length_cons]; split <;> omega
theorem diffs_set : ∀ (xs : List Int) (i : Nat) (v : Int), i < xs.length → diffs xs (xs.set i v) = if at0 xs (i : Int) = v then 0 else 1
  | [], i, v, h => by simp at h
  | x :: xs, 0, v, h => by simp [diffs, diffs_self, at0]
  | x :: xs, i + 1, v, h => by
    have := diffs_set xs i v (by simpa using h)
    have e : at0 (x :: xs) ((i + 1 : Nat) : Int) = at0 xs (i : Int) := by simp [at0]
    simp only [List.set_cons_succ, diffs, if_true, Nat.zero_add, this, e]
theorem diffs_take : ∀ (xs ys : List Int) (k : Nat), k < xs.length → k < ys.length → diffs (xs.take (k + 1)) (ys.take (k + 1)) = diffs (xs.take k) (ys.take k) + (if at0 xs (k : Int) = at0 ys (k : Int) then 0 else 1)
  | [], ys, k, h, _ => by simp at h
  | x :: xs, [], k, _, h => by simp at h
  | x :: xs, y :: ys, 0, _, _ => by simp [diffs, at0]
  | x :: xs, y :: ys, k + 1, h, h' => by
    have := diffs_take xs ys k (by simpa using h) (by simpa using h')
    have e : at0 (x :: xs) ((k + 1 : Nat) : Int) = at0 xs (k : Int) := by simp [at0]
    have e' : at0 (y :: ys) ((k + 1 : Nat) : Int) = at0 ys (k : Int) := by simp [at0]
    simp only [List.take_succ_cons, diffs, this, e, e']; omega
/-- nothing has changed yet; one cell at most has changed, and is counted -/
structure C0 (s x : Sl.State) : Prop where
  c : x.cells = s.cells
  n : x.changes = s.changes
  t : x.steps = s.steps
structure C1 (s x : Sl.State) : Prop where
  d : diffs s.cells x.cells ≤ 1
  n : x.changes = IntKind.i64.wrap (s.changes + (diffs s.cells x.cells : Int))
  t : x.steps = s.steps
  l : x.cells.length = s.cells.length
section
variable {s x : Sl.State} {t : Sl.Thread} {a u v h n p : Int}
theorem w64_int {n : Int} (h : int64 n) : IntKind.i64.wrap (n + 0) = n := by unfold int64 at h; rw [Int.add_zero]; exact w64_id (by omega) (by omega)
theorem C0.one (k : C0 s x) (hw : int64 s.changes) : C1 s x := by
 refine ⟨by rw [k.c, diffs_self]; omega, ?_, k.t, by rw [k.c]⟩
 rw [k.c, diffs_self, k.n]; exact (w64_int hw).symm
theorem C0.put (k : C0 s x) (hw : int64 s.changes) : C1 s (putS x a v) := by
 have e : diffs s.cells (putC x.cells a v) = if (0 ≤ a ∧ a < s.cells.length) ∧ ¬ at0 s.cells a = v then 1 else 0 := by
   rw [k.c]; unfold putC
   split
   · rename_i h1
     rw [diffs_set _ _ _ (by omega), show ((a.toNat : Nat) : Int) = a by omega]
     by_cases q : at0 s.cells a = v <;> simp [q, h1]
   · rename_i h1
     rw [diffs_self, if_neg (fun q => h1 q.1)]
 refine ⟨?_, ?_, k.t, ?_⟩
 · show diffs s.cells (putC x.cells a v) ≤ 1
   rw [e]; split <;> omega
 · show putN x.cells a v x.changes = IntKind.i64.wrap (s.changes + (diffs s.cells (putC x.cells a v) : Int))
   rw [e]; unfold putN; rw [k.c, k.n]
   split
   · rfl
   · exact (w64_int hw).symm
 · show (putC x.cells a v).length = _
   rw [putC_len, k.c]
theorem C0.swap (k : C0 s x) (hw : int64 s.changes) : C1 s (swapS x a u v) := by
 by_cases q : hitB x.cells a u = true
 · have e : swapS x a u v = putS x a v := by unfold swapS putS; rw [if_pos q, if_pos q]
   rw [e]; exact k.put hw
 · rw [swapS_no q]; exact k.one hw
theorem C0.fault (k : C0 s x) : C0 s (faultS x h) := ⟨k.c, k.n, k.t⟩
theorem C0.prev (k : C0 s x) : C0 s (prevS x t) := ⟨k.c, k.n, k.t⟩
theorem C0.retry (k : C0 s x) : C0 s { x with retries := n } := ⟨k.c, k.n, k.t⟩
theorem C1.retry (k : C1 s x) : C1 s { x with retries := n } := ⟨k.d, k.n, k.t, k.l⟩
theorem C0.gens {gs : List Int} (k : C0 s x) : C0 s { x with generations := gs } := ⟨k.c, k.n, k.t⟩
theorem c1o {z : Sl.State} (h : C1 s z := by
 repeat' split
 all_goals first
   | exact k.one hw
   | exact k.fault.one hw
   | exact k.prev.one hw
   | exact k.retry.one hw
   | exact k.prev.retry.one hw
   | exact k.gens.one hw
   | exact k.put hw
   | exact k.fault.put hw
   | exact k.swap hw
   | exact k.fault.swap hw
   | exact k.prev.swap hw
   | exact (k.swap hw).retry
   | exact (k.fault.swap hw).retry
   | exact (k.prev.swap hw).retry) : C1 s z := h
theorem c0o {z : Sl.State} (h : C0 s z := by
 repeat' split
 all_goals first
   | exact k
   | exact k.fault
   | exact k.prev
   | exact k.retry
   | exact k.prev.retry
   | exact k.gens
   | (exfalso; omega)) : C0 s z := h
theorem begin_c1 (k : C0 s x) (hw : int64 s.changes) : C1 s (beginS x t p).1 := by unfold beginS; exact c1o
theorem walk_c1 (k : C0 s x) (hw : int64 s.changes) : C1 s (walkS x t p).1 := by unfold walkS; exact c1o
theorem read_c1 (k : C0 s x) (hw : int64 s.changes) : C1 s (readS x t p).1 := by unfold readS; exact c1o
theorem take_c1 (k : C0 s x) (hw : int64 s.changes) : C1 s (takeS x t p).1 := by unfold takeS; exact c1o
theorem head_c1 (k : C0 s x) (hw : int64 s.changes) : C1 s (headS x t p).1 := by unfold headS; exact c1o
theorem own_c1 (k : C0 s x) (hw : int64 s.changes) : C1 s (ownS x t p).1 := by unfold ownS; exact c1o
theorem flush_c1 (k : C0 s x) (hw : int64 s.changes) : C1 s (flushS x t p).1 := by unfold flushS; exact c1o
theorem reclaim_c0 (k : C0 s x) : C0 s (reclaimS x t p).1 := by unfold reclaimS; exact c0o
theorem step_c1 (k : C0 s x) (hw : int64 s.changes) : C1 s (stepS x t p).1 := by
 unfold stepS
 repeat' split
 · exact begin_c1 k hw
 · exact walk_c1 k hw
 · exact read_c1 k hw
 · exact take_c1 k hw
 · exact head_c1 k hw
 · exact own_c1 k hw
 · exact flush_c1 k hw
 · exact reclaim_c0 k |>.one hw
 · exact k.put hw
 · exact k.one hw
def Ld (n : Int) : Prop := ¬ n ∈ swaps ∧ ¬ n ∈ stores
theorem Ld.ne {n : Int} (h : Ld n) : ¬ n = 2 ∧ ¬ n = 4 ∧ ¬ n = 5 ∧ ¬ n = 11 ∧ ¬ n = 14 ∧ ¬ n = 15 ∧ ¬ n = 18 ∧ ¬ n = 20 ∧ ¬ n = 21 ∧ ¬ n = 31 ∧ ¬ n = 32 ∧ ¬ n = 33 ∧ ¬ n = 34 ∧ ¬ n = 36 ∧ ¬ n = 40 ∧ ¬ n = 41 ∧ ¬ n = 42 ∧ ¬ n = 44 ∧ ¬ n = 46 ∧ ¬ n = 47 ∧ ¬ n = 61 ∧ ¬ n = 62 ∧ ¬ n = 63 ∧ ¬ n = 80 := by
 obtain ⟨h1, h2⟩ := h
 unfold swaps at h1; unfold stores at h2
 simp only [List.mem_cons, List.not_mem_nil, or_false] at h1 h2
 omega
theorem begin_c0 (k : C0 s x) (h : Ld t.pc) : C0 s (beginS x t p).1 := by have h := h.ne; unfold beginS; exact c0o
theorem walk_c0 (k : C0 s x) (h : Ld t.pc) : C0 s (walkS x t p).1 := by have h := h.ne; unfold walkS; exact c0o
theorem read_c0 (k : C0 s x) (h : Ld t.pc) : C0 s (readS x t p).1 := by have h := h.ne; unfold readS; exact c0o
theorem take_c0 (k : C0 s x) (h : Ld t.pc) : C0 s (takeS x t p).1 := by have h := h.ne; unfold takeS; exact c0o
theorem head_c0 (k : C0 s x) (h : Ld t.pc) : C0 s (headS x t p).1 := by have h := h.ne; unfold headS; exact c0o
theorem own_c0 (k : C0 s x) (h : Ld t.pc) : C0 s (ownS x t p).1 := by have h := h.ne; unfold ownS; exact c0o
theorem flush_c0 (k : C0 s x) (h : Ld t.pc) : C0 s (flushS x t p).1 := by have h := h.ne; unfold flushS; exact c0o
theorem step_c0 (k : C0 s x) (h : Ld t.pc) : C0 s (stepS x t p).1 := by
 unfold stepS
 repeat' split
 · exact begin_c0 k h
 · exact walk_c0 k h
 · exact read_c0 k h
 · exact take_c0 k h
 · exact head_c0 k h
 · exact own_c0 k h
 · exact flush_c0 k h
 · exact reclaim_c0 k
 · exfalso; have := h.ne; omega
 · exact k
end
set_option maxRecDepth 20000
section
variable {xs ys : List Int} {k : Nat}
theorem cd_yes (hl : ys.length = xs.length) (hz : xs.length ≤ 1048576) (h : k < xs.length) (q : ¬ at0 xs (k : Int) = at0 ys (k : Int)) : IntKind.i64.wrap ((diffs (xs.take k) (ys.take k) : Int) + 1) = (diffs (xs.take (k + 1)) (ys.take (k + 1)) : Int) := by
 rw [diffs_take _ _ _ h (by omega), if_neg q]
 have := diffs_le (xs.take k) (ys.take k)
 rw [List.length_take] at this
 rw [w64_id (by omega) (by omega)]; omega
theorem cd_no (hl : ys.length = xs.length) (h : k < xs.length) (q : at0 xs (k : Int) = at0 ys (k : Int)) : (diffs (xs.take k) (ys.take k) : Int) = (diffs (xs.take (k + 1)) (ys.take (k + 1)) : Int) := by
 rw [diffs_take _ _ _ h (by omega), if_pos q]; rfl
end
section
variable {s : Sl.State} {p q : Int}
theorem kind_all {isf : Int → Bool} {f : Sl.State → Sl.Thread → Int → Sl.State × Sl.Thread} (hk : ∀ {s t p}, isf t.pc = true → stepS s t p = f s t p) (hr : isRunning s p = true) (hi : isf (at0 s.threads p).pc = true) : stepOf isf f s p = stepAll s p := by
 have h2 : (stepOf isf f s p).2 = true := by unfold stepOf; rw [if_pos ⟨hr, hi⟩]
 have h3 : (stepAll s p).2 = true := by unfold stepAll; rw [if_pos hr]
 exact Prod.ext (kind_eq hk h2) (by rw [h2, h3])
theorem last_kind (hr : isRunning s p = true) (h1 : isB (at0 s.threads p).pc = false) (h2 : isW (at0 s.threads p).pc = false) (h3 : isR (at0 s.threads p).pc = false) (h4 : isWr (at0 s.threads p).pc = false) (h5 : isF (at0 s.threads p).pc = false) (h6 : ¬ (at0 s.threads p).pc = 70) : isE (at0 s.threads p).pc = true := by
 obtain ⟨g1, g2⟩ := run_pc hr
 generalize (at0 s.threads p).pc = n at *
 unfold isB at h1; unfold isW at h2; unfold isR at h3; unfold isWr at h4; unfold isF at h5; unfold isE
 simp only [Bool.or_eq_false_iff, decide_eq_false_iff_not, decide_eq_true_eq] at *
 simp only [pcs, List.mem_cons, List.not_mem_nil, or_false] at g1
 omega
theorem all_run : (stepAll s p).2 = isRunning s p := by unfold stepAll; split <;> simp_all
theorem all_none (h : (stepAll s p).2 = false) : (stepAll s p).1 = s := by unfold stepAll at *; split at h <;> simp_all
theorem all_other (hr : isRunning s p = true) {k : Nat} (h : ¬ (k : Int) = p) : at0 (stepAll s p).1.threads (k : Int) = at0 s.threads (k : Int) := by
 have h0 := (running_of hr).2.1
 unfold stepAll; rw [if_pos hr]
 show at0 (s.threads.set p.toNat _) (k : Int) = _
 unfold at0
 rw [List.getElem?_set_ne (by omega)]
theorem all_c1 (hr : isRunning s p = true) (hw : int64 s.changes) : C1 (stepped s) (stepAll s p).1 := by
 have k : C0 (stepped s) (stepped s) := ⟨rfl, rfl, rfl⟩
 have h := step_c1 (t := at0 s.threads (p.toNat : Int)) (p := (p.toNat : Int)) k hw
 unfold stepAll; rw [if_pos hr]
 exact ⟨h.d, h.n, h.t, h.l⟩
theorem all_c0 (hr : isRunning s p = true) (h : nextAccess s p = ⟨#[108, 111, 97, 100]⟩) : diffs s.cells (stepAll s p).1.cells = 0 := by
 have h0 := (running_of hr).2.1
 have hl : Ld (at0 s.threads (p.toNat : Int)).pc := by
   rw [show ((p.toNat : Nat) : Int) = p by omega]
   unfold nextAccess accessOf at h
   rw [if_pos hr] at h
   split at h
   · simp at h
   · rename_i h1
     split at h
     · simp at h
     · rename_i h2; exact ⟨h1, h2⟩
 have k : C0 (stepped s) (stepped s) := ⟨rfl, rfl, rfl⟩
 have h := step_c0 (p := (p.toNat : Int)) k hl
 unfold stepAll; rw [if_pos hr]
 show diffs s.cells (stepS (stepped s) (at0 s.threads (p.toNat : Int)) (p.toNat : Int)).1.cells = 0
 rw [h.c]; exact diffs_self _
theorem steps_ret (hr : isRunning s p = true) (hc : C1 (stepped s) (stepAll s p).1) : (decide ((diffs s.cells (stepAll s p).1.cells : Int) ≤ 1) && decide ((stepAll s p).1.steps = IntKind.i64.wrap (s.steps + 1)) && decide ((stepAll s p).1.changes = IntKind.i64.wrap (s.changes + (diffs s.cells (stepAll s p).1.cells : Int))) && ((nextAccess s p).data.toList == (nextAccess s p).data.toList) && (!((nextAccess s p).data.toList == (⟨#[108, 111, 97, 100]⟩ : ByteArray).data.toList) || decide ((diffs s.cells (stepAll s p).1.cells : Int) = 0))) = true := by
 have h1 : diffs s.cells (stepAll s p).1.cells ≤ 1 := hc.d
 have h2 : (stepAll s p).1.steps = IntKind.i64.wrap (s.steps + 1) := hc.t
 have h3 : (stepAll s p).1.changes = IntKind.i64.wrap (s.changes + (diffs s.cells (stepAll s p).1.cells : Int)) := hc.n
 rw [decide_eq_true (by omega), decide_eq_true h2, decide_eq_true h3, beq_self_eq_true]
 by_cases q : nextAccess s p = ⟨#[108, 111, 97, 100]⟩
 · rw [decide_eq_true (p := (diffs s.cells (stepAll s p).1.cells : Int) = 0) (by rw [all_c0 hr q]; rfl), Bool.or_true]; rfl
 · have hq : ((nextAccess s p).data.toList == (⟨#[108, 111, 97, 100]⟩ : ByteArray).data.toList) = false := by
     rw [Bool.eq_false_iff]
     intro h
     have h4 := eq_of_beq h
     apply q
     cases hn : nextAccess s p with
     | mk d =>
       rw [hn] at h4
       have := Array.ext' h4
       rw [show d = _ from this]
   rw [hq]; rfl
end
theorem countD_c {W : World} {va vb : Value} {xs ys : List Int} (ha : intEK.Rd W va xs) (hb : intEK.Rd W vb ys) (hl : ys.length = xs.length) (hz : xs.length ≤ 1048576) : Calls Tryz.prog 34 #[va, vb] W (Ret fun v w' => v = vi (diffs xs ys : Int) ∧ Below W.heap.size W w') := by
 refine cfr Tryz.func34 Tryz.ntmps34 fun a hF => ?_
 have hS := Sep.refl W
 obtain ⟨A_a, q_a, rfl, hq_a, hn_a⟩ := ha.sl; unfold maxLen at hn_a
 obtain ⟨A_b, q_b, rfl, hq_b, hn_b⟩ := hb.sl; unfold maxLen at hn_b
 refine rg hF rfl fun a hF => rg hF rfl fun a hF => wp_seq_k fun K3 hK3 => ws fun K4 hK4 => ga 4 hF rfl fun a hF => wl hF rfl rfl rfl (r_max (hF.ev rfl) (hF.ev rfl)) fun a hF => ?_
 have hmx : (if (ys.length : Int) > (xs.length : Int) then (ys.length : Int) else (xs.length : Int)) = (xs.length : Int) := if_neg (by omega)
 rw [hmx] at hF
 refine ge hK4 hF rfl fun a hF => wp_block ?_
 have hL_ := ((((hF.nil.keep hF (t := 11) rfl).keep hF (t := 4) rfl).keep hF (t := 1) rfl).keep hF (t := 0) rfl)
 refine wp_loop_r (σ := Nat) (fun k L_ => (12, vi k) :: (5, vi (diffs (xs.take k) (ys.take k) : Int)) :: L_) (fun k => (k ≤ xs.length)) (fun k => xs.length - k) 0 hS ((hL_.keepE hF (t := 5) rfl rfl).keepE hF (t := 12) rfl rfl) ?_ ?_
 · exact Nat.zero_le _
 rintro k a w1 hk hS hF; try dsimp only at hF; try dsimp only at hS
 refine rg hF rfl fun a hF => wp_seq_k fun K6 hK6 => cx 13 hF rfl (fun c13 hF => ?_) fun c13 hF => ?_
 ·
  have hlt : k < xs.length := by omega
  refine wp_skip <| hK6 _ _ <| wp_seq_k fun K7 hK7 => wp_block <| rg hF rfl fun a hF => wp_seq_k fun K9 hK9 => wp_region_calm (by kernel_rfl) (by kernel_rfl) ?_
  refine qa 5 hF tk rfl fun a hF => ?_
  apply wq_or (A := [_, _, _, _, _]) (pk := 24) hF (tc := 19) rfl
  ·
   intro hg19 a hF; try simp only [zb] at hg19
   refine qa 5 hF tk rfl fun a hF => ?_
   exact wpQuiet_nil ((Fr.pre (A := [_, _, _, _, _]) hF rfl).keep hF (t := 24) rfl)
  ·
   intro hg19 a hF; try simp only [zb] at hg19
   refine qa 5 hF tk rfl fun a hF => ?_
   exact wpQuiet_nil ((Fr.pre (A := [_, _, _, _, _]) hF rfl).keep hF (t := 24) rfl)
  intro a hF
  refine qa 1 hF tk rfl fun a hF => ?_
  apply wq_or (A := [_, _, _, _, _, _, _, _, _, _]) (pk := 35) hF (tc := 25) rfl
  ·
   intro hg25 a hF; try simp only [zb] at hg25
   refine qa 2 hF tk rfl fun a hF => wq_take hF rfl rfl rfl rfl ?_
   obtain ⟨g28, o28, m28, q28, hv28, hm28, hl28, hc28⟩ := Rd.atF (ha) (a := a) (X := .tmp 27) (hF.ev rfl) (by omega) (by omega)
   refine wq hF rfl rfl rfl (fun w_ hB_ => r_index sl26 ((hF.ev rfl).trans hv28) (hF.ev rfl) (by omega) (by first | omega | (simp at hm28; omega))) fun a hF => ?_
   refine wq_take hF rfl rfl rfl rfl <| wq hF rfl rfl rfl (fun w_ hB_ => r_load1 sc3 (hF.ev rfl) (cellB (hS.ext hB_).old (hc28 0 _ rfl))) fun a hF => qa 2 hF tk rfl fun a hF => wq_take hF rfl rfl rfl rfl ?_
   obtain ⟨g32, o32, m32, q32, hv32, hm32, hl32, hc32⟩ := Rd.atF (hb) (a := a) (X := .tmp 31) (hF.ev rfl) (by omega) (by omega)
   refine wq hF rfl rfl rfl (fun w_ hB_ => r_index sl26 ((hF.ev rfl).trans hv32) (hF.ev rfl) (by omega) (by first | omega | (simp at hm32; omega))) fun a hF => ?_
   refine wq_take hF rfl rfl rfl rfl <| wq hF rfl rfl rfl (fun w_ hB_ => r_load1 sc3 (hF.ev rfl) (cellB (hS.ext hB_).old (hc32 0 _ rfl))) fun a hF => qa 2 hF tk rfl fun a hF => ?_
   exact wpQuiet_nil ((Fr.pre (A := [_, _, _, _, _, _, _, _, _, _]) hF rfl).keep hF (t := 35) rfl)
  ·
   intro hg25 a hF; try simp only [zb] at hg25
   refine qa 10 hF tk rfl fun a hF => ?_
   exact wpQuiet_nil ((Fr.pre (A := [_, _, _, _, _, _, _, _, _, _]) hF rfl).keep hF (t := 35) rfl)
  intro a hF
  refine wpQuiet_nil ?_; intro w4 hB_; have hS := hS.ext hB_
  refine hK9 _ _ <| cx 35 hF rfl (fun c35 hF => ?_) fun c35 hF => ?_
  ·
   refine rl hF rfl fun a hF => ?_
   refine xt ?_
   refine hK7 _ _ <| rl hF rfl fun a hF => ?_
   refine xt ?_
   refine ⟨k + 1, (by omega), hS, ((((((hF.nil.keep hF (t := 11) rfl).keep hF (t := 4) rfl).keep hF (t := 1) rfl).keep hF (t := 0) rfl).keepE hF (t := 5) rfl (congrArg vi (by first | exact cd_yes hl hz hlt (by omega) | exact cd_no hl hlt (by omega)))).keepE hF (t := 12) rfl (wk (by omega))), by omega⟩
  refine wp_skip ?_
  refine xt ?_
  refine hK7 _ _ <| rl hF rfl fun a hF => ?_
  refine xt ?_
  refine ⟨k + 1, (by omega), hS, ((((((hF.nil.keep hF (t := 11) rfl).keep hF (t := 4) rfl).keep hF (t := 1) rfl).keep hF (t := 0) rfl).keepE hF (t := 5) rfl (congrArg vi (by first | exact cd_yes hl hz hlt (by omega) | exact cd_no hl hlt (by omega)))).keepE hF (t := 12) rfl (wk (by omega))), by omega⟩
 refine wp_exit ?_
 refine xt ?_
 refine hK3 _ _ <| rg hF rfl fun a hF => ?_
 refine xr ?_
 refine ret1 rfl hF rfl ⟨congrArg vi ?_, hS.old⟩
 rw [List.take_of_length_le (by omega), List.take_of_length_le (by omega)]
theorem implStep_c {W : World} {s : Sl.State} {cs : List Value} {p : Int} (hm : stateEK.K W s cs) (hw : s.wf) (hz : (s.size : Int) ≤ 1048576) (hp0 : int64 p) (hi31 : ∀ t ∈ s.threads, H31 s t) : Calls Tryz.prog 32 #[.agg cs.toArray, vi p] W (Ret (Mk W (fun vs => .tuple #[.agg (stateEK.cells (stepAll s p).1 vs).toArray, .bool (stepAll s p).2]) (fun vs => [Part stateEK (stepAll s p).1 vs]))) := by
 refine cfr Tryz.func32 Tryz.ntmps32 fun a hF => ?_
 have hS := Sep.refl W
 obtain ⟨v0, v1, v2, rfl, r0, r1, r2⟩ := hm
 have hm : stateEK.K W s (s.encv v0 v1 v2) := ⟨_, _, _, rfl, r0, r1, r2⟩
 obtain ⟨A_a, q_a, rfl, hq_a, hn_a⟩ := r0.sl; unfold maxLen at hn_a
 obtain ⟨A_b, q_b, rfl, hq_b, hn_b⟩ := r1.sl; unfold maxLen at hn_b
 obtain ⟨A_c, q_c, rfl, hq_c, hn_c⟩ := r2.sl; unfold maxLen at hn_c
 refine ws fun K1 hK1 => wl_box (cs := [_, _, _, _, _, _, _, _, _, _, _, _, _]) hF hS rfl (hF.ev rfl) rfl fun g1 w1 a hS _ hF => wl_alloc hF hS rfl zr29 fun g2 w2 a hS _ hF => ge hK1 hF rfl fun a hF => wp_seq_k fun K2 hK2 => ws fun K3 hK3 => gb 2 1 hF hS rfl rfl rfl fun a hF => ?_
 refine ckr hF hS rfl (implIsRunning_c (hS.k hm) hw hz hp0) fun w3 a hS hF => ge hK3 hF rfl fun a hF => cx 10 hF rfl (fun c10 hF => ?_) fun c10 hF => ?_
 ·
  refine ws fun K4 hK4 => gb 1 1 hF hS rfl rfl rfl fun a hF => ?_
  refine wl_mk hF hS rfl rfl rfl (r_call1 en39 (hF.ev rfl)) (copyState_c (hS.k hm) (by omega)) ?_; rintro vs12 w4 a hS_ hF; replace hS := hS_; clear hS_; dsimp only [List.cons_append, List.nil_append] at hS
  refine ww 1 hF hS rfl rfl rfl rfl rfl rfl fun w5 hS => ge hK4 hF rfl fun a hF => ?_
  refine xr ?_
  have e : stepAll s p = (s, false) := if_neg (fun h => by rw [h] at c10; cases c10)
  refine ret2c rfl ag29 hF hS (i := 1) rfl sz29 rfl rfl ⟨vs12, ?_, ?_⟩
  · rw [e] <;> rfl
  · rw [e]; exact hS.pick [0] (by decide) rfl
 have hb1 := (running_of c10).2
 refine wp_skip <| hK2 _ _ <| wp_seq_k fun K5 hK5 => ws fun K6 hK6 => gb 3 1 hF hS rfl rfl rfl fun a hF => ?_
 obtain ⟨g16, o16, m16, q16, cs16, hv16, hm16, hl16, hk16, hz16, hc16⟩ := Rd.at (r2) (a := a) (X := .tmp 15) (hF.ev rfl) (by omega) (by omega)
 have hkk16 := hk16; obtain ⟨v16_0, v16_1, v16_2, v16_3, v16_4, rfl, r16_0, r16_1, r16_2, r16_3, r16_4⟩ := hk16
 refine wl hF rfl rfl rfl (r_index sl27 ((hF.ev rfl).trans hv16) (hF.ev rfl) (by omega) (by first | omega | (simp at hm16; omega))) fun a hF => ?_
 refine ga 1 hF rfl fun a hF => wl hF rfl rfl rfl (r_load1 sc3 (hF.ev rfl) (cellB hS.old (hc16 0 _ rfl))) fun a hF => ge hK6 hF rfl fun a hF => wp_block <| ws fun K7 hK7 => ga 1 hF rfl fun a hF => ckr hF hS rfl (implIsBegin_c) fun w6 a hS hF => ?_
 refine ge hK7 hF rfl fun a hF => cx 19 hF rfl (fun c19 hF => ?_) fun c19 hF => ?_
 ·
  refine ws fun K8 hK8 => gb 2 1 hF hS rfl rfl rfl fun a hF => ?_
  refine wl_mk hF hS rfl rfl rfl (r_call2 en26 (hF.ev rfl) (hF.ev rfl)) (implStepBegin_c (hS.k hm) hw hz hp0) ?_; rintro vs24 w7 a hS_ hF; replace hS := hS_; clear hS_; dsimp only [List.cons_append, List.nil_append] at hS
  refine ga 2 hF rfl fun a hF => ww 1 hF hS rfl rfl rfl rfl rfl rfl fun w8 hS => ge hK8 hF rfl fun a hF => ?_
  refine xr ?_
  have e := kind_all kB c10 c19
  refine ret2c rfl ag29 hF hS (i := 1) rfl sz29 rfl rfl ⟨vs24, ?_, ?_⟩
  · rw [← e] <;> rfl
  · rw [← e]; exact hS.pick [0] (by decide) rfl
 refine ws fun K9 hK9 => ga 1 hF rfl fun a hF => ckr hF hS rfl (implIsWalk_c) fun w9 a hS hF => ge hK9 hF rfl fun a hF => cx 27 hF rfl (fun c27 hF => ?_) fun c27 hF => ?_
 ·
  refine ws fun K10 hK10 => gb 2 1 hF hS rfl rfl rfl fun a hF => ?_
  refine wl_mk hF hS rfl rfl rfl (r_call2 en28 (hF.ev rfl) (hF.ev rfl)) (implStepWalk_c (hS.k hm) hw hz hp0) ?_; rintro vs32 w10 a hS_ hF; replace hS := hS_; clear hS_; dsimp only [List.cons_append, List.nil_append] at hS
  refine ga 2 hF rfl fun a hF => ww 1 hF hS rfl rfl rfl rfl rfl rfl fun w11 hS => ge hK10 hF rfl fun a hF => ?_
  refine xr ?_
  have e := kind_all kW c10 c27
  refine ret2c rfl ag29 hF hS (i := 1) rfl sz29 rfl rfl ⟨vs32, ?_, ?_⟩
  · rw [← e] <;> rfl
  · rw [← e]; exact hS.pick [0] (by decide) rfl
 refine ws fun K11 hK11 => ga 1 hF rfl fun a hF => ckr hF hS rfl (implIsRead_c) fun w12 a hS hF => ge hK11 hF rfl fun a hF => cx 35 hF rfl (fun c35 hF => ?_) fun c35 hF => ?_
 ·
  refine ws fun K12 hK12 => gb 2 1 hF hS rfl rfl rfl fun a hF => ?_
  refine wl_mk hF hS rfl rfl rfl (r_call2 en29 (hF.ev rfl) (hF.ev rfl)) (implStepRead_c (hS.k hm) hw hz hp0) ?_; rintro vs40 w13 a hS_ hF; replace hS := hS_; clear hS_; dsimp only [List.cons_append, List.nil_append] at hS
  refine ga 2 hF rfl fun a hF => ww 1 hF hS rfl rfl rfl rfl rfl rfl fun w14 hS => ge hK12 hF rfl fun a hF => ?_
  refine xr ?_
  have e := kind_all kR c10 c35
  refine ret2c rfl ag29 hF hS (i := 1) rfl sz29 rfl rfl ⟨vs40, ?_, ?_⟩
  · rw [← e] <;> rfl
  · rw [← e]; exact hS.pick [0] (by decide) rfl
 refine ws fun K13 hK13 => ga 1 hF rfl fun a hF => ckr hF hS rfl (implIsWrite_c) fun w15 a hS hF => ge hK13 hF rfl fun a hF => cx 43 hF rfl (fun c43 hF => ?_) fun c43 hF => ?_
 ·
  refine ws fun K14 hK14 => gb 2 1 hF hS rfl rfl rfl fun a hF => ?_
  refine wl_mk hF hS rfl rfl rfl (r_call2 en30 (hF.ev rfl) (hF.ev rfl)) (implStepWrite_c (hS.k hm) hw hz hp0 hi31) ?_; rintro vs48 w16 a hS_ hF; replace hS := hS_; clear hS_; dsimp only [List.cons_append, List.nil_append] at hS
  refine ga 2 hF rfl fun a hF => ww 1 hF hS rfl rfl rfl rfl rfl rfl fun w17 hS => ge hK14 hF rfl fun a hF => ?_
  refine xr ?_
  have e := kind_all kX c10 c43
  refine ret2c rfl ag29 hF hS (i := 1) rfl sz29 rfl rfl ⟨vs48, ?_, ?_⟩
  · rw [← e] <;> rfl
  · rw [← e]; exact hS.pick [0] (by decide) rfl
 refine ws fun K15 hK15 => ga 1 hF rfl fun a hF => ckr hF hS rfl (implIsFlush_c) fun w18 a hS hF => ge hK15 hF rfl fun a hF => cx 51 hF rfl (fun c51 hF => ?_) fun c51 hF => ?_
 ·
  refine ws fun K16 hK16 => gb 2 1 hF hS rfl rfl rfl fun a hF => ?_
  refine wl_mk hF hS rfl rfl rfl (r_call2 en31 (hF.ev rfl) (hF.ev rfl)) (implStepFlush_c (hS.k hm) hw hz hp0) ?_; rintro vs56 w19 a hS_ hF; replace hS := hS_; clear hS_; dsimp only [List.cons_append, List.nil_append] at hS
  refine ga 2 hF rfl fun a hF => ww 1 hF hS rfl rfl rfl rfl rfl rfl fun w20 hS => ge hK16 hF rfl fun a hF => ?_
  refine xr ?_
  have e := kind_all kF c10 c51
  refine ret2c rfl ag29 hF hS (i := 1) rfl sz29 rfl rfl ⟨vs56, ?_, ?_⟩
  · rw [← e] <;> rfl
  · rw [← e]; exact hS.pick [0] (by decide) rfl
 refine rg hF rfl fun a hF => cx 59 hF rfl (fun c59 hF => ?_) fun c59 hF => ?_
 ·
  refine ws fun K18 hK18 => gb 2 1 hF hS rfl rfl rfl fun a hF => ?_
  refine wl_mk hF hS rfl rfl rfl (r_call2 en22 (hF.ev rfl) (hF.ev rfl)) (implStepReclaim_c (hS.k hm) hw hz hp0) ?_; rintro vs64 w21 a hS_ hF; replace hS := hS_; clear hS_; dsimp only [List.cons_append, List.nil_append] at hS
  refine ga 2 hF rfl fun a hF => ww 1 hF hS rfl rfl rfl rfl rfl rfl fun w22 hS => ge hK18 hF rfl fun a hF => ?_
  refine xr ?_
  have e := kind_all kC c10 (decide_eq_true c59)
  refine ret2c rfl ag29 hF hS (i := 1) rfl sz29 rfl rfl ⟨vs64, ?_, ?_⟩
  · rw [← e] <;> rfl
  · rw [← e]; exact hS.pick [0] (by decide) rfl
 refine wp_skip ?_
 refine xt ?_
 refine hK5 _ _ <| ws fun K19 hK19 => gb 2 1 hF hS rfl rfl rfl fun a hF => ?_
 refine wl_mk hF hS rfl rfl rfl (r_call2 en27 (hF.ev rfl) (hF.ev rfl)) (implStepEnd_c (hS.k hm) hw hz hp0) ?_; rintro vs69 w23 a hS_ hF; replace hS := hS_; clear hS_; dsimp only [List.cons_append, List.nil_append] at hS
 refine ga 2 hF rfl fun a hF => ww 1 hF hS rfl rfl rfl rfl rfl rfl fun w24 hS => ge hK19 hF rfl fun a hF => ?_
 refine xr ?_
 have e := (stepEnd_of s p).trans (kind_all kE c10 (last_kind c10 c19 c27 c35 c43 c51 c59))
 refine ret2c rfl ag29 hF hS (i := 1) rfl sz29 rfl rfl ⟨vs69, ?_, ?_⟩
 · rw [← e] <;> rfl
 · rw [← e]; exact hS.pick [0] (by decide) rfl
set_option maxRecDepth 20000
theorem all_len {s : Sl.State} {p : Int} : (stepAll s p).1.threads.length = s.threads.length := by
 unfold stepAll stepBy; split <;> simp [stepped]
theorem en32 : enterB Tryz.prog 32 = true := by kernel_rfl
set_option maxRecDepth 20000
theorem law_FnSteps {W : World} {vb : Value} {bs : List Int} (hb : byteEK.Rd W vb bs) : Calls Tryz.prog 6 #[vb] W (Ret fun v w' => v = .bool true ∧ Below W.heap.size W w') := by
 refine cfr Tryz.func6 Tryz.ntmps6 fun a hF => ?_
 have hS := Sep.refl W
 refine rg hF rfl fun a hF => wp_seq_k fun K2 hK2 => ws fun K3 hK3 => ga 1 hF rfl fun a hF => ckr hF hS rfl (big_c (hS.rd hb)) fun w1 a hS hF => wl_nil <| hK3 _ _ <| cx 13 hF rfl (fun c13 hF => ?_) fun c13 hF => ?_
 ·
  refine rg hF rfl fun a hF => ?_
  refine xr ?_
  refine ret1 rfl hF rfl ⟨congrArg Value.bool ?_, hS.old⟩
  rfl
 refine wp_skip <| hK2 _ _ <| ws fun K5 hK5 => ga 1 hF rfl fun a hF => ?_
 refine wl_mk hF hS rfl rfl rfl (r_call1 en24 (hF.ev rfl)) (drawStp_c (hS.rd hb) (by omega)) ?_; rintro ⟨⟨x16, vs16, p16⟩, hg16, hp16⟩ w2 a hS_ hF; replace hS := hS_; clear hS_; dsimp only [List.cons_append, List.nil_append] at hS
 replace hF : Fr _ ((16, .tuple #[.agg (stateEK.cells x16 vs16).toArray, vi p16]) :: _) _ := hF
 replace hg16 : Drawn x16 := hg16
 replace hp16 : int64 p16 := hp16
 refine ga 3 hF rfl fun a hF => wl_alloc hF hS rfl zr29 fun g1 w3 a hS _ hF => ww 0 hF hS rfl rfl rfl rfl rfl rfl fun w4 hS => ge hK5 hF rfl fun a hF => ws fun K6 hK6 => gb 2 0 hF hS rfl rfl rfl fun a hF => ?_
 refine wl_mk hF hS rfl rfl rfl (r_call2 en32 (hF.ev rfl) (hF.ev rfl)) (implStep_c (hS.part_k (i := 1) rfl) hg16.wf (by have := hg16.sz; omega) hp16 hg16.h31) ?_; rintro vs22 w5 a hS_ hF; replace hS := hS_; clear hS_; dsimp only [List.cons_append, List.nil_append] at hS
 refine ga 3 hF rfl fun a hF => wl_alloc hF hS rfl zr29 fun g2 w6 a hS _ hF => ww 0 hF hS rfl rfl rfl rfl rfl rfl fun w7 hS => ge hK6 hF rfl fun a hF => ws fun K7 hK7 => gb 2 2 hF hS rfl rfl rfl fun a hF => ?_
 refine wl_mk hF hS rfl rfl rfl (r_call2 en25 (hF.ev rfl) (hF.ev rfl)) (specStep_c (hS.part_k (i := 3) rfl) hg16.wf (by have := hg16.sz; omega) hp16) ?_; rintro vs28 w8 a hS_ hF; replace hS := hS_; clear hS_; dsimp only [List.cons_append, List.nil_append] at hS
 refine ga 3 hF rfl fun a hF => wl_alloc hF hS rfl zr29 fun g3 w9 a hS _ hF => ww 0 hF hS rfl rfl rfl rfl rfl rfl fun w10 hS => ge hK7 hF rfl fun a hF => wp_seq_k fun K8 hK8 => ws fun K9 hK9 => ga 2 hF rfl fun a hF => ?_
 refine wl hF rfl rfl rfl (r_neqb bl4 (hF.ev rfl) (hF.ev rfl)) fun a hF => ga 1 hF rfl fun a hF => ?_
 apply wo 5 34 39 hF hS
 ·
  intro hg34 a hF
  refine gb 1 2 hF hS rfl rfl rfl fun a hF => wl_take hF rfl rfl rfl rfl <| gb 1 0 hF hS rfl rfl rfl fun a hF => ckr hF hS rfl (implEqState_c (hS.part_k (i := 3) rfl) (hS.part_k (i := 1) rfl)) fun w11 a hS hF => ?_
  exact je 5 hF hS rfl rfl rfl rfl
 intro a w12 hF hS
 refine ga 1 hF rfl fun a hF => ?_
 apply wo 6 40 46 hF hS
 ·
  intro hg40 a hF
  refine gb 3 4 hF hS rfl rfl rfl fun a hF => ?_
  refine ckr hF hS rfl (implIsRunning_c (hS.part_k (i := 5) rfl) hg16.wf (by have := hg16.sz; omega) hp16) fun w13 a hS hF => ?_
  refine wl_take hF rfl rfl rfl rfl <| wl hF rfl rfl rfl (r_neqb bl4 (hF.ev rfl) (hF.ev rfl)) fun a hF => ?_
  exact je 6 hF hS rfl rfl rfl rfl
 intro a w14 hF hS
 refine wl_nil <| hK9 _ _ <| cx 46 hF rfl (fun c46 hF => ?_) fun c46 hF => ?_
 ·
  exfalso; simp [all_run] at c46
 refine wp_skip <| hK8 _ _ <| wp_seq_k fun K10 hK10 => rg hF rfl fun a hF => cx 48 hF rfl (fun c48 hF => ?_) fun c48 hF => ?_
 ·
  refine ws fun K12 hK12 => gb 1 2 hF hS rfl rfl rfl fun a hF => gb 1 4 hF hS rfl rfl rfl fun a hF => ckr hF hS rfl (implEqState_c (hS.part_k (i := 3) rfl) (hS.part_k (i := 5) rfl)) fun w15 a hS hF => ge hK12 hF rfl fun a hF => ?_
  refine xr ?_
  refine ret1 rfl hF rfl ⟨congrArg Value.bool ?_, hS.old⟩
  exact decide_eq_true (all_none c48)
 rw [all_run] at c48
 have hso := (running_of c48).1
 obtain ⟨hok_, _, _, htc_⟩ := stateOk_shape hso
 have hb_ := hok_; unfold Config.ok at hb_
 have hb1 := (running_of c48).2
 have htl := all_len (s := x16) (p := p16)
 have hc1 := all_c1 c48 hg16.wf.2.2.2.2.2.1
 have hcl : (stepAll x16 p16).1.cells.length = x16.cells.length := hc1.l
 have hcz : x16.cells.length ≤ 1048576 := by have := hg16.sz; unfold Sl.State.size at this; omega
 replace hS := hS.pull (p := 5) rfl; dsimp only [List.eraseIdx] at hS
 replace hS : Sep W (Own intEK (sv (vs16.getD 0 (none, 0, 0))) x16.cells :: Own intEK (sv (vs16.getD 1 (none, 0, 0))) x16.generations :: Own threadEK (sv (vs16.getD 2 (none, 0, 0))) x16.threads :: _) _ := hS.part_open
 try dsimp only [stateEK] at hS
 generalize vs16.getD 0 (none, 0, 0) = z0 at hS
 generalize vs16.getD 1 (none, 0, 0) = z1 at hS
 generalize vs16.getD 2 (none, 0, 0) = z2 at hS
 have hl0_z0 := hS.own_len (q := 0) rfl
 have hl1_z1 := hS.own_len (q := 1) rfl
 have hl2_z2 := hS.own_len (q := 2) rfl
 replace hS := hS.pull (p := 6) rfl; dsimp only [List.eraseIdx] at hS
 replace hS : Sep W (Own intEK (sv (vs22.getD 0 (none, 0, 0))) (stepAll x16 p16).1.cells :: Own intEK (sv (vs22.getD 1 (none, 0, 0))) (stepAll x16 p16).1.generations :: Own threadEK (sv (vs22.getD 2 (none, 0, 0))) (stepAll x16 p16).1.threads :: _) _ := hS.part_open
 try dsimp only [stateEK] at hS
 generalize vs22.getD 0 (none, 0, 0) = y0 at hS
 generalize vs22.getD 1 (none, 0, 0) = y1 at hS
 generalize vs22.getD 2 (none, 0, 0) = y2 at hS
 have hl0_y0 := hS.own_len (q := 0) rfl
 have hl1_y1 := hS.own_len (q := 1) rfl
 have hl2_y2 := hS.own_len (q := 2) rfl
 refine wp_skip <| hK10 _ _ <| wp_seq_k fun K13 hK13 => rg hF rfl fun a hF => wp_block ?_
 have hL_ := ((((hF.nil.keep hF (t := 5) rfl).keep hF (t := 4) rfl).keep hF (t := 3) rfl).keep hF (t := 2) rfl)
 refine wp_loop_r (σ := Nat) (fun k L_ => (9, vi k) :: L_) (fun k => (k ≤ x16.threads.length)) (fun k => x16.threads.length - k) 0 hS (hL_.keepE hF (t := 9) rfl rfl) ?_ ?_
 · exact Nat.zero_le _
 rintro k a w16 hk hS hF; try dsimp only at hF; try dsimp only at hS
 refine wp_seq_k fun K15 hK15 => rh 8 hF hS rfl rfl rfl fun a hF => cx 56 hF rfl (fun c56 hF => ?_) fun c56 hF => ?_
 ·
  have hlt : k < x16.threads.length := by omega
  refine wp_skip <| hK15 _ _ <| wp_seq_k fun K17 hK17 => wp_block <| wp_seq_k fun K18 hK18 => wp_region_calm (by kernel_rfl) (by kernel_rfl) <| qa 4 hF tk rfl fun a hF => ?_
  apply wq_and (A := [_, _, _, _, _, _, _, _, _, _, _, _, _]) (pk := 75) hF (tc := 62) rfl
  ·
   intro hg62 a hF; try simp only [zb] at hg62
   refine qb 3 8 hF tk hS rfl rfl rfl fun a hF => wq_take hF rfl rfl rfl rfl ?_
   obtain ⟨g66, o66, m66, q66, cs66, hv66, hm66, hl66, hk66, hz66, hc66⟩ := Rd.at ((hS.own_rd (i := 2) rfl)) (a := a) (X := .tmp 65) (hF.ev rfl) (by omega) (by omega)
   have hkk66 := hk66; obtain ⟨v66_0, v66_1, v66_2, v66_3, v66_4, rfl, r66_0, r66_1, r66_2, r66_3, r66_4⟩ := hk66
   refine wq hF rfl rfl rfl (fun w_ hB_ => r_index sl27 ((hF.ev rfl).trans hv66) (hF.ev rfl) (by omega) (by first | omega | (simp at hm66; omega))) fun a hF => ?_
   refine wq_take hF rfl rfl rfl rfl <| wq hF rfl rfl rfl (fun w_ hB_ => r_loadn ag42 (hF.ev rfl) (fun j_ u_ hu_ => cellB hB_ (hc66 j_ u_ hu_)) sz42) fun a hF => qb 3 9 hF tk hS rfl rfl rfl fun a hF => wq_take hF rfl rfl rfl rfl ?_
   obtain ⟨g71, o71, m71, q71, cs71, hv71, hm71, hl71, hk71, hz71, hc71⟩ := Rd.at ((hS.own_rd (i := 5) rfl)) (a := a) (X := .tmp 70) (hF.ev rfl) (by omega) (by omega)
   have hkk71 := hk71; obtain ⟨v71_0, v71_1, v71_2, v71_3, v71_4, rfl, r71_0, r71_1, r71_2, r71_3, r71_4⟩ := hk71
   refine wq hF rfl rfl rfl (fun w_ hB_ => r_index sl27 ((hF.ev rfl).trans hv71) (hF.ev rfl) (by omega) (by first | omega | (simp at hm71; omega))) fun a hF => ?_
   refine wq_take hF rfl rfl rfl rfl <| wq hF rfl rfl rfl (fun w_ hB_ => r_loadn ag42 (hF.ev rfl) (fun j_ u_ hu_ => cellB hB_ (hc71 j_ u_ hu_)) sz42) fun a hF => qk hF rfl (fun w_ hB_ => implEqThread_c (threadEK.ext hB_ hkk66) (threadEK.ext hB_ hkk71)) fun a hF => qa 2 hF tk rfl fun a hF => ?_
   exact wpQuiet_nil ((Fr.pre (A := [_, _, _, _, _, _, _, _, _, _, _, _, _]) hF rfl).keep hF (t := 75) rfl)
  ·
   intro hg62 a hF; try simp only [zb] at hg62
   refine qa 13 hF tk rfl fun a hF => ?_
   exact wpQuiet_nil ((Fr.pre (A := [_, _, _, _, _, _, _, _, _, _, _, _, _]) hF rfl).keep hF (t := 75) rfl)
  intro a hF
  refine wpQuiet_nil ?_; intro w18 hB_; have hS := hS.ext hB_
  refine hK18 _ _ <| cx 75 hF rfl (fun c75 hF => ?_) fun c75 hF => ?_
  ·
   exfalso; exact c75.2 (all_other c48 c75.1)
  refine wp_skip ?_
  refine xt ?_
  refine hK17 _ _ <| rl hF rfl fun a hF => ?_
  refine xt ?_
  refine ⟨k + 1, (by omega), hS, (((((hF.nil.keep hF (t := 5) rfl).keep hF (t := 4) rfl).keep hF (t := 3) rfl).keep hF (t := 2) rfl).keepE hF (t := 9) rfl (wk (by omega))), by omega⟩
 refine wp_exit ?_
 refine xt ?_
 refine hK13 _ _ <| ws fun K19 hK19 => gb 3 9 hF hS rfl rfl rfl fun a hF => gb 1 8 hF hS rfl rfl rfl fun a hF => ckr hF hS rfl (countD_c (hS.own_rd (i := 3) rfl) (hS.own_rd (i := 0) rfl) hcl hcz) fun w19 a hS hF => ge hK19 hF rfl fun a hF => ws fun K20 hK20 => ?_
 refine gb 2 9 hF hS rfl rfl rfl fun a hF => ?_
 refine ckr hF hS rfl (implNextAccess_c (stateK_of (hS.own_rd (i := 3) rfl) (hS.own_rd (i := 4) rfl) (hS.own_rd (i := 5) rfl)) hg16.wf (by have := hg16.sz; omega) hp16) fun w20 a hS hF => ?_
 refine ge hK20 hF rfl fun a hF => ws fun K21 hK21 => ga 3 hF rfl fun a hF => ?_
 apply wa 7 86 93 hF hS
 ·
  intro hg86 a hF
  refine gb 3 8 hF hS rfl rfl rfl fun a hF => wl_take hF rfl rfl rfl rfl ?_
  exact jf 7 9 hF hS rfl rfl rfl rfl rfl rfl
 intro a w21 hF hS
 refine ga 1 hF rfl fun a hF => ?_
 apply wa 8 94 102 hF hS
 ·
  intro hg94 a hF
  refine gb 3 8 hF hS rfl rfl rfl fun a hF => wl_take hF rfl rfl rfl rfl ?_
  exact jf 8 9 hF hS rfl rfl rfl rfl rfl rfl
 intro a w22 hF hS
 refine ga 1 hF rfl fun a hF => ?_
 apply wa 6 103 109 hF hS
 ·
  intro hg103 a hF
  refine gb 3 9 hF hS rfl rfl rfl fun a hF => ?_
  refine ckr hF hS rfl (specNextAccess_c (stateK_of (hS.own_rd (i := 3) rfl) (hS.own_rd (i := 4) rfl) (hS.own_rd (i := 5) rfl)) hg16.wf (by have := hg16.sz; omega) hp16) fun w23 a hS hF => ?_
  refine wl_take hF rfl rfl rfl rfl <| wl hF rfl rfl rfl (r_eqls (hF.ev rfl) (hF.ev rfl)) fun a hF => ?_
  exact je 6 hF hS rfl rfl rfl rfl
 intro a w24 hF hS
 refine ga 1 hF rfl fun a hF => ?_
 apply wa 7 110 117 hF hS
 ·
  intro hg110 a hF
  refine ga 1 hF rfl fun a hF => wl_take hF rfl rfl rfl rfl <| wl hF rfl rfl rfl (r_neqs (hF.ev rfl) ec) fun a hF => ga 1 hF rfl fun a hF => ?_
  apply wo 3 113 116 hF hS
  ·
   intro hg113 a hF
   exact je 3 hF hS rfl rfl rfl rfl
  intro a w25 hF hS
  exact je 5 hF hS rfl rfl rfl rfl
 intro a w26 hF hS
 refine ge hK21 hF rfl fun a hF => ?_
 refine xr ?_
 refine ret1 rfl hF rfl ⟨congrArg Value.bool ?_, hS.old⟩
 exact steps_ret c48 hc1
end Go.Proofs.YtgofolgogfmhgaaGreat.Wk
namespace Go.Proofs.YtgofolgogfmhgaaGreat.Sl
open Go
section
variable {P : Program} {h s : List Char} {X : List (List Char)}
/-- a row of signs, by their numbers -/
def ch (l : List Nat) : List Char := l.map Char.ofNat
/-- the blank -/
abbrev sp : Char := Char.ofNat 32
theorem words_sp : ∀ (w r : List Char), Sl.sp ∉ w → wordsSigns (w ++ Sl.sp :: r) = w :: wordsSigns r
  | [], r, _ => rfl
  | c :: w, r, h => by
    have hc : c ≠ Sl.sp := fun e => h (e ▸ List.mem_cons_self)
    have ih := words_sp w r (fun e => h (List.mem_cons_of_mem _ e))
    rw [List.cons_append, wordsSigns.eq_3 _ _ (fun e => hc e), ih]
theorem strip_cut : stripLifts liftWords ("cut".toList :: X) = ([], "cut".toList :: X) := by kernel_rfl
theorem made_of (e : behindMainWord (wordsSigns P.initOrder.toList) = "cut".toList :: X) : P.make = some .cut := by
 unfold Program.make; rw [e]; rfl
theorem final_of (e : behindMainWord (wordsSigns P.initOrder.toList) = "cut".toList :: X) : P.liftsFinal = false := by
 unfold Program.liftsFinal Program.headLifts; rw [e]; dsimp only; rw [strip_cut]; rfl
theorem enter_of (e : behindMainWord (wordsSigns P.initOrder.toList) = "cut".toList :: X) (h1 : P.laysLater = false) (h2 : P.bearsReflect = false) (h3 : P.doorFits [] = true) : P.mayEnter = true := by
 unfold Program.mayEnter; rw [e]; dsimp only; rw [strip_cut, h1, h2, h3]; rfl
end
end Go.Proofs.YtgofolgogfmhgaaGreat.Sl
namespace Go.Proofs.YtgofolgogfmhgaaGreat
open Go Go.RowKit Sl Wk
set_option linter.unusedVariables false
set_option linter.unusedSimpArgs false
set_option maxRecDepth 20000
theorem op5 : Opens Tryz.prog 5 1 (fun _ n cs => cs = [.int .u8 n]) (fun _ => True) := opens_byte (by kernel_rfl) (by kernel_rfl)
theorem op22 : Opens Tryz.prog 22 1 (fun W xs cs => ∃ v, cs = [v] ∧ byteEK.Rd W v xs) (fun xs => ∀ x ∈ xs, (fun _ => True) x) := opens_slice op5 (by decide) (by kernel_rfl) (by kernel_rfl)
namespace fnSteps
open Go.ChangeShapes Go.WideShapes Go.ChangeAt Go.RowKit
theorem laidOut : laidOutB Tryz.prog = true := by kernel_rfl
theorem own : ownKnob Tryz.prog.godebug = none := by kernel_rfl
theorem lifted (os : Os) (started : os.Started) (H : Type) (enc : TypeId × Value → H) :
    ReturnsInHanded {} Tryz.checked os 6 .any (Rows.fnStepsSpec.pre6 enc Tryz.prog Tryz.f6 Rows.fnStepsRow.domain false) (Rows.fnStepsSpec.post enc Tryz.prog Tryz.f6 false true false false) := by
  refine returnsInHanded_of_change_sized (C := Tryz.checked) own started (by kernel_rfl) Tryz.func6
    (ChangeSpec.witness6 (enc := enc) (C := Tryz.checked) false ⟨#[], #[.slice none 0 0], []⟩ 8 (by kernel_rfl) (by kernel_rfl) (by kernel_rfl) (by kernel_rfl)) ?_
  intro W base args ds gs before hval0 hW hcnd hsz0 _
  have hval : ∀ (j : Nat) t v, Tryz.f6.params[j]? = some t → args[j]? = some v → Value.okWide Tryz.prog W .any base t v := hval0
  have hW' := hW
  obtain ⟨p, q, hA0, hV, rfl, hfz, hnd⟩ := hW
  have hA : DataW.TrodAll enc Tryz.prog W 0 (fun _ => true) true Tryz.f6.params.toList args.toList ds p := hA0
  rw [Tryz.params6] at hA hval
  obtain ⟨v0, vs0, d0, ds0, p0, q0, hargs, rfl, rfl, h0, r0⟩ := trodAll_cons hA
  obtain ⟨rfl, rfl, rfl⟩ := trodAll_nil r0
  obtain rfl : args = #[v0] := by cases args; simp_all
  obtain ⟨rfl, rfl⟩ := trodVars_none hV
  have kk0 := h0
  have lt0 : ∀ x ∈ p0, x.block < W.heap.size := by obtain ⟨m, hm⟩ := kk0; exact DataW.trod_lt m _ _ _ hm
  obtain ⟨sa0, sl0, sc0, rfl⟩ := okWide_slice (by kernel_rfl : Tryz.prog.underlying 22 = some (.slice 5)) (hval 0 22 v0 rfl rfl)
  obtain ⟨m0, hm0⟩ := h0
  obtain ⟨x0, ⟨u0_0, e0, hr0⟩, _, ok0⟩ := (op22).2 _ _ _ _ _ _ _ hm0; clear hm0
  obtain rfl : Value.slice sa0 sl0 sc0 = u0_0 := by simpa [Value.cells] using e0
  clear hA0 hval0
  refine (law_FnSteps hr0).mono ?_
  rintro e W' ⟨v, rfl, rfl, bel⟩
  exact ⟨_, rfl, _, _, _, [], _, [], hW', trodAll_mk1 (shut_bool (by kernel_rfl : Tryz.prog.underlying 4 = some .bool) _), (trodAll_cons_mk (Below.trod laidOut (by kernel_rfl) (of_decide_eq_true (by kernel_rfl)) kk0 bel lt0) trodAll_mk0), rfl, bel.frame _, fun h => by cases h⟩
def restSigns : List Char := Sl.ch [97, 116, 32, 108, 111, 111, 112, 46, 101, 120, 97, 109, 112, 108, 101, 47, 103, 48, 49, 54, 50, 56, 47, 108, 97, 119, 115, 46, 70, 110, 83, 116, 97, 114, 116, 115, 32, 108, 111, 111, 112, 46, 101, 120, 97, 109, 112, 108, 101, 47, 103, 48, 49, 54, 50, 56, 47, 108, 97, 119, 115, 46, 70, 110, 76, 105, 109, 98, 111, 32, 108, 111, 111, 112, 46, 101, 120, 97, 109, 112, 108, 101, 47, 103, 48, 49, 54, 50, 56, 47, 108, 97, 119, 115, 46, 70, 110, 75, 105, 110, 100, 115, 79, 102, 83, 116, 101, 112, 115, 32, 108, 111, 111, 112, 46, 101, 120, 97, 109, 112, 108, 101, 47, 103, 48, 49, 54, 50, 56, 47, 108, 97, 119, 115, 46, 70, 110, 83, 116, 101, 112, 115]
theorem order : Tryz.pinned.checked.prog.initOrder = String.ofList (Sl.ch [104, 97, 114, 110, 101, 115, 115] ++ Sl.sp :: (Sl.ch [98, 55, 52, 56, 99, 50, 53, 100, 54, 101, 52, 101, 101, 52, 50, 98, 49, 48, 51, 55, 51, 97, 56, 57, 98, 102, 98, 99, 56, 49, 102, 49, 52, 56, 48, 101, 54, 54, 99, 100, 55, 48, 50, 53, 97, 52, 50, 57, 50, 52, 51, 49, 50, 100, 51, 98, 57, 102, 98, 57, 100, 56, 50, 98] ++ Sl.sp :: (Sl.ch [99, 117, 116] ++ Sl.sp :: restSigns))) := by kernel_rfl
theorem behind (X : List (List Char)) : behindMainWord (Sl.ch [104, 97, 114, 110, 101, 115, 115] :: Sl.ch [98, 55, 52, 56, 99, 50, 53, 100, 54, 101, 52, 101, 101, 52, 50, 98, 49, 48, 51, 55, 51, 97, 56, 57, 98, 102, 98, 99, 56, 49, 102, 49, 52, 56, 48, 101, 54, 54, 99, 100, 55, 48, 50, 53, 97, 52, 50, 57, 50, 52, 51, 49, 50, 100, 51, 98, 57, 102, 98, 57, 100, 56, 50, 98] :: Sl.ch [99, 117, 116] :: X) = "cut".toList :: X := by kernel_rfl
theorem heads : behindMainWord (wordsSigns Tryz.pinned.checked.prog.initOrder.toList) = "cut".toList :: wordsSigns restSigns := by
 rw [order, String.toList_ofList, Sl.words_sp _ _ (by decide), Sl.words_sp _ _ (by decide), Sl.words_sp _ _ (by decide)]; exact behind _
theorem facts : joinedFacts Tryz.pinned.checked.prog 6 Tryz.f6 Rows.fnStepsSpec Rows.fnStepsRow = true := by
 unfold joinedFacts; rw [Sl.enter_of heads (by kernel_rfl) (by kernel_rfl) (by kernel_rfl), Sl.final_of heads, Sl.made_of heads]; kernel_rfl
theorem over : Rows.fnStepsRow.holds Tryz.pinned (OpenSpec.ofChange Rows.fnStepsSpec) :=
  OpenClaim.holds_of_wide 6 Tryz.f6 rfl rfl rfl rfl rfl rfl rfl ⟨rfl, rfl, rfl, rfl, rfl⟩ rfl rfl rfl rfl rfl (by kernel_rfl) Tryz.func6 facts
    (of_decide_eq_true (by kernel_rfl)) (by unfold Func.isWrapper; first | (rw [if_pos (by decide +kernel)]; kernel_rfl) | (rw [if_neg (by decide +kernel)]; exact ⟨rfl, rfl⟩))
    (fun os started H enc _ => lifted os started H enc)
theorem proved : Rows.FnStepsSaid := over
end fnSteps
/-- The row, under a short name. -/
theorem fnSteps_holds : Rows.FnStepsSaid := fnSteps.proved
end Go.Proofs.YtgofolgogfmhgaaGreat
