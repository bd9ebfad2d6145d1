/- Walks: NextAccess, and its law. -/
import Derived.Test.YthjeeimdgejlhaaChecked
import Derived.Test.YthjeeimdgejlhaaWkR1
import Derived.Test.YthjeeimdgejlhaaFactsB
namespace Go.Proofs.Ythjeeimdgejlhaa.Wk
open Go Go.RowKit Sl
set_option linter.unusedVariables false
set_option linter.unusedSimpArgs false
set_option maxRecDepth 20000

def swaps : List Int := [4, 14, 18, 31, 40, 42, 44, 61]
def stores : List Int := [2, 5, 11, 15, 20, 21, 32, 33, 34, 36, 41, 46, 47, 62, 63, 80]
def accessOf (pc : Int) : ByteArray := if pc ∈ swaps then ⟨#[115, 119, 97, 112]⟩ else if pc ∈ stores then ⟨#[115, 116, 111, 114, 101]⟩ else ⟨#[108, 111, 97, 100]⟩
def nextAccess (s : State) (p : Int) : ByteArray := if isRunning s p = true then accessOf (at0 s.threads p).pc else ⟨#[]⟩

set_option maxHeartbeats 4000000 in
set_option maxRecDepth 20000 in
theorem specNextAccess_c {W : World} {s : Sl.State} {cs : List Value} (hm : stateEK.K W s cs) (hw : s.wf) (hz : (s.size : Int) ≤ 1048576) {p : Int} (hp : int64 p) : Calls Try.prog 49 #[.agg cs.toArray, vi p] W (Ret fun v w' => v = .string (nextAccess s p) ∧ Below W.heap.size W w') := by
  refine calls_fr Try.func49 rfl Try.ntmps49 rfl ?_
  intro a hF
  have hS := Sep.refl W
  obtain ⟨v0, v1, v2, rfl, r0, r1, r2⟩ := hm
  have hm : stateEK.K W s (s.encv v0 v1 v2) := ⟨_, _, _, rfl, r0, r1, r2⟩
  obtain ⟨A_a, q_a, rfl, hq_a, hn_a⟩ := r0.sl; unfold maxLen at hn_a
  obtain ⟨A_b, q_b, rfl, hq_b, hn_b⟩ := r1.sl; unfold maxLen at hn_b
  obtain ⟨A_c, q_c, rfl, hq_c, hn_c⟩ := r2.sl; unfold maxLen at hn_c
  have hwl : IntKind.i64.wrap ((s.threads.length : Int) - 1) = s.threads.length - 1 := w64_id (by omega) (by omega)
  refine wp_seq_k fun K1 hK1 => ?_
  refine wp_region_lit ?_
  refine wl_box (cs := [_, _, _, _, _, _, _, _, _, _, _, _, _]) hF hS rfl (hF.ev rfl) rfl ?_; clear hF a; intro g1 w1 a hS_ hB_ hF; replace hS := hS_; clear hS_ hB_
  refine wl hF rfl rfl rfl (r_assign ec) ?_; clear hF a; intro a hF
  refine wl_nil ?_
  refine hK1 _ _ ?_
  refine wp_seq_k fun K2 hK2 => ?_
  refine wp_seq_k fun K3 hK3 => ?_
  refine wp_region_lit ?_
  refine wl hF rfl rfl rfl (r_loadn ag37 (hF.ev rfl) (hS.box_rd (i := 0) rfl) sz37) ?_; clear hF a; intro a hF
  refine wl hF rfl rfl rfl (r_move (hF.ev rfl)) ?_; clear hF a; intro a hF
  refine wl_call hF rfl rfl rfl (r_call2 en32 (hF.ev rfl) (hF.ev rfl)) (specIsRunning_c (hS.k hm) hw (by omega) hp) ?_; clear hF a; rintro v w2 a ⟨rfl, hB_⟩ hF; replace hS := hS.ext hB_; clear hB_
  refine wl hF rfl rfl rfl (r_not (hF.ev rfl)) ?_; clear hF a; intro a hF
  refine wl_nil ?_
  refine hK3 _ _ ?_
  revert hF; intro hF0; refine wc_fx (t := 8) hF0 rfl (fun c8 hF => ?_) (fun c8 hF => ?_)
  ·
    clear hF0; try simp only [Bool.not_eq_true', Bool.not_eq_false', Bool.or_eq_true, Bool.and_eq_true, Bool.or_eq_false_iff, Bool.and_eq_false_iff, Bool.not_eq_eq_eq_not, Bool.not_true, Bool.not_false, decide_eq_true_eq, decide_eq_false_iff_not] at c8
    refine wp_seq_k fun K4 hK4 => ?_
    refine wp_region_lit ?_
    refine wl hF rfl rfl rfl (r_assign ec) ?_; clear hF a; intro a hF
    refine wl_nil ?_
    refine hK4 _ _ ?_
    refine wp_ret ?_
    try simp only [Exit.then, Exit.inBlock, ↓reduceIte]
    refine ret1 rfl hF rfl ⟨congrArg Value.string (Eq.symm ?_), hS.old⟩
    unfold nextAccess
    first
      | exact if_neg (by rw [c8]; decide)
      | (rw [if_pos c8]; unfold accessOf
         first
         | exact if_pos (by rw [c15]; decide)
         | (rw [if_neg (by rw [c15]; decide)]; exact if_pos (by rw [c15]; decide))
         | (rw [if_neg (by rw [c24]; decide)]; exact if_pos (by rw [c24]; decide))
         | rw [if_neg (by unfold swaps; simp only [List.mem_cons, List.not_mem_nil, or_false]; omega), if_neg (by unfold stores; simp only [List.mem_cons, List.not_mem_nil, or_false]; omega)])
  ·
    clear hF0; try simp only [Bool.not_eq_true', Bool.not_eq_false', Bool.or_eq_true, Bool.and_eq_true, Bool.or_eq_false_iff, Bool.and_eq_false_iff, Bool.not_eq_eq_eq_not, Bool.not_true, Bool.not_false, decide_eq_true_eq, decide_eq_false_iff_not] at c8
    have hru := c8; unfold isRunning at hru; simp only [Bool.and_eq_true, decide_eq_true_eq] at hru
    have hb1 := hru.1.2
    refine wp_skip ?_
    refine hK2 _ _ ?_
    refine wp_seq_k fun K5 hK5 => ?_
    refine wp_seq_k fun K6 hK6 => ?_
    refine wp_region_lit ?_
    refine wl hF rfl rfl rfl (r_field fo37_3 (hF.ev rfl)) ?_; clear hF a; intro a hF
    refine wl hF rfl rfl rfl (r_load1 sc35 (hF.ev rfl) (hS.box (i := 0) rfl rfl)) ?_; clear hF a; intro a hF
    refine wl hF rfl rfl rfl (r_move (hF.ev rfl)) ?_; clear hF a; intro a hF
    obtain ⟨g12, o12, m12, q12, cs12, hv12, hm12, hl12, hk12, hz12, hc12⟩ := Rd.at (r2) (a := a) (X := .tmp 11) (hF.ev rfl) (by omega) (by omega)
    have hkk12 := hk12; obtain ⟨v12_0, v12_1, v12_2, v12_3, v12_4, rfl, r12_0, r12_1, r12_2, r12_3, r12_4⟩ := hk12
    refine wl hF rfl rfl rfl (r_index sl35 ((hF.ev rfl).trans hv12) (hF.ev rfl) (by omega) (by first | omega | (simp at hm12; omega))) ?_; clear hF a; intro a hF
    refine wl hF rfl rfl rfl (r_field fo96_0 (hF.ev rfl)) ?_; clear hF a; intro a hF
    refine wl hF rfl rfl rfl (r_load1 sc3 (hF.ev rfl) (cellB hS.old (hc12 0 _ rfl))) ?_; clear hF a; intro a hF
    refine wl_nil ?_
    refine hK6 _ _ ?_
    refine wp_block ?_
    refine wp_seq_k fun K7 hK7 => ?_
    refine wp_seq_k fun K8 hK8 => ?_
    refine wp_region_lit ?_
    refine wl hF rfl rfl rfl (r_eql (hF.ev rfl) ec) ?_; clear hF a; intro a hF
    refine wl hF rfl rfl rfl (r_assign (hF.ev rfl)) ?_; clear hF a; intro a hF
    refine wl_nil ?_
    refine hK8 _ _ ?_
    revert hF; intro hF0; refine wc_fx (t := 15) hF0 rfl (fun c15 hF => ?_) (fun c15 hF => ?_)
    ·
      clear hF0; try simp only [Bool.not_eq_true', Bool.not_eq_false', Bool.or_eq_true, Bool.and_eq_true, Bool.or_eq_false_iff, Bool.and_eq_false_iff, Bool.not_eq_eq_eq_not, Bool.not_true, Bool.not_false, decide_eq_true_eq, decide_eq_false_iff_not] at c15
      refine wp_skip ?_
      refine hK7 _ _ ?_
      refine wc_true (hF.ev rfl) ?_
      refine wp_seq_k fun K9 hK9 => ?_
      refine wp_region_lit ?_
      refine wl hF rfl rfl rfl (r_assign ec) ?_; clear hF a; intro a hF
      refine wl_nil ?_
      refine hK9 _ _ ?_
      refine wp_ret ?_
      try simp only [Exit.then, Exit.inBlock, ↓reduceIte]
      refine ret1 rfl hF rfl ⟨congrArg Value.string (Eq.symm ?_), hS.old⟩
      unfold nextAccess
      first
        | exact if_neg (by rw [c8]; decide)
        | (rw [if_pos c8]; unfold accessOf
           first
           | exact if_pos (by rw [c15]; decide)
           | (rw [if_neg (by rw [c15]; decide)]; exact if_pos (by rw [c15]; decide))
           | (rw [if_neg (by rw [c24]; decide)]; exact if_pos (by rw [c24]; decide))
           | rw [if_neg (by unfold swaps; simp only [List.mem_cons, List.not_mem_nil, or_false]; omega), if_neg (by unfold stores; simp only [List.mem_cons, List.not_mem_nil, or_false]; omega)])
    ·
      clear hF0; try simp only [Bool.not_eq_true', Bool.not_eq_false', Bool.or_eq_true, Bool.and_eq_true, Bool.or_eq_false_iff, Bool.and_eq_false_iff, Bool.not_eq_eq_eq_not, Bool.not_true, Bool.not_false, decide_eq_true_eq, decide_eq_false_iff_not] at c15
      refine wp_seq_k fun K10 hK10 => ?_
      refine wp_region_lit ?_
      refine wl hF rfl rfl rfl (r_eql (hF.ev rfl) ec) ?_; clear hF a; intro a hF
      refine wl hF rfl rfl rfl (r_assign (hF.ev rfl)) ?_; clear hF a; intro a hF
      refine wl_nil ?_
      refine hK10 _ _ ?_
      revert hF; intro hF0; refine wc_fx (t := 15) hF0 rfl (fun c15 hF => ?_) (fun c15 hF => ?_)
      ·
        clear hF0; try simp only [Bool.not_eq_true', Bool.not_eq_false', Bool.or_eq_true, Bool.and_eq_true, Bool.or_eq_false_iff, Bool.and_eq_false_iff, Bool.not_eq_eq_eq_not, Bool.not_true, Bool.not_false, decide_eq_true_eq, decide_eq_false_iff_not] at c15
        refine wp_skip ?_
        refine hK7 _ _ ?_
        refine wc_true (hF.ev rfl) ?_
        refine wp_seq_k fun K11 hK11 => ?_
        refine wp_region_lit ?_
        refine wl hF rfl rfl rfl (r_assign ec) ?_; clear hF a; intro a hF
        refine wl_nil ?_
        refine hK11 _ _ ?_
        refine wp_ret ?_
        try simp only [Exit.then, Exit.inBlock, ↓reduceIte]
        refine ret1 rfl hF rfl ⟨congrArg Value.string (Eq.symm ?_), hS.old⟩
        unfold nextAccess
        first
          | exact if_neg (by rw [c8]; decide)
          | (rw [if_pos c8]; unfold accessOf
             first
             | exact if_pos (by rw [c15]; decide)
             | (rw [if_neg (by rw [c15]; decide)]; exact if_pos (by rw [c15]; decide))
             | (rw [if_neg (by rw [c24]; decide)]; exact if_pos (by rw [c24]; decide))
             | rw [if_neg (by unfold swaps; simp only [List.mem_cons, List.not_mem_nil, or_false]; omega), if_neg (by unfold stores; simp only [List.mem_cons, List.not_mem_nil, or_false]; omega)])
      ·
        clear hF0; try simp only [Bool.not_eq_true', Bool.not_eq_false', Bool.or_eq_true, Bool.and_eq_true, Bool.or_eq_false_iff, Bool.and_eq_false_iff, Bool.not_eq_eq_eq_not, Bool.not_true, Bool.not_false, decide_eq_true_eq, decide_eq_false_iff_not] at c15
        refine wp_seq_k fun K12 hK12 => ?_
        refine wp_region_lit ?_
        refine wl hF rfl rfl rfl (r_eql (hF.ev rfl) ec) ?_; clear hF a; intro a hF
        refine wl hF rfl rfl rfl (r_assign (hF.ev rfl)) ?_; clear hF a; intro a hF
        refine wl_nil ?_
        refine hK12 _ _ ?_
        revert hF; intro hF0; refine wc_fx (t := 15) hF0 rfl (fun c15 hF => ?_) (fun c15 hF => ?_)
        ·
          clear hF0; try simp only [Bool.not_eq_true', Bool.not_eq_false', Bool.or_eq_true, Bool.and_eq_true, Bool.or_eq_false_iff, Bool.and_eq_false_iff, Bool.not_eq_eq_eq_not, Bool.not_true, Bool.not_false, decide_eq_true_eq, decide_eq_false_iff_not] at c15
          refine wp_skip ?_
          refine hK7 _ _ ?_
          refine wc_true (hF.ev rfl) ?_
          refine wp_seq_k fun K13 hK13 => ?_
          refine wp_region_lit ?_
          refine wl hF rfl rfl rfl (r_assign ec) ?_; clear hF a; intro a hF
          refine wl_nil ?_
          refine hK13 _ _ ?_
          refine wp_ret ?_
          try simp only [Exit.then, Exit.inBlock, ↓reduceIte]
          refine ret1 rfl hF rfl ⟨congrArg Value.string (Eq.symm ?_), hS.old⟩
          unfold nextAccess
          first
            | exact if_neg (by rw [c8]; decide)
            | (rw [if_pos c8]; unfold accessOf
               first
               | exact if_pos (by rw [c15]; decide)
               | (rw [if_neg (by rw [c15]; decide)]; exact if_pos (by rw [c15]; decide))
               | (rw [if_neg (by rw [c24]; decide)]; exact if_pos (by rw [c24]; decide))
               | rw [if_neg (by unfold swaps; simp only [List.mem_cons, List.not_mem_nil, or_false]; omega), if_neg (by unfold stores; simp only [List.mem_cons, List.not_mem_nil, or_false]; omega)])
        ·
          clear hF0; try simp only [Bool.not_eq_true', Bool.not_eq_false', Bool.or_eq_true, Bool.and_eq_true, Bool.or_eq_false_iff, Bool.and_eq_false_iff, Bool.not_eq_eq_eq_not, Bool.not_true, Bool.not_false, decide_eq_true_eq, decide_eq_false_iff_not] at c15
          refine wp_seq_k fun K14 hK14 => ?_
          refine wp_region_lit ?_
          refine wl hF rfl rfl rfl (r_eql (hF.ev rfl) ec) ?_; clear hF a; intro a hF
          refine wl hF rfl rfl rfl (r_assign (hF.ev rfl)) ?_; clear hF a; intro a hF
          refine wl_nil ?_
          refine hK14 _ _ ?_
          revert hF; intro hF0; refine wc_fx (t := 15) hF0 rfl (fun c15 hF => ?_) (fun c15 hF => ?_)
          ·
            clear hF0; try simp only [Bool.not_eq_true', Bool.not_eq_false', Bool.or_eq_true, Bool.and_eq_true, Bool.or_eq_false_iff, Bool.and_eq_false_iff, Bool.not_eq_eq_eq_not, Bool.not_true, Bool.not_false, decide_eq_true_eq, decide_eq_false_iff_not] at c15
            refine wp_skip ?_
            refine hK7 _ _ ?_
            refine wc_true (hF.ev rfl) ?_
            refine wp_seq_k fun K15 hK15 => ?_
            refine wp_region_lit ?_
            refine wl hF rfl rfl rfl (r_assign ec) ?_; clear hF a; intro a hF
            refine wl_nil ?_
            refine hK15 _ _ ?_
            refine wp_ret ?_
            try simp only [Exit.then, Exit.inBlock, ↓reduceIte]
            refine ret1 rfl hF rfl ⟨congrArg Value.string (Eq.symm ?_), hS.old⟩
            unfold nextAccess
            first
              | exact if_neg (by rw [c8]; decide)
              | (rw [if_pos c8]; unfold accessOf
                 first
                 | exact if_pos (by rw [c15]; decide)
                 | (rw [if_neg (by rw [c15]; decide)]; exact if_pos (by rw [c15]; decide))
                 | (rw [if_neg (by rw [c24]; decide)]; exact if_pos (by rw [c24]; decide))
                 | rw [if_neg (by unfold swaps; simp only [List.mem_cons, List.not_mem_nil, or_false]; omega), if_neg (by unfold stores; simp only [List.mem_cons, List.not_mem_nil, or_false]; omega)])
          ·
            clear hF0; try simp only [Bool.not_eq_true', Bool.not_eq_false', Bool.or_eq_true, Bool.and_eq_true, Bool.or_eq_false_iff, Bool.and_eq_false_iff, Bool.not_eq_eq_eq_not, Bool.not_true, Bool.not_false, decide_eq_true_eq, decide_eq_false_iff_not] at c15
            refine wp_seq_k fun K16 hK16 => ?_
            refine wp_region_lit ?_
            refine wl hF rfl rfl rfl (r_eql (hF.ev rfl) ec) ?_; clear hF a; intro a hF
            refine wl hF rfl rfl rfl (r_assign (hF.ev rfl)) ?_; clear hF a; intro a hF
            refine wl_nil ?_
            refine hK16 _ _ ?_
            revert hF; intro hF0; refine wc_fx (t := 15) hF0 rfl (fun c15 hF => ?_) (fun c15 hF => ?_)
            ·
              clear hF0; try simp only [Bool.not_eq_true', Bool.not_eq_false', Bool.or_eq_true, Bool.and_eq_true, Bool.or_eq_false_iff, Bool.and_eq_false_iff, Bool.not_eq_eq_eq_not, Bool.not_true, Bool.not_false, decide_eq_true_eq, decide_eq_false_iff_not] at c15
              refine wp_skip ?_
              refine hK7 _ _ ?_
              refine wc_true (hF.ev rfl) ?_
              refine wp_seq_k fun K17 hK17 => ?_
              refine wp_region_lit ?_
              refine wl hF rfl rfl rfl (r_assign ec) ?_; clear hF a; intro a hF
              refine wl_nil ?_
              refine hK17 _ _ ?_
              refine wp_ret ?_
              try simp only [Exit.then, Exit.inBlock, ↓reduceIte]
              refine ret1 rfl hF rfl ⟨congrArg Value.string (Eq.symm ?_), hS.old⟩
              unfold nextAccess
              first
                | exact if_neg (by rw [c8]; decide)
                | (rw [if_pos c8]; unfold accessOf
                   first
                   | exact if_pos (by rw [c15]; decide)
                   | (rw [if_neg (by rw [c15]; decide)]; exact if_pos (by rw [c15]; decide))
                   | (rw [if_neg (by rw [c24]; decide)]; exact if_pos (by rw [c24]; decide))
                   | rw [if_neg (by unfold swaps; simp only [List.mem_cons, List.not_mem_nil, or_false]; omega), if_neg (by unfold stores; simp only [List.mem_cons, List.not_mem_nil, or_false]; omega)])
            ·
              clear hF0; try simp only [Bool.not_eq_true', Bool.not_eq_false', Bool.or_eq_true, Bool.and_eq_true, Bool.or_eq_false_iff, Bool.and_eq_false_iff, Bool.not_eq_eq_eq_not, Bool.not_true, Bool.not_false, decide_eq_true_eq, decide_eq_false_iff_not] at c15
              refine wp_seq_k fun K18 hK18 => ?_
              refine wp_region_lit ?_
              refine wl hF rfl rfl rfl (r_eql (hF.ev rfl) ec) ?_; clear hF a; intro a hF
              refine wl hF rfl rfl rfl (r_assign (hF.ev rfl)) ?_; clear hF a; intro a hF
              refine wl_nil ?_
              refine hK18 _ _ ?_
              revert hF; intro hF0; refine wc_fx (t := 15) hF0 rfl (fun c15 hF => ?_) (fun c15 hF => ?_)
              ·
                clear hF0; try simp only [Bool.not_eq_true', Bool.not_eq_false', Bool.or_eq_true, Bool.and_eq_true, Bool.or_eq_false_iff, Bool.and_eq_false_iff, Bool.not_eq_eq_eq_not, Bool.not_true, Bool.not_false, decide_eq_true_eq, decide_eq_false_iff_not] at c15
                refine wp_skip ?_
                refine hK7 _ _ ?_
                refine wc_true (hF.ev rfl) ?_
                refine wp_seq_k fun K19 hK19 => ?_
                refine wp_region_lit ?_
                refine wl hF rfl rfl rfl (r_assign ec) ?_; clear hF a; intro a hF
                refine wl_nil ?_
                refine hK19 _ _ ?_
                refine wp_ret ?_
                try simp only [Exit.then, Exit.inBlock, ↓reduceIte]
                refine ret1 rfl hF rfl ⟨congrArg Value.string (Eq.symm ?_), hS.old⟩
                unfold nextAccess
                first
                  | exact if_neg (by rw [c8]; decide)
                  | (rw [if_pos c8]; unfold accessOf
                     first
                     | exact if_pos (by rw [c15]; decide)
                     | (rw [if_neg (by rw [c15]; decide)]; exact if_pos (by rw [c15]; decide))
                     | (rw [if_neg (by rw [c24]; decide)]; exact if_pos (by rw [c24]; decide))
                     | rw [if_neg (by unfold swaps; simp only [List.mem_cons, List.not_mem_nil, or_false]; omega), if_neg (by unfold stores; simp only [List.mem_cons, List.not_mem_nil, or_false]; omega)])
              ·
                clear hF0; try simp only [Bool.not_eq_true', Bool.not_eq_false', Bool.or_eq_true, Bool.and_eq_true, Bool.or_eq_false_iff, Bool.and_eq_false_iff, Bool.not_eq_eq_eq_not, Bool.not_true, Bool.not_false, decide_eq_true_eq, decide_eq_false_iff_not] at c15
                refine wp_seq_k fun K20 hK20 => ?_
                refine wp_region_lit ?_
                refine wl hF rfl rfl rfl (r_eql (hF.ev rfl) ec) ?_; clear hF a; intro a hF
                refine wl hF rfl rfl rfl (r_assign (hF.ev rfl)) ?_; clear hF a; intro a hF
                refine wl_nil ?_
                refine hK20 _ _ ?_
                revert hF; intro hF0; refine wc_fx (t := 15) hF0 rfl (fun c15 hF => ?_) (fun c15 hF => ?_)
                ·
                  clear hF0; try simp only [Bool.not_eq_true', Bool.not_eq_false', Bool.or_eq_true, Bool.and_eq_true, Bool.or_eq_false_iff, Bool.and_eq_false_iff, Bool.not_eq_eq_eq_not, Bool.not_true, Bool.not_false, decide_eq_true_eq, decide_eq_false_iff_not] at c15
                  refine wp_skip ?_
                  refine hK7 _ _ ?_
                  refine wc_true (hF.ev rfl) ?_
                  refine wp_seq_k fun K21 hK21 => ?_
                  refine wp_region_lit ?_
                  refine wl hF rfl rfl rfl (r_assign ec) ?_; clear hF a; intro a hF
                  refine wl_nil ?_
                  refine hK21 _ _ ?_
                  refine wp_ret ?_
                  try simp only [Exit.then, Exit.inBlock, ↓reduceIte]
                  refine ret1 rfl hF rfl ⟨congrArg Value.string (Eq.symm ?_), hS.old⟩
                  unfold nextAccess
                  first
                    | exact if_neg (by rw [c8]; decide)
                    | (rw [if_pos c8]; unfold accessOf
                       first
                       | exact if_pos (by rw [c15]; decide)
                       | (rw [if_neg (by rw [c15]; decide)]; exact if_pos (by rw [c15]; decide))
                       | (rw [if_neg (by rw [c24]; decide)]; exact if_pos (by rw [c24]; decide))
                       | rw [if_neg (by unfold swaps; simp only [List.mem_cons, List.not_mem_nil, or_false]; omega), if_neg (by unfold stores; simp only [List.mem_cons, List.not_mem_nil, or_false]; omega)])
                ·
                  clear hF0; try simp only [Bool.not_eq_true', Bool.not_eq_false', Bool.or_eq_true, Bool.and_eq_true, Bool.or_eq_false_iff, Bool.and_eq_false_iff, Bool.not_eq_eq_eq_not, Bool.not_true, Bool.not_false, decide_eq_true_eq, decide_eq_false_iff_not] at c15
                  refine wp_region_lit ?_
                  refine wl hF rfl rfl rfl (r_eql (hF.ev rfl) ec) ?_; clear hF a; intro a hF
                  refine wl hF rfl rfl rfl (r_assign (hF.ev rfl)) ?_; clear hF a; intro a hF
                  refine wl_nil ?_
                  refine hK7 _ _ ?_
                  revert hF; intro hF0; refine wc_fx (t := 15) hF0 rfl (fun c15 hF => ?_) (fun c15 hF => ?_)
                  ·
                    clear hF0; try simp only [Bool.not_eq_true', Bool.not_eq_false', Bool.or_eq_true, Bool.and_eq_true, Bool.or_eq_false_iff, Bool.and_eq_false_iff, Bool.not_eq_eq_eq_not, Bool.not_true, Bool.not_false, decide_eq_true_eq, decide_eq_false_iff_not] at c15
                    refine wp_seq_k fun K22 hK22 => ?_
                    refine wp_region_lit ?_
                    refine wl hF rfl rfl rfl (r_assign ec) ?_; clear hF a; intro a hF
                    refine wl_nil ?_
                    refine hK22 _ _ ?_
                    refine wp_ret ?_
                    try simp only [Exit.then, Exit.inBlock, ↓reduceIte]
                    refine ret1 rfl hF rfl ⟨congrArg Value.string (Eq.symm ?_), hS.old⟩
                    unfold nextAccess
                    first
                      | exact if_neg (by rw [c8]; decide)
                      | (rw [if_pos c8]; unfold accessOf
                         first
                         | exact if_pos (by rw [c15]; decide)
                         | (rw [if_neg (by rw [c15]; decide)]; exact if_pos (by rw [c15]; decide))
                         | (rw [if_neg (by rw [c24]; decide)]; exact if_pos (by rw [c24]; decide))
                         | rw [if_neg (by unfold swaps; simp only [List.mem_cons, List.not_mem_nil, or_false]; omega), if_neg (by unfold stores; simp only [List.mem_cons, List.not_mem_nil, or_false]; omega)])
                  ·
                    clear hF0; try simp only [Bool.not_eq_true', Bool.not_eq_false', Bool.or_eq_true, Bool.and_eq_true, Bool.or_eq_false_iff, Bool.and_eq_false_iff, Bool.not_eq_eq_eq_not, Bool.not_true, Bool.not_false, decide_eq_true_eq, decide_eq_false_iff_not] at c15
                    refine wp_seq_k fun K23 hK23 => ?_
                    refine wp_seq_k fun K24 hK24 => ?_
                    refine wp_region_lit ?_
                    refine wl hF rfl rfl rfl (r_eql (hF.ev rfl) ec) ?_; clear hF a; intro a hF
                    refine wl hF rfl rfl rfl (r_assign (hF.ev rfl)) ?_; clear hF a; intro a hF
                    refine wl_nil ?_
                    refine hK24 _ _ ?_
                    revert hF; intro hF0; refine wc_fx (t := 24) hF0 rfl (fun c24 hF => ?_) (fun c24 hF => ?_)
                    ·
                      clear hF0; try simp only [Bool.not_eq_true', Bool.not_eq_false', Bool.or_eq_true, Bool.and_eq_true, Bool.or_eq_false_iff, Bool.and_eq_false_iff, Bool.not_eq_eq_eq_not, Bool.not_true, Bool.not_false, decide_eq_true_eq, decide_eq_false_iff_not] at c24
                      refine wp_skip ?_
                      refine hK23 _ _ ?_
                      refine wc_true (hF.ev rfl) ?_
                      refine wp_seq_k fun K25 hK25 => ?_
                      refine wp_region_lit ?_
                      refine wl hF rfl rfl rfl (r_assign ec) ?_; clear hF a; intro a hF
                      refine wl_nil ?_
                      refine hK25 _ _ ?_
                      refine wp_ret ?_
                      try simp only [Exit.then, Exit.inBlock, ↓reduceIte]
                      refine ret1 rfl hF rfl ⟨congrArg Value.string (Eq.symm ?_), hS.old⟩
                      unfold nextAccess
                      first
                        | exact if_neg (by rw [c8]; decide)
                        | (rw [if_pos c8]; unfold accessOf
                           first
                           | exact if_pos (by rw [c15]; decide)
                           | (rw [if_neg (by rw [c15]; decide)]; exact if_pos (by rw [c15]; decide))
                           | (rw [if_neg (by rw [c24]; decide)]; exact if_pos (by rw [c24]; decide))
                           | rw [if_neg (by unfold swaps; simp only [List.mem_cons, List.not_mem_nil, or_false]; omega), if_neg (by unfold stores; simp only [List.mem_cons, List.not_mem_nil, or_false]; omega)])
                    ·
                      clear hF0; try simp only [Bool.not_eq_true', Bool.not_eq_false', Bool.or_eq_true, Bool.and_eq_true, Bool.or_eq_false_iff, Bool.and_eq_false_iff, Bool.not_eq_eq_eq_not, Bool.not_true, Bool.not_false, decide_eq_true_eq, decide_eq_false_iff_not] at c24
                      refine wp_seq_k fun K26 hK26 => ?_
                      refine wp_region_lit ?_
                      refine wl hF rfl rfl rfl (r_eql (hF.ev rfl) ec) ?_; clear hF a; intro a hF
                      refine wl hF rfl rfl rfl (r_assign (hF.ev rfl)) ?_; clear hF a; intro a hF
                      refine wl_nil ?_
                      refine hK26 _ _ ?_
                      revert hF; intro hF0; refine wc_fx (t := 24) hF0 rfl (fun c24 hF => ?_) (fun c24 hF => ?_)
                      ·
                        clear hF0; try simp only [Bool.not_eq_true', Bool.not_eq_false', Bool.or_eq_true, Bool.and_eq_true, Bool.or_eq_false_iff, Bool.and_eq_false_iff, Bool.not_eq_eq_eq_not, Bool.not_true, Bool.not_false, decide_eq_true_eq, decide_eq_false_iff_not] at c24
                        refine wp_skip ?_
                        refine hK23 _ _ ?_
                        refine wc_true (hF.ev rfl) ?_
                        refine wp_seq_k fun K27 hK27 => ?_
                        refine wp_region_lit ?_
                        refine wl hF rfl rfl rfl (r_assign ec) ?_; clear hF a; intro a hF
                        refine wl_nil ?_
                        refine hK27 _ _ ?_
                        refine wp_ret ?_
                        try simp only [Exit.then, Exit.inBlock, ↓reduceIte]
                        refine ret1 rfl hF rfl ⟨congrArg Value.string (Eq.symm ?_), hS.old⟩
                        unfold nextAccess
                        first
                          | exact if_neg (by rw [c8]; decide)
                          | (rw [if_pos c8]; unfold accessOf
                             first
                             | exact if_pos (by rw [c15]; decide)
                             | (rw [if_neg (by rw [c15]; decide)]; exact if_pos (by rw [c15]; decide))
                             | (rw [if_neg (by rw [c24]; decide)]; exact if_pos (by rw [c24]; decide))
                             | rw [if_neg (by unfold swaps; simp only [List.mem_cons, List.not_mem_nil, or_false]; omega), if_neg (by unfold stores; simp only [List.mem_cons, List.not_mem_nil, or_false]; omega)])
                      ·
                        clear hF0; try simp only [Bool.not_eq_true', Bool.not_eq_false', Bool.or_eq_true, Bool.and_eq_true, Bool.or_eq_false_iff, Bool.and_eq_false_iff, Bool.not_eq_eq_eq_not, Bool.not_true, Bool.not_false, decide_eq_true_eq, decide_eq_false_iff_not] at c24
                        refine wp_seq_k fun K28 hK28 => ?_
                        refine wp_region_lit ?_
                        refine wl hF rfl rfl rfl (r_eql (hF.ev rfl) ec) ?_; clear hF a; intro a hF
                        refine wl hF rfl rfl rfl (r_assign (hF.ev rfl)) ?_; clear hF a; intro a hF
                        refine wl_nil ?_
                        refine hK28 _ _ ?_
                        revert hF; intro hF0; refine wc_fx (t := 24) hF0 rfl (fun c24 hF => ?_) (fun c24 hF => ?_)
                        ·
                          clear hF0; try simp only [Bool.not_eq_true', Bool.not_eq_false', Bool.or_eq_true, Bool.and_eq_true, Bool.or_eq_false_iff, Bool.and_eq_false_iff, Bool.not_eq_eq_eq_not, Bool.not_true, Bool.not_false, decide_eq_true_eq, decide_eq_false_iff_not] at c24
                          refine wp_skip ?_
                          refine hK23 _ _ ?_
                          refine wc_true (hF.ev rfl) ?_
                          refine wp_seq_k fun K29 hK29 => ?_
                          refine wp_region_lit ?_
                          refine wl hF rfl rfl rfl (r_assign ec) ?_; clear hF a; intro a hF
                          refine wl_nil ?_
                          refine hK29 _ _ ?_
                          refine wp_ret ?_
                          try simp only [Exit.then, Exit.inBlock, ↓reduceIte]
                          refine ret1 rfl hF rfl ⟨congrArg Value.string (Eq.symm ?_), hS.old⟩
                          unfold nextAccess
                          first
                            | exact if_neg (by rw [c8]; decide)
                            | (rw [if_pos c8]; unfold accessOf
                               first
                               | exact if_pos (by rw [c15]; decide)
                               | (rw [if_neg (by rw [c15]; decide)]; exact if_pos (by rw [c15]; decide))
                               | (rw [if_neg (by rw [c24]; decide)]; exact if_pos (by rw [c24]; decide))
                               | rw [if_neg (by unfold swaps; simp only [List.mem_cons, List.not_mem_nil, or_false]; omega), if_neg (by unfold stores; simp only [List.mem_cons, List.not_mem_nil, or_false]; omega)])
                        ·
                          clear hF0; try simp only [Bool.not_eq_true', Bool.not_eq_false', Bool.or_eq_true, Bool.and_eq_true, Bool.or_eq_false_iff, Bool.and_eq_false_iff, Bool.not_eq_eq_eq_not, Bool.not_true, Bool.not_false, decide_eq_true_eq, decide_eq_false_iff_not] at c24
                          refine wp_seq_k fun K30 hK30 => ?_
                          refine wp_region_lit ?_
                          refine wl hF rfl rfl rfl (r_eql (hF.ev rfl) ec) ?_; clear hF a; intro a hF
                          refine wl hF rfl rfl rfl (r_assign (hF.ev rfl)) ?_; clear hF a; intro a hF
                          refine wl_nil ?_
                          refine hK30 _ _ ?_
                          revert hF; intro hF0; refine wc_fx (t := 24) hF0 rfl (fun c24 hF => ?_) (fun c24 hF => ?_)
                          ·
                            clear hF0; try simp only [Bool.not_eq_true', Bool.not_eq_false', Bool.or_eq_true, Bool.and_eq_true, Bool.or_eq_false_iff, Bool.and_eq_false_iff, Bool.not_eq_eq_eq_not, Bool.not_true, Bool.not_false, decide_eq_true_eq, decide_eq_false_iff_not] at c24
                            refine wp_skip ?_
                            refine hK23 _ _ ?_
                            refine wc_true (hF.ev rfl) ?_
                            refine wp_seq_k fun K31 hK31 => ?_
                            refine wp_region_lit ?_
                            refine wl hF rfl rfl rfl (r_assign ec) ?_; clear hF a; intro a hF
                            refine wl_nil ?_
                            refine hK31 _ _ ?_
                            refine wp_ret ?_
                            try simp only [Exit.then, Exit.inBlock, ↓reduceIte]
                            refine ret1 rfl hF rfl ⟨congrArg Value.string (Eq.symm ?_), hS.old⟩
                            unfold nextAccess
                            first
                              | exact if_neg (by rw [c8]; decide)
                              | (rw [if_pos c8]; unfold accessOf
                                 first
                                 | exact if_pos (by rw [c15]; decide)
                                 | (rw [if_neg (by rw [c15]; decide)]; exact if_pos (by rw [c15]; decide))
                                 | (rw [if_neg (by rw [c24]; decide)]; exact if_pos (by rw [c24]; decide))
                                 | rw [if_neg (by unfold swaps; simp only [List.mem_cons, List.not_mem_nil, or_false]; omega), if_neg (by unfold stores; simp only [List.mem_cons, List.not_mem_nil, or_false]; omega)])
                          ·
                            clear hF0; try simp only [Bool.not_eq_true', Bool.not_eq_false', Bool.or_eq_true, Bool.and_eq_true, Bool.or_eq_false_iff, Bool.and_eq_false_iff, Bool.not_eq_eq_eq_not, Bool.not_true, Bool.not_false, decide_eq_true_eq, decide_eq_false_iff_not] at c24
                            refine wp_seq_k fun K32 hK32 => ?_
                            refine wp_region_lit ?_
                            refine wl hF rfl rfl rfl (r_eql (hF.ev rfl) ec) ?_; clear hF a; intro a hF
                            refine wl hF rfl rfl rfl (r_assign (hF.ev rfl)) ?_; clear hF a; intro a hF
                            refine wl_nil ?_
                            refine hK32 _ _ ?_
                            revert hF; intro hF0; refine wc_fx (t := 24) hF0 rfl (fun c24 hF => ?_) (fun c24 hF => ?_)
                            ·
                              clear hF0; try simp only [Bool.not_eq_true', Bool.not_eq_false', Bool.or_eq_true, Bool.and_eq_true, Bool.or_eq_false_iff, Bool.and_eq_false_iff, Bool.not_eq_eq_eq_not, Bool.not_true, Bool.not_false, decide_eq_true_eq, decide_eq_false_iff_not] at c24
                              refine wp_skip ?_
                              refine hK23 _ _ ?_
                              refine wc_true (hF.ev rfl) ?_
                              refine wp_seq_k fun K33 hK33 => ?_
                              refine wp_region_lit ?_
                              refine wl hF rfl rfl rfl (r_assign ec) ?_; clear hF a; intro a hF
                              refine wl_nil ?_
                              refine hK33 _ _ ?_
                              refine wp_ret ?_
                              try simp only [Exit.then, Exit.inBlock, ↓reduceIte]
                              refine ret1 rfl hF rfl ⟨congrArg Value.string (Eq.symm ?_), hS.old⟩
                              unfold nextAccess
                              first
                                | exact if_neg (by rw [c8]; decide)
                                | (rw [if_pos c8]; unfold accessOf
                                   first
                                   | exact if_pos (by rw [c15]; decide)
                                   | (rw [if_neg (by rw [c15]; decide)]; exact if_pos (by rw [c15]; decide))
                                   | (rw [if_neg (by rw [c24]; decide)]; exact if_pos (by rw [c24]; decide))
                                   | rw [if_neg (by unfold swaps; simp only [List.mem_cons, List.not_mem_nil, or_false]; omega), if_neg (by unfold stores; simp only [List.mem_cons, List.not_mem_nil, or_false]; omega)])
                            ·
                              clear hF0; try simp only [Bool.not_eq_true', Bool.not_eq_false', Bool.or_eq_true, Bool.and_eq_true, Bool.or_eq_false_iff, Bool.and_eq_false_iff, Bool.not_eq_eq_eq_not, Bool.not_true, Bool.not_false, decide_eq_true_eq, decide_eq_false_iff_not] at c24
                              refine wp_seq_k fun K34 hK34 => ?_
                              refine wp_region_lit ?_
                              refine wl hF rfl rfl rfl (r_eql (hF.ev rfl) ec) ?_; clear hF a; intro a hF
                              refine wl hF rfl rfl rfl (r_assign (hF.ev rfl)) ?_; clear hF a; intro a hF
                              refine wl_nil ?_
                              refine hK34 _ _ ?_
                              revert hF; intro hF0; refine wc_fx (t := 24) hF0 rfl (fun c24 hF => ?_) (fun c24 hF => ?_)
                              ·
                                clear hF0; try simp only [Bool.not_eq_true', Bool.not_eq_false', Bool.or_eq_true, Bool.and_eq_true, Bool.or_eq_false_iff, Bool.and_eq_false_iff, Bool.not_eq_eq_eq_not, Bool.not_true, Bool.not_false, decide_eq_true_eq, decide_eq_false_iff_not] at c24
                                refine wp_skip ?_
                                refine hK23 _ _ ?_
                                refine wc_true (hF.ev rfl) ?_
                                refine wp_seq_k fun K35 hK35 => ?_
                                refine wp_region_lit ?_
                                refine wl hF rfl rfl rfl (r_assign ec) ?_; clear hF a; intro a hF
                                refine wl_nil ?_
                                refine hK35 _ _ ?_
                                refine wp_ret ?_
                                try simp only [Exit.then, Exit.inBlock, ↓reduceIte]
                                refine ret1 rfl hF rfl ⟨congrArg Value.string (Eq.symm ?_), hS.old⟩
                                unfold nextAccess
                                first
                                  | exact if_neg (by rw [c8]; decide)
                                  | (rw [if_pos c8]; unfold accessOf
                                     first
                                     | exact if_pos (by rw [c15]; decide)
                                     | (rw [if_neg (by rw [c15]; decide)]; exact if_pos (by rw [c15]; decide))
                                     | (rw [if_neg (by rw [c24]; decide)]; exact if_pos (by rw [c24]; decide))
                                     | rw [if_neg (by unfold swaps; simp only [List.mem_cons, List.not_mem_nil, or_false]; omega), if_neg (by unfold stores; simp only [List.mem_cons, List.not_mem_nil, or_false]; omega)])
                              ·
                                clear hF0; try simp only [Bool.not_eq_true', Bool.not_eq_false', Bool.or_eq_true, Bool.and_eq_true, Bool.or_eq_false_iff, Bool.and_eq_false_iff, Bool.not_eq_eq_eq_not, Bool.not_true, Bool.not_false, decide_eq_true_eq, decide_eq_false_iff_not] at c24
                                refine wp_seq_k fun K36 hK36 => ?_
                                refine wp_region_lit ?_
                                refine wl hF rfl rfl rfl (r_eql (hF.ev rfl) ec) ?_; clear hF a; intro a hF
                                refine wl hF rfl rfl rfl (r_assign (hF.ev rfl)) ?_; clear hF a; intro a hF
                                refine wl_nil ?_
                                refine hK36 _ _ ?_
                                revert hF; intro hF0; refine wc_fx (t := 24) hF0 rfl (fun c24 hF => ?_) (fun c24 hF => ?_)
                                ·
                                  clear hF0; try simp only [Bool.not_eq_true', Bool.not_eq_false', Bool.or_eq_true, Bool.and_eq_true, Bool.or_eq_false_iff, Bool.and_eq_false_iff, Bool.not_eq_eq_eq_not, Bool.not_true, Bool.not_false, decide_eq_true_eq, decide_eq_false_iff_not] at c24
                                  refine wp_skip ?_
                                  refine hK23 _ _ ?_
                                  refine wc_true (hF.ev rfl) ?_
                                  refine wp_seq_k fun K37 hK37 => ?_
                                  refine wp_region_lit ?_
                                  refine wl hF rfl rfl rfl (r_assign ec) ?_; clear hF a; intro a hF
                                  refine wl_nil ?_
                                  refine hK37 _ _ ?_
                                  refine wp_ret ?_
                                  try simp only [Exit.then, Exit.inBlock, ↓reduceIte]
                                  refine ret1 rfl hF rfl ⟨congrArg Value.string (Eq.symm ?_), hS.old⟩
                                  unfold nextAccess
                                  first
                                    | exact if_neg (by rw [c8]; decide)
                                    | (rw [if_pos c8]; unfold accessOf
                                       first
                                       | exact if_pos (by rw [c15]; decide)
                                       | (rw [if_neg (by rw [c15]; decide)]; exact if_pos (by rw [c15]; decide))
                                       | (rw [if_neg (by rw [c24]; decide)]; exact if_pos (by rw [c24]; decide))
                                       | rw [if_neg (by unfold swaps; simp only [List.mem_cons, List.not_mem_nil, or_false]; omega), if_neg (by unfold stores; simp only [List.mem_cons, List.not_mem_nil, or_false]; omega)])
                                ·
                                  clear hF0; try simp only [Bool.not_eq_true', Bool.not_eq_false', Bool.or_eq_true, Bool.and_eq_true, Bool.or_eq_false_iff, Bool.and_eq_false_iff, Bool.not_eq_eq_eq_not, Bool.not_true, Bool.not_false, decide_eq_true_eq, decide_eq_false_iff_not] at c24
                                  refine wp_seq_k fun K38 hK38 => ?_
                                  refine wp_region_lit ?_
                                  refine wl hF rfl rfl rfl (r_eql (hF.ev rfl) ec) ?_; clear hF a; intro a hF
                                  refine wl hF rfl rfl rfl (r_assign (hF.ev rfl)) ?_; clear hF a; intro a hF
                                  refine wl_nil ?_
                                  refine hK38 _ _ ?_
                                  revert hF; intro hF0; refine wc_fx (t := 24) hF0 rfl (fun c24 hF => ?_) (fun c24 hF => ?_)
                                  ·
                                    clear hF0; try simp only [Bool.not_eq_true', Bool.not_eq_false', Bool.or_eq_true, Bool.and_eq_true, Bool.or_eq_false_iff, Bool.and_eq_false_iff, Bool.not_eq_eq_eq_not, Bool.not_true, Bool.not_false, decide_eq_true_eq, decide_eq_false_iff_not] at c24
                                    refine wp_skip ?_
                                    refine hK23 _ _ ?_
                                    refine wc_true (hF.ev rfl) ?_
                                    refine wp_seq_k fun K39 hK39 => ?_
                                    refine wp_region_lit ?_
                                    refine wl hF rfl rfl rfl (r_assign ec) ?_; clear hF a; intro a hF
                                    refine wl_nil ?_
                                    refine hK39 _ _ ?_
                                    refine wp_ret ?_
                                    try simp only [Exit.then, Exit.inBlock, ↓reduceIte]
                                    refine ret1 rfl hF rfl ⟨congrArg Value.string (Eq.symm ?_), hS.old⟩
                                    unfold nextAccess
                                    first
                                      | exact if_neg (by rw [c8]; decide)
                                      | (rw [if_pos c8]; unfold accessOf
                                         first
                                         | exact if_pos (by rw [c15]; decide)
                                         | (rw [if_neg (by rw [c15]; decide)]; exact if_pos (by rw [c15]; decide))
                                         | (rw [if_neg (by rw [c24]; decide)]; exact if_pos (by rw [c24]; decide))
                                         | rw [if_neg (by unfold swaps; simp only [List.mem_cons, List.not_mem_nil, or_false]; omega), if_neg (by unfold stores; simp only [List.mem_cons, List.not_mem_nil, or_false]; omega)])
                                  ·
                                    clear hF0; try simp only [Bool.not_eq_true', Bool.not_eq_false', Bool.or_eq_true, Bool.and_eq_true, Bool.or_eq_false_iff, Bool.and_eq_false_iff, Bool.not_eq_eq_eq_not, Bool.not_true, Bool.not_false, decide_eq_true_eq, decide_eq_false_iff_not] at c24
                                    refine wp_seq_k fun K40 hK40 => ?_
                                    refine wp_region_lit ?_
                                    refine wl hF rfl rfl rfl (r_eql (hF.ev rfl) ec) ?_; clear hF a; intro a hF
                                    refine wl hF rfl rfl rfl (r_assign (hF.ev rfl)) ?_; clear hF a; intro a hF
                                    refine wl_nil ?_
                                    refine hK40 _ _ ?_
                                    revert hF; intro hF0; refine wc_fx (t := 24) hF0 rfl (fun c24 hF => ?_) (fun c24 hF => ?_)
                                    ·
                                      clear hF0; try simp only [Bool.not_eq_true', Bool.not_eq_false', Bool.or_eq_true, Bool.and_eq_true, Bool.or_eq_false_iff, Bool.and_eq_false_iff, Bool.not_eq_eq_eq_not, Bool.not_true, Bool.not_false, decide_eq_true_eq, decide_eq_false_iff_not] at c24
                                      refine wp_skip ?_
                                      refine hK23 _ _ ?_
                                      refine wc_true (hF.ev rfl) ?_
                                      refine wp_seq_k fun K41 hK41 => ?_
                                      refine wp_region_lit ?_
                                      refine wl hF rfl rfl rfl (r_assign ec) ?_; clear hF a; intro a hF
                                      refine wl_nil ?_
                                      refine hK41 _ _ ?_
                                      refine wp_ret ?_
                                      try simp only [Exit.then, Exit.inBlock, ↓reduceIte]
                                      refine ret1 rfl hF rfl ⟨congrArg Value.string (Eq.symm ?_), hS.old⟩
                                      unfold nextAccess
                                      first
                                        | exact if_neg (by rw [c8]; decide)
                                        | (rw [if_pos c8]; unfold accessOf
                                           first
                                           | exact if_pos (by rw [c15]; decide)
                                           | (rw [if_neg (by rw [c15]; decide)]; exact if_pos (by rw [c15]; decide))
                                           | (rw [if_neg (by rw [c24]; decide)]; exact if_pos (by rw [c24]; decide))
                                           | rw [if_neg (by unfold swaps; simp only [List.mem_cons, List.not_mem_nil, or_false]; omega), if_neg (by unfold stores; simp only [List.mem_cons, List.not_mem_nil, or_false]; omega)])
                                    ·
                                      clear hF0; try simp only [Bool.not_eq_true', Bool.not_eq_false', Bool.or_eq_true, Bool.and_eq_true, Bool.or_eq_false_iff, Bool.and_eq_false_iff, Bool.not_eq_eq_eq_not, Bool.not_true, Bool.not_false, decide_eq_true_eq, decide_eq_false_iff_not] at c24
                                      refine wp_seq_k fun K42 hK42 => ?_
                                      refine wp_region_lit ?_
                                      refine wl hF rfl rfl rfl (r_eql (hF.ev rfl) ec) ?_; clear hF a; intro a hF
                                      refine wl hF rfl rfl rfl (r_assign (hF.ev rfl)) ?_; clear hF a; intro a hF
                                      refine wl_nil ?_
                                      refine hK42 _ _ ?_
                                      revert hF; intro hF0; refine wc_fx (t := 24) hF0 rfl (fun c24 hF => ?_) (fun c24 hF => ?_)
                                      ·
                                        clear hF0; try simp only [Bool.not_eq_true', Bool.not_eq_false', Bool.or_eq_true, Bool.and_eq_true, Bool.or_eq_false_iff, Bool.and_eq_false_iff, Bool.not_eq_eq_eq_not, Bool.not_true, Bool.not_false, decide_eq_true_eq, decide_eq_false_iff_not] at c24
                                        refine wp_skip ?_
                                        refine hK23 _ _ ?_
                                        refine wc_true (hF.ev rfl) ?_
                                        refine wp_seq_k fun K43 hK43 => ?_
                                        refine wp_region_lit ?_
                                        refine wl hF rfl rfl rfl (r_assign ec) ?_; clear hF a; intro a hF
                                        refine wl_nil ?_
                                        refine hK43 _ _ ?_
                                        refine wp_ret ?_
                                        try simp only [Exit.then, Exit.inBlock, ↓reduceIte]
                                        refine ret1 rfl hF rfl ⟨congrArg Value.string (Eq.symm ?_), hS.old⟩
                                        unfold nextAccess
                                        first
                                          | exact if_neg (by rw [c8]; decide)
                                          | (rw [if_pos c8]; unfold accessOf
                                             first
                                             | exact if_pos (by rw [c15]; decide)
                                             | (rw [if_neg (by rw [c15]; decide)]; exact if_pos (by rw [c15]; decide))
                                             | (rw [if_neg (by rw [c24]; decide)]; exact if_pos (by rw [c24]; decide))
                                             | rw [if_neg (by unfold swaps; simp only [List.mem_cons, List.not_mem_nil, or_false]; omega), if_neg (by unfold stores; simp only [List.mem_cons, List.not_mem_nil, or_false]; omega)])
                                      ·
                                        clear hF0; try simp only [Bool.not_eq_true', Bool.not_eq_false', Bool.or_eq_true, Bool.and_eq_true, Bool.or_eq_false_iff, Bool.and_eq_false_iff, Bool.not_eq_eq_eq_not, Bool.not_true, Bool.not_false, decide_eq_true_eq, decide_eq_false_iff_not] at c24
                                        refine wp_seq_k fun K44 hK44 => ?_
                                        refine wp_region_lit ?_
                                        refine wl hF rfl rfl rfl (r_eql (hF.ev rfl) ec) ?_; clear hF a; intro a hF
                                        refine wl hF rfl rfl rfl (r_assign (hF.ev rfl)) ?_; clear hF a; intro a hF
                                        refine wl_nil ?_
                                        refine hK44 _ _ ?_
                                        revert hF; intro hF0; refine wc_fx (t := 24) hF0 rfl (fun c24 hF => ?_) (fun c24 hF => ?_)
                                        ·
                                          clear hF0; try simp only [Bool.not_eq_true', Bool.not_eq_false', Bool.or_eq_true, Bool.and_eq_true, Bool.or_eq_false_iff, Bool.and_eq_false_iff, Bool.not_eq_eq_eq_not, Bool.not_true, Bool.not_false, decide_eq_true_eq, decide_eq_false_iff_not] at c24
                                          refine wp_skip ?_
                                          refine hK23 _ _ ?_
                                          refine wc_true (hF.ev rfl) ?_
                                          refine wp_seq_k fun K45 hK45 => ?_
                                          refine wp_region_lit ?_
                                          refine wl hF rfl rfl rfl (r_assign ec) ?_; clear hF a; intro a hF
                                          refine wl_nil ?_
                                          refine hK45 _ _ ?_
                                          refine wp_ret ?_
                                          try simp only [Exit.then, Exit.inBlock, ↓reduceIte]
                                          refine ret1 rfl hF rfl ⟨congrArg Value.string (Eq.symm ?_), hS.old⟩
                                          unfold nextAccess
                                          first
                                            | exact if_neg (by rw [c8]; decide)
                                            | (rw [if_pos c8]; unfold accessOf
                                               first
                                               | exact if_pos (by rw [c15]; decide)
                                               | (rw [if_neg (by rw [c15]; decide)]; exact if_pos (by rw [c15]; decide))
                                               | (rw [if_neg (by rw [c24]; decide)]; exact if_pos (by rw [c24]; decide))
                                               | rw [if_neg (by unfold swaps; simp only [List.mem_cons, List.not_mem_nil, or_false]; omega), if_neg (by unfold stores; simp only [List.mem_cons, List.not_mem_nil, or_false]; omega)])
                                        ·
                                          clear hF0; try simp only [Bool.not_eq_true', Bool.not_eq_false', Bool.or_eq_true, Bool.and_eq_true, Bool.or_eq_false_iff, Bool.and_eq_false_iff, Bool.not_eq_eq_eq_not, Bool.not_true, Bool.not_false, decide_eq_true_eq, decide_eq_false_iff_not] at c24
                                          refine wp_seq_k fun K46 hK46 => ?_
                                          refine wp_region_lit ?_
                                          refine wl hF rfl rfl rfl (r_eql (hF.ev rfl) ec) ?_; clear hF a; intro a hF
                                          refine wl hF rfl rfl rfl (r_assign (hF.ev rfl)) ?_; clear hF a; intro a hF
                                          refine wl_nil ?_
                                          refine hK46 _ _ ?_
                                          revert hF; intro hF0; refine wc_fx (t := 24) hF0 rfl (fun c24 hF => ?_) (fun c24 hF => ?_)
                                          ·
                                            clear hF0; try simp only [Bool.not_eq_true', Bool.not_eq_false', Bool.or_eq_true, Bool.and_eq_true, Bool.or_eq_false_iff, Bool.and_eq_false_iff, Bool.not_eq_eq_eq_not, Bool.not_true, Bool.not_false, decide_eq_true_eq, decide_eq_false_iff_not] at c24
                                            refine wp_skip ?_
                                            refine hK23 _ _ ?_
                                            refine wc_true (hF.ev rfl) ?_
                                            refine wp_seq_k fun K47 hK47 => ?_
                                            refine wp_region_lit ?_
                                            refine wl hF rfl rfl rfl (r_assign ec) ?_; clear hF a; intro a hF
                                            refine wl_nil ?_
                                            refine hK47 _ _ ?_
                                            refine wp_ret ?_
                                            try simp only [Exit.then, Exit.inBlock, ↓reduceIte]
                                            refine ret1 rfl hF rfl ⟨congrArg Value.string (Eq.symm ?_), hS.old⟩
                                            unfold nextAccess
                                            first
                                              | exact if_neg (by rw [c8]; decide)
                                              | (rw [if_pos c8]; unfold accessOf
                                                 first
                                                 | exact if_pos (by rw [c15]; decide)
                                                 | (rw [if_neg (by rw [c15]; decide)]; exact if_pos (by rw [c15]; decide))
                                                 | (rw [if_neg (by rw [c24]; decide)]; exact if_pos (by rw [c24]; decide))
                                                 | rw [if_neg (by unfold swaps; simp only [List.mem_cons, List.not_mem_nil, or_false]; omega), if_neg (by unfold stores; simp only [List.mem_cons, List.not_mem_nil, or_false]; omega)])
                                          ·
                                            clear hF0; try simp only [Bool.not_eq_true', Bool.not_eq_false', Bool.or_eq_true, Bool.and_eq_true, Bool.or_eq_false_iff, Bool.and_eq_false_iff, Bool.not_eq_eq_eq_not, Bool.not_true, Bool.not_false, decide_eq_true_eq, decide_eq_false_iff_not] at c24
                                            refine wp_seq_k fun K48 hK48 => ?_
                                            refine wp_region_lit ?_
                                            refine wl hF rfl rfl rfl (r_eql (hF.ev rfl) ec) ?_; clear hF a; intro a hF
                                            refine wl hF rfl rfl rfl (r_assign (hF.ev rfl)) ?_; clear hF a; intro a hF
                                            refine wl_nil ?_
                                            refine hK48 _ _ ?_
                                            revert hF; intro hF0; refine wc_fx (t := 24) hF0 rfl (fun c24 hF => ?_) (fun c24 hF => ?_)
                                            ·
                                              clear hF0; try simp only [Bool.not_eq_true', Bool.not_eq_false', Bool.or_eq_true, Bool.and_eq_true, Bool.or_eq_false_iff, Bool.and_eq_false_iff, Bool.not_eq_eq_eq_not, Bool.not_true, Bool.not_false, decide_eq_true_eq, decide_eq_false_iff_not] at c24
                                              refine wp_skip ?_
                                              refine hK23 _ _ ?_
                                              refine wc_true (hF.ev rfl) ?_
                                              refine wp_seq_k fun K49 hK49 => ?_
                                              refine wp_region_lit ?_
                                              refine wl hF rfl rfl rfl (r_assign ec) ?_; clear hF a; intro a hF
                                              refine wl_nil ?_
                                              refine hK49 _ _ ?_
                                              refine wp_ret ?_
                                              try simp only [Exit.then, Exit.inBlock, ↓reduceIte]
                                              refine ret1 rfl hF rfl ⟨congrArg Value.string (Eq.symm ?_), hS.old⟩
                                              unfold nextAccess
                                              first
                                                | exact if_neg (by rw [c8]; decide)
                                                | (rw [if_pos c8]; unfold accessOf
                                                   first
                                                   | exact if_pos (by rw [c15]; decide)
                                                   | (rw [if_neg (by rw [c15]; decide)]; exact if_pos (by rw [c15]; decide))
                                                   | (rw [if_neg (by rw [c24]; decide)]; exact if_pos (by rw [c24]; decide))
                                                   | rw [if_neg (by unfold swaps; simp only [List.mem_cons, List.not_mem_nil, or_false]; omega), if_neg (by unfold stores; simp only [List.mem_cons, List.not_mem_nil, or_false]; omega)])
                                            ·
                                              clear hF0; try simp only [Bool.not_eq_true', Bool.not_eq_false', Bool.or_eq_true, Bool.and_eq_true, Bool.or_eq_false_iff, Bool.and_eq_false_iff, Bool.not_eq_eq_eq_not, Bool.not_true, Bool.not_false, decide_eq_true_eq, decide_eq_false_iff_not] at c24
                                              refine wp_seq_k fun K50 hK50 => ?_
                                              refine wp_region_lit ?_
                                              refine wl hF rfl rfl rfl (r_eql (hF.ev rfl) ec) ?_; clear hF a; intro a hF
                                              refine wl hF rfl rfl rfl (r_assign (hF.ev rfl)) ?_; clear hF a; intro a hF
                                              refine wl_nil ?_
                                              refine hK50 _ _ ?_
                                              revert hF; intro hF0; refine wc_fx (t := 24) hF0 rfl (fun c24 hF => ?_) (fun c24 hF => ?_)
                                              ·
                                                clear hF0; try simp only [Bool.not_eq_true', Bool.not_eq_false', Bool.or_eq_true, Bool.and_eq_true, Bool.or_eq_false_iff, Bool.and_eq_false_iff, Bool.not_eq_eq_eq_not, Bool.not_true, Bool.not_false, decide_eq_true_eq, decide_eq_false_iff_not] at c24
                                                refine wp_skip ?_
                                                refine hK23 _ _ ?_
                                                refine wc_true (hF.ev rfl) ?_
                                                refine wp_seq_k fun K51 hK51 => ?_
                                                refine wp_region_lit ?_
                                                refine wl hF rfl rfl rfl (r_assign ec) ?_; clear hF a; intro a hF
                                                refine wl_nil ?_
                                                refine hK51 _ _ ?_
                                                refine wp_ret ?_
                                                try simp only [Exit.then, Exit.inBlock, ↓reduceIte]
                                                refine ret1 rfl hF rfl ⟨congrArg Value.string (Eq.symm ?_), hS.old⟩
                                                unfold nextAccess
                                                first
                                                  | exact if_neg (by rw [c8]; decide)
                                                  | (rw [if_pos c8]; unfold accessOf
                                                     first
                                                     | exact if_pos (by rw [c15]; decide)
                                                     | (rw [if_neg (by rw [c15]; decide)]; exact if_pos (by rw [c15]; decide))
                                                     | (rw [if_neg (by rw [c24]; decide)]; exact if_pos (by rw [c24]; decide))
                                                     | rw [if_neg (by unfold swaps; simp only [List.mem_cons, List.not_mem_nil, or_false]; omega), if_neg (by unfold stores; simp only [List.mem_cons, List.not_mem_nil, or_false]; omega)])
                                              ·
                                                clear hF0; try simp only [Bool.not_eq_true', Bool.not_eq_false', Bool.or_eq_true, Bool.and_eq_true, Bool.or_eq_false_iff, Bool.and_eq_false_iff, Bool.not_eq_eq_eq_not, Bool.not_true, Bool.not_false, decide_eq_true_eq, decide_eq_false_iff_not] at c24
                                                refine wp_seq_k fun K52 hK52 => ?_
                                                refine wp_region_lit ?_
                                                refine wl hF rfl rfl rfl (r_eql (hF.ev rfl) ec) ?_; clear hF a; intro a hF
                                                refine wl hF rfl rfl rfl (r_assign (hF.ev rfl)) ?_; clear hF a; intro a hF
                                                refine wl_nil ?_
                                                refine hK52 _ _ ?_
                                                revert hF; intro hF0; refine wc_fx (t := 24) hF0 rfl (fun c24 hF => ?_) (fun c24 hF => ?_)
                                                ·
                                                  clear hF0; try simp only [Bool.not_eq_true', Bool.not_eq_false', Bool.or_eq_true, Bool.and_eq_true, Bool.or_eq_false_iff, Bool.and_eq_false_iff, Bool.not_eq_eq_eq_not, Bool.not_true, Bool.not_false, decide_eq_true_eq, decide_eq_false_iff_not] at c24
                                                  refine wp_skip ?_
                                                  refine hK23 _ _ ?_
                                                  refine wc_true (hF.ev rfl) ?_
                                                  refine wp_seq_k fun K53 hK53 => ?_
                                                  refine wp_region_lit ?_
                                                  refine wl hF rfl rfl rfl (r_assign ec) ?_; clear hF a; intro a hF
                                                  refine wl_nil ?_
                                                  refine hK53 _ _ ?_
                                                  refine wp_ret ?_
                                                  try simp only [Exit.then, Exit.inBlock, ↓reduceIte]
                                                  refine ret1 rfl hF rfl ⟨congrArg Value.string (Eq.symm ?_), hS.old⟩
                                                  unfold nextAccess
                                                  first
                                                    | exact if_neg (by rw [c8]; decide)
                                                    | (rw [if_pos c8]; unfold accessOf
                                                       first
                                                       | exact if_pos (by rw [c15]; decide)
                                                       | (rw [if_neg (by rw [c15]; decide)]; exact if_pos (by rw [c15]; decide))
                                                       | (rw [if_neg (by rw [c24]; decide)]; exact if_pos (by rw [c24]; decide))
                                                       | rw [if_neg (by unfold swaps; simp only [List.mem_cons, List.not_mem_nil, or_false]; omega), if_neg (by unfold stores; simp only [List.mem_cons, List.not_mem_nil, or_false]; omega)])
                                                ·
                                                  clear hF0; try simp only [Bool.not_eq_true', Bool.not_eq_false', Bool.or_eq_true, Bool.and_eq_true, Bool.or_eq_false_iff, Bool.and_eq_false_iff, Bool.not_eq_eq_eq_not, Bool.not_true, Bool.not_false, decide_eq_true_eq, decide_eq_false_iff_not] at c24
                                                  refine wp_region_lit ?_
                                                  refine wl hF rfl rfl rfl (r_eql (hF.ev rfl) ec) ?_; clear hF a; intro a hF
                                                  refine wl hF rfl rfl rfl (r_assign (hF.ev rfl)) ?_; clear hF a; intro a hF
                                                  refine wl_nil ?_
                                                  refine hK23 _ _ ?_
                                                  revert hF; intro hF0; refine wc_fx (t := 24) hF0 rfl (fun c24 hF => ?_) (fun c24 hF => ?_)
                                                  ·
                                                    clear hF0; try simp only [Bool.not_eq_true', Bool.not_eq_false', Bool.or_eq_true, Bool.and_eq_true, Bool.or_eq_false_iff, Bool.and_eq_false_iff, Bool.not_eq_eq_eq_not, Bool.not_true, Bool.not_false, decide_eq_true_eq, decide_eq_false_iff_not] at c24
                                                    refine wp_seq_k fun K54 hK54 => ?_
                                                    refine wp_region_lit ?_
                                                    refine wl hF rfl rfl rfl (r_assign ec) ?_; clear hF a; intro a hF
                                                    refine wl_nil ?_
                                                    refine hK54 _ _ ?_
                                                    refine wp_ret ?_
                                                    try simp only [Exit.then, Exit.inBlock, ↓reduceIte]
                                                    refine ret1 rfl hF rfl ⟨congrArg Value.string (Eq.symm ?_), hS.old⟩
                                                    unfold nextAccess
                                                    first
                                                      | exact if_neg (by rw [c8]; decide)
                                                      | (rw [if_pos c8]; unfold accessOf
                                                         first
                                                         | exact if_pos (by rw [c15]; decide)
                                                         | (rw [if_neg (by rw [c15]; decide)]; exact if_pos (by rw [c15]; decide))
                                                         | (rw [if_neg (by rw [c24]; decide)]; exact if_pos (by rw [c24]; decide))
                                                         | rw [if_neg (by unfold swaps; simp only [List.mem_cons, List.not_mem_nil, or_false]; omega), if_neg (by unfold stores; simp only [List.mem_cons, List.not_mem_nil, or_false]; omega)])
                                                  ·
                                                    clear hF0; try simp only [Bool.not_eq_true', Bool.not_eq_false', Bool.or_eq_true, Bool.and_eq_true, Bool.or_eq_false_iff, Bool.and_eq_false_iff, Bool.not_eq_eq_eq_not, Bool.not_true, Bool.not_false, decide_eq_true_eq, decide_eq_false_iff_not] at c24
                                                    refine wp_skip ?_
                                                    simp only [Exit.then, Exit.inBlock, ↓reduceIte]
                                                    refine hK5 _ _ ?_
                                                    refine wp_seq_k fun K55 hK55 => ?_
                                                    refine wp_region_lit ?_
                                                    refine wl hF rfl rfl rfl (r_assign ec) ?_; clear hF a; intro a hF
                                                    refine wl_nil ?_
                                                    refine hK55 _ _ ?_
                                                    refine wp_ret ?_
                                                    try simp only [Exit.then, Exit.inBlock, ↓reduceIte]
                                                    refine ret1 rfl hF rfl ⟨congrArg Value.string (Eq.symm ?_), hS.old⟩
                                                    unfold nextAccess
                                                    first
                                                      | exact if_neg (by rw [c8]; decide)
                                                      | (rw [if_pos c8]; unfold accessOf
                                                         first
                                                         | exact if_pos (by rw [c15]; decide)
                                                         | (rw [if_neg (by rw [c15]; decide)]; exact if_pos (by rw [c15]; decide))
                                                         | (rw [if_neg (by rw [c24]; decide)]; exact if_pos (by rw [c24]; decide))
                                                         | rw [if_neg (by unfold swaps; simp only [List.mem_cons, List.not_mem_nil, or_false]; omega), if_neg (by unfold stores; simp only [List.mem_cons, List.not_mem_nil, or_false]; omega)])

set_option maxHeartbeats 4000000 in
set_option maxRecDepth 20000 in
theorem implNextAccess_c {W : World} {s : Sl.State} {cs : List Value} (hm : stateEK.K W s cs) (hw : s.wf) (hz : (s.size : Int) ≤ 1048576) {p : Int} (hp : int64 p) : Calls Try.prog 50 #[.agg cs.toArray, vi p] W (Ret fun v w' => v = .string (nextAccess s p) ∧ Below W.heap.size W w') := by
  refine calls_fr Try.func50 rfl Try.ntmps50 rfl ?_
  intro a hF
  have hS := Sep.refl W
  obtain ⟨v0, v1, v2, rfl, r0, r1, r2⟩ := hm
  have hm : stateEK.K W s (s.encv v0 v1 v2) := ⟨_, _, _, rfl, r0, r1, r2⟩
  obtain ⟨A_a, q_a, rfl, hq_a, hn_a⟩ := r0.sl; unfold maxLen at hn_a
  obtain ⟨A_b, q_b, rfl, hq_b, hn_b⟩ := r1.sl; unfold maxLen at hn_b
  obtain ⟨A_c, q_c, rfl, hq_c, hn_c⟩ := r2.sl; unfold maxLen at hn_c
  have hwl : IntKind.i64.wrap ((s.threads.length : Int) - 1) = s.threads.length - 1 := w64_id (by omega) (by omega)
  refine wp_seq_k fun K1 hK1 => ?_
  refine wp_region_lit ?_
  refine wl_box (cs := [_, _, _, _, _, _, _, _, _, _, _, _, _]) hF hS rfl (hF.ev rfl) rfl ?_; clear hF a; intro g1 w1 a hS_ hB_ hF; replace hS := hS_; clear hS_ hB_
  refine wl hF rfl rfl rfl (r_assign ec) ?_; clear hF a; intro a hF
  refine wl_nil ?_
  refine hK1 _ _ ?_
  refine wp_seq_k fun K2 hK2 => ?_
  refine wp_seq_k fun K3 hK3 => ?_
  refine wp_region_lit ?_
  refine wl hF rfl rfl rfl (r_loadn ag37 (hF.ev rfl) (hS.box_rd (i := 0) rfl) sz37) ?_; clear hF a; intro a hF
  refine wl hF rfl rfl rfl (r_move (hF.ev rfl)) ?_; clear hF a; intro a hF
  refine wl_call hF rfl rfl rfl (r_call2 en33 (hF.ev rfl) (hF.ev rfl)) (implIsRunning_c (hS.k hm) hw (by omega) hp) ?_; clear hF a; rintro v w2 a ⟨rfl, hB_⟩ hF; replace hS := hS.ext hB_; clear hB_
  refine wl hF rfl rfl rfl (r_not (hF.ev rfl)) ?_; clear hF a; intro a hF
  refine wl_nil ?_
  refine hK3 _ _ ?_
  revert hF; intro hF0; refine wc_fx (t := 8) hF0 rfl (fun c8 hF => ?_) (fun c8 hF => ?_)
  ·
    clear hF0; try simp only [Bool.not_eq_true', Bool.not_eq_false', Bool.or_eq_true, Bool.and_eq_true, Bool.or_eq_false_iff, Bool.and_eq_false_iff, Bool.not_eq_eq_eq_not, Bool.not_true, Bool.not_false, decide_eq_true_eq, decide_eq_false_iff_not] at c8
    refine wp_seq_k fun K4 hK4 => ?_
    refine wp_region_lit ?_
    refine wl hF rfl rfl rfl (r_assign ec) ?_; clear hF a; intro a hF
    refine wl_nil ?_
    refine hK4 _ _ ?_
    refine wp_ret ?_
    try simp only [Exit.then, Exit.inBlock, ↓reduceIte]
    refine ret1 rfl hF rfl ⟨congrArg Value.string (Eq.symm ?_), hS.old⟩
    unfold nextAccess
    first
      | exact if_neg (by rw [c8]; decide)
      | (rw [if_pos c8]; unfold accessOf
         first
         | exact if_pos (by rw [c15]; decide)
         | (rw [if_neg (by rw [c15]; decide)]; exact if_pos (by rw [c15]; decide))
         | (rw [if_neg (by rw [c24]; decide)]; exact if_pos (by rw [c24]; decide))
         | rw [if_neg (by unfold swaps; simp only [List.mem_cons, List.not_mem_nil, or_false]; omega), if_neg (by unfold stores; simp only [List.mem_cons, List.not_mem_nil, or_false]; omega)])
  ·
    clear hF0; try simp only [Bool.not_eq_true', Bool.not_eq_false', Bool.or_eq_true, Bool.and_eq_true, Bool.or_eq_false_iff, Bool.and_eq_false_iff, Bool.not_eq_eq_eq_not, Bool.not_true, Bool.not_false, decide_eq_true_eq, decide_eq_false_iff_not] at c8
    have hru := c8; unfold isRunning at hru; simp only [Bool.and_eq_true, decide_eq_true_eq] at hru
    have hb1 := hru.1.2
    refine wp_skip ?_
    refine hK2 _ _ ?_
    refine wp_seq_k fun K5 hK5 => ?_
    refine wp_seq_k fun K6 hK6 => ?_
    refine wp_region_lit ?_
    refine wl hF rfl rfl rfl (r_field fo37_3 (hF.ev rfl)) ?_; clear hF a; intro a hF
    refine wl hF rfl rfl rfl (r_load1 sc35 (hF.ev rfl) (hS.box (i := 0) rfl rfl)) ?_; clear hF a; intro a hF
    refine wl hF rfl rfl rfl (r_move (hF.ev rfl)) ?_; clear hF a; intro a hF
    obtain ⟨g12, o12, m12, q12, cs12, hv12, hm12, hl12, hk12, hz12, hc12⟩ := Rd.at (r2) (a := a) (X := .tmp 11) (hF.ev rfl) (by omega) (by omega)
    have hkk12 := hk12; obtain ⟨v12_0, v12_1, v12_2, v12_3, v12_4, rfl, r12_0, r12_1, r12_2, r12_3, r12_4⟩ := hk12
    refine wl hF rfl rfl rfl (r_index sl35 ((hF.ev rfl).trans hv12) (hF.ev rfl) (by omega) (by first | omega | (simp at hm12; omega))) ?_; clear hF a; intro a hF
    refine wl hF rfl rfl rfl (r_field fo96_0 (hF.ev rfl)) ?_; clear hF a; intro a hF
    refine wl hF rfl rfl rfl (r_load1 sc3 (hF.ev rfl) (cellB hS.old (hc12 0 _ rfl))) ?_; clear hF a; intro a hF
    refine wl_nil ?_
    refine hK6 _ _ ?_
    refine wp_block ?_
    refine wp_seq_k fun K7 hK7 => ?_
    refine wp_seq_k fun K8 hK8 => ?_
    refine wp_region_lit ?_
    refine wl hF rfl rfl rfl (r_eql (hF.ev rfl) ec) ?_; clear hF a; intro a hF
    refine wl hF rfl rfl rfl (r_assign (hF.ev rfl)) ?_; clear hF a; intro a hF
    refine wl_nil ?_
    refine hK8 _ _ ?_
    revert hF; intro hF0; refine wc_fx (t := 15) hF0 rfl (fun c15 hF => ?_) (fun c15 hF => ?_)
    ·
      clear hF0; try simp only [Bool.not_eq_true', Bool.not_eq_false', Bool.or_eq_true, Bool.and_eq_true, Bool.or_eq_false_iff, Bool.and_eq_false_iff, Bool.not_eq_eq_eq_not, Bool.not_true, Bool.not_false, decide_eq_true_eq, decide_eq_false_iff_not] at c15
      refine wp_skip ?_
      refine hK7 _ _ ?_
      refine wc_true (hF.ev rfl) ?_
      refine wp_seq_k fun K9 hK9 => ?_
      refine wp_region_lit ?_
      refine wl hF rfl rfl rfl (r_assign ec) ?_; clear hF a; intro a hF
      refine wl_nil ?_
      refine hK9 _ _ ?_
      refine wp_ret ?_
      try simp only [Exit.then, Exit.inBlock, ↓reduceIte]
      refine ret1 rfl hF rfl ⟨congrArg Value.string (Eq.symm ?_), hS.old⟩
      unfold nextAccess
      first
        | exact if_neg (by rw [c8]; decide)
        | (rw [if_pos c8]; unfold accessOf
           first
           | exact if_pos (by rw [c15]; decide)
           | (rw [if_neg (by rw [c15]; decide)]; exact if_pos (by rw [c15]; decide))
           | (rw [if_neg (by rw [c24]; decide)]; exact if_pos (by rw [c24]; decide))
           | rw [if_neg (by unfold swaps; simp only [List.mem_cons, List.not_mem_nil, or_false]; omega), if_neg (by unfold stores; simp only [List.mem_cons, List.not_mem_nil, or_false]; omega)])
    ·
      clear hF0; try simp only [Bool.not_eq_true', Bool.not_eq_false', Bool.or_eq_true, Bool.and_eq_true, Bool.or_eq_false_iff, Bool.and_eq_false_iff, Bool.not_eq_eq_eq_not, Bool.not_true, Bool.not_false, decide_eq_true_eq, decide_eq_false_iff_not] at c15
      refine wp_seq_k fun K10 hK10 => ?_
      refine wp_region_lit ?_
      refine wl hF rfl rfl rfl (r_eql (hF.ev rfl) ec) ?_; clear hF a; intro a hF
      refine wl hF rfl rfl rfl (r_assign (hF.ev rfl)) ?_; clear hF a; intro a hF
      refine wl_nil ?_
      refine hK10 _ _ ?_
      revert hF; intro hF0; refine wc_fx (t := 15) hF0 rfl (fun c15 hF => ?_) (fun c15 hF => ?_)
      ·
        clear hF0; try simp only [Bool.not_eq_true', Bool.not_eq_false', Bool.or_eq_true, Bool.and_eq_true, Bool.or_eq_false_iff, Bool.and_eq_false_iff, Bool.not_eq_eq_eq_not, Bool.not_true, Bool.not_false, decide_eq_true_eq, decide_eq_false_iff_not] at c15
        refine wp_skip ?_
        refine hK7 _ _ ?_
        refine wc_true (hF.ev rfl) ?_
        refine wp_seq_k fun K11 hK11 => ?_
        refine wp_region_lit ?_
        refine wl hF rfl rfl rfl (r_assign ec) ?_; clear hF a; intro a hF
        refine wl_nil ?_
        refine hK11 _ _ ?_
        refine wp_ret ?_
        try simp only [Exit.then, Exit.inBlock, ↓reduceIte]
        refine ret1 rfl hF rfl ⟨congrArg Value.string (Eq.symm ?_), hS.old⟩
        unfold nextAccess
        first
          | exact if_neg (by rw [c8]; decide)
          | (rw [if_pos c8]; unfold accessOf
             first
             | exact if_pos (by rw [c15]; decide)
             | (rw [if_neg (by rw [c15]; decide)]; exact if_pos (by rw [c15]; decide))
             | (rw [if_neg (by rw [c24]; decide)]; exact if_pos (by rw [c24]; decide))
             | rw [if_neg (by unfold swaps; simp only [List.mem_cons, List.not_mem_nil, or_false]; omega), if_neg (by unfold stores; simp only [List.mem_cons, List.not_mem_nil, or_false]; omega)])
      ·
        clear hF0; try simp only [Bool.not_eq_true', Bool.not_eq_false', Bool.or_eq_true, Bool.and_eq_true, Bool.or_eq_false_iff, Bool.and_eq_false_iff, Bool.not_eq_eq_eq_not, Bool.not_true, Bool.not_false, decide_eq_true_eq, decide_eq_false_iff_not] at c15
        refine wp_seq_k fun K12 hK12 => ?_
        refine wp_region_lit ?_
        refine wl hF rfl rfl rfl (r_eql (hF.ev rfl) ec) ?_; clear hF a; intro a hF
        refine wl hF rfl rfl rfl (r_assign (hF.ev rfl)) ?_; clear hF a; intro a hF
        refine wl_nil ?_
        refine hK12 _ _ ?_
        revert hF; intro hF0; refine wc_fx (t := 15) hF0 rfl (fun c15 hF => ?_) (fun c15 hF => ?_)
        ·
          clear hF0; try simp only [Bool.not_eq_true', Bool.not_eq_false', Bool.or_eq_true, Bool.and_eq_true, Bool.or_eq_false_iff, Bool.and_eq_false_iff, Bool.not_eq_eq_eq_not, Bool.not_true, Bool.not_false, decide_eq_true_eq, decide_eq_false_iff_not] at c15
          refine wp_skip ?_
          refine hK7 _ _ ?_
          refine wc_true (hF.ev rfl) ?_
          refine wp_seq_k fun K13 hK13 => ?_
          refine wp_region_lit ?_
          refine wl hF rfl rfl rfl (r_assign ec) ?_; clear hF a; intro a hF
          refine wl_nil ?_
          refine hK13 _ _ ?_
          refine wp_ret ?_
          try simp only [Exit.then, Exit.inBlock, ↓reduceIte]
          refine ret1 rfl hF rfl ⟨congrArg Value.string (Eq.symm ?_), hS.old⟩
          unfold nextAccess
          first
            | exact if_neg (by rw [c8]; decide)
            | (rw [if_pos c8]; unfold accessOf
               first
               | exact if_pos (by rw [c15]; decide)
               | (rw [if_neg (by rw [c15]; decide)]; exact if_pos (by rw [c15]; decide))
               | (rw [if_neg (by rw [c24]; decide)]; exact if_pos (by rw [c24]; decide))
               | rw [if_neg (by unfold swaps; simp only [List.mem_cons, List.not_mem_nil, or_false]; omega), if_neg (by unfold stores; simp only [List.mem_cons, List.not_mem_nil, or_false]; omega)])
        ·
          clear hF0; try simp only [Bool.not_eq_true', Bool.not_eq_false', Bool.or_eq_true, Bool.and_eq_true, Bool.or_eq_false_iff, Bool.and_eq_false_iff, Bool.not_eq_eq_eq_not, Bool.not_true, Bool.not_false, decide_eq_true_eq, decide_eq_false_iff_not] at c15
          refine wp_seq_k fun K14 hK14 => ?_
          refine wp_region_lit ?_
          refine wl hF rfl rfl rfl (r_eql (hF.ev rfl) ec) ?_; clear hF a; intro a hF
          refine wl hF rfl rfl rfl (r_assign (hF.ev rfl)) ?_; clear hF a; intro a hF
          refine wl_nil ?_
          refine hK14 _ _ ?_
          revert hF; intro hF0; refine wc_fx (t := 15) hF0 rfl (fun c15 hF => ?_) (fun c15 hF => ?_)
          ·
            clear hF0; try simp only [Bool.not_eq_true', Bool.not_eq_false', Bool.or_eq_true, Bool.and_eq_true, Bool.or_eq_false_iff, Bool.and_eq_false_iff, Bool.not_eq_eq_eq_not, Bool.not_true, Bool.not_false, decide_eq_true_eq, decide_eq_false_iff_not] at c15
            refine wp_skip ?_
            refine hK7 _ _ ?_
            refine wc_true (hF.ev rfl) ?_
            refine wp_seq_k fun K15 hK15 => ?_
            refine wp_region_lit ?_
            refine wl hF rfl rfl rfl (r_assign ec) ?_; clear hF a; intro a hF
            refine wl_nil ?_
            refine hK15 _ _ ?_
            refine wp_ret ?_
            try simp only [Exit.then, Exit.inBlock, ↓reduceIte]
            refine ret1 rfl hF rfl ⟨congrArg Value.string (Eq.symm ?_), hS.old⟩
            unfold nextAccess
            first
              | exact if_neg (by rw [c8]; decide)
              | (rw [if_pos c8]; unfold accessOf
                 first
                 | exact if_pos (by rw [c15]; decide)
                 | (rw [if_neg (by rw [c15]; decide)]; exact if_pos (by rw [c15]; decide))
                 | (rw [if_neg (by rw [c24]; decide)]; exact if_pos (by rw [c24]; decide))
                 | rw [if_neg (by unfold swaps; simp only [List.mem_cons, List.not_mem_nil, or_false]; omega), if_neg (by unfold stores; simp only [List.mem_cons, List.not_mem_nil, or_false]; omega)])
          ·
            clear hF0; try simp only [Bool.not_eq_true', Bool.not_eq_false', Bool.or_eq_true, Bool.and_eq_true, Bool.or_eq_false_iff, Bool.and_eq_false_iff, Bool.not_eq_eq_eq_not, Bool.not_true, Bool.not_false, decide_eq_true_eq, decide_eq_false_iff_not] at c15
            refine wp_seq_k fun K16 hK16 => ?_
            refine wp_region_lit ?_
            refine wl hF rfl rfl rfl (r_eql (hF.ev rfl) ec) ?_; clear hF a; intro a hF
            refine wl hF rfl rfl rfl (r_assign (hF.ev rfl)) ?_; clear hF a; intro a hF
            refine wl_nil ?_
            refine hK16 _ _ ?_
            revert hF; intro hF0; refine wc_fx (t := 15) hF0 rfl (fun c15 hF => ?_) (fun c15 hF => ?_)
            ·
              clear hF0; try simp only [Bool.not_eq_true', Bool.not_eq_false', Bool.or_eq_true, Bool.and_eq_true, Bool.or_eq_false_iff, Bool.and_eq_false_iff, Bool.not_eq_eq_eq_not, Bool.not_true, Bool.not_false, decide_eq_true_eq, decide_eq_false_iff_not] at c15
              refine wp_skip ?_
              refine hK7 _ _ ?_
              refine wc_true (hF.ev rfl) ?_
              refine wp_seq_k fun K17 hK17 => ?_
              refine wp_region_lit ?_
              refine wl hF rfl rfl rfl (r_assign ec) ?_; clear hF a; intro a hF
              refine wl_nil ?_
              refine hK17 _ _ ?_
              refine wp_ret ?_
              try simp only [Exit.then, Exit.inBlock, ↓reduceIte]
              refine ret1 rfl hF rfl ⟨congrArg Value.string (Eq.symm ?_), hS.old⟩
              unfold nextAccess
              first
                | exact if_neg (by rw [c8]; decide)
                | (rw [if_pos c8]; unfold accessOf
                   first
                   | exact if_pos (by rw [c15]; decide)
                   | (rw [if_neg (by rw [c15]; decide)]; exact if_pos (by rw [c15]; decide))
                   | (rw [if_neg (by rw [c24]; decide)]; exact if_pos (by rw [c24]; decide))
                   | rw [if_neg (by unfold swaps; simp only [List.mem_cons, List.not_mem_nil, or_false]; omega), if_neg (by unfold stores; simp only [List.mem_cons, List.not_mem_nil, or_false]; omega)])
            ·
              clear hF0; try simp only [Bool.not_eq_true', Bool.not_eq_false', Bool.or_eq_true, Bool.and_eq_true, Bool.or_eq_false_iff, Bool.and_eq_false_iff, Bool.not_eq_eq_eq_not, Bool.not_true, Bool.not_false, decide_eq_true_eq, decide_eq_false_iff_not] at c15
              refine wp_seq_k fun K18 hK18 => ?_
              refine wp_region_lit ?_
              refine wl hF rfl rfl rfl (r_eql (hF.ev rfl) ec) ?_; clear hF a; intro a hF
              refine wl hF rfl rfl rfl (r_assign (hF.ev rfl)) ?_; clear hF a; intro a hF
              refine wl_nil ?_
              refine hK18 _ _ ?_
              revert hF; intro hF0; refine wc_fx (t := 15) hF0 rfl (fun c15 hF => ?_) (fun c15 hF => ?_)
              ·
                clear hF0; try simp only [Bool.not_eq_true', Bool.not_eq_false', Bool.or_eq_true, Bool.and_eq_true, Bool.or_eq_false_iff, Bool.and_eq_false_iff, Bool.not_eq_eq_eq_not, Bool.not_true, Bool.not_false, decide_eq_true_eq, decide_eq_false_iff_not] at c15
                refine wp_skip ?_
                refine hK7 _ _ ?_
                refine wc_true (hF.ev rfl) ?_
                refine wp_seq_k fun K19 hK19 => ?_
                refine wp_region_lit ?_
                refine wl hF rfl rfl rfl (r_assign ec) ?_; clear hF a; intro a hF
                refine wl_nil ?_
                refine hK19 _ _ ?_
                refine wp_ret ?_
                try simp only [Exit.then, Exit.inBlock, ↓reduceIte]
                refine ret1 rfl hF rfl ⟨congrArg Value.string (Eq.symm ?_), hS.old⟩
                unfold nextAccess
                first
                  | exact if_neg (by rw [c8]; decide)
                  | (rw [if_pos c8]; unfold accessOf
                     first
                     | exact if_pos (by rw [c15]; decide)
                     | (rw [if_neg (by rw [c15]; decide)]; exact if_pos (by rw [c15]; decide))
                     | (rw [if_neg (by rw [c24]; decide)]; exact if_pos (by rw [c24]; decide))
                     | rw [if_neg (by unfold swaps; simp only [List.mem_cons, List.not_mem_nil, or_false]; omega), if_neg (by unfold stores; simp only [List.mem_cons, List.not_mem_nil, or_false]; omega)])
              ·
                clear hF0; try simp only [Bool.not_eq_true', Bool.not_eq_false', Bool.or_eq_true, Bool.and_eq_true, Bool.or_eq_false_iff, Bool.and_eq_false_iff, Bool.not_eq_eq_eq_not, Bool.not_true, Bool.not_false, decide_eq_true_eq, decide_eq_false_iff_not] at c15
                refine wp_seq_k fun K20 hK20 => ?_
                refine wp_region_lit ?_
                refine wl hF rfl rfl rfl (r_eql (hF.ev rfl) ec) ?_; clear hF a; intro a hF
                refine wl hF rfl rfl rfl (r_assign (hF.ev rfl)) ?_; clear hF a; intro a hF
                refine wl_nil ?_
                refine hK20 _ _ ?_
                revert hF; intro hF0; refine wc_fx (t := 15) hF0 rfl (fun c15 hF => ?_) (fun c15 hF => ?_)
                ·
                  clear hF0; try simp only [Bool.not_eq_true', Bool.not_eq_false', Bool.or_eq_true, Bool.and_eq_true, Bool.or_eq_false_iff, Bool.and_eq_false_iff, Bool.not_eq_eq_eq_not, Bool.not_true, Bool.not_false, decide_eq_true_eq, decide_eq_false_iff_not] at c15
                  refine wp_skip ?_
                  refine hK7 _ _ ?_
                  refine wc_true (hF.ev rfl) ?_
                  refine wp_seq_k fun K21 hK21 => ?_
                  refine wp_region_lit ?_
                  refine wl hF rfl rfl rfl (r_assign ec) ?_; clear hF a; intro a hF
                  refine wl_nil ?_
                  refine hK21 _ _ ?_
                  refine wp_ret ?_
                  try simp only [Exit.then, Exit.inBlock, ↓reduceIte]
                  refine ret1 rfl hF rfl ⟨congrArg Value.string (Eq.symm ?_), hS.old⟩
                  unfold nextAccess
                  first
                    | exact if_neg (by rw [c8]; decide)
                    | (rw [if_pos c8]; unfold accessOf
                       first
                       | exact if_pos (by rw [c15]; decide)
                       | (rw [if_neg (by rw [c15]; decide)]; exact if_pos (by rw [c15]; decide))
                       | (rw [if_neg (by rw [c24]; decide)]; exact if_pos (by rw [c24]; decide))
                       | rw [if_neg (by unfold swaps; simp only [List.mem_cons, List.not_mem_nil, or_false]; omega), if_neg (by unfold stores; simp only [List.mem_cons, List.not_mem_nil, or_false]; omega)])
                ·
                  clear hF0; try simp only [Bool.not_eq_true', Bool.not_eq_false', Bool.or_eq_true, Bool.and_eq_true, Bool.or_eq_false_iff, Bool.and_eq_false_iff, Bool.not_eq_eq_eq_not, Bool.not_true, Bool.not_false, decide_eq_true_eq, decide_eq_false_iff_not] at c15
                  refine wp_region_lit ?_
                  refine wl hF rfl rfl rfl (r_eql (hF.ev rfl) ec) ?_; clear hF a; intro a hF
                  refine wl hF rfl rfl rfl (r_assign (hF.ev rfl)) ?_; clear hF a; intro a hF
                  refine wl_nil ?_
                  refine hK7 _ _ ?_
                  revert hF; intro hF0; refine wc_fx (t := 15) hF0 rfl (fun c15 hF => ?_) (fun c15 hF => ?_)
                  ·
                    clear hF0; try simp only [Bool.not_eq_true', Bool.not_eq_false', Bool.or_eq_true, Bool.and_eq_true, Bool.or_eq_false_iff, Bool.and_eq_false_iff, Bool.not_eq_eq_eq_not, Bool.not_true, Bool.not_false, decide_eq_true_eq, decide_eq_false_iff_not] at c15
                    refine wp_seq_k fun K22 hK22 => ?_
                    refine wp_region_lit ?_
                    refine wl hF rfl rfl rfl (r_assign ec) ?_; clear hF a; intro a hF
                    refine wl_nil ?_
                    refine hK22 _ _ ?_
                    refine wp_ret ?_
                    try simp only [Exit.then, Exit.inBlock, ↓reduceIte]
                    refine ret1 rfl hF rfl ⟨congrArg Value.string (Eq.symm ?_), hS.old⟩
                    unfold nextAccess
                    first
                      | exact if_neg (by rw [c8]; decide)
                      | (rw [if_pos c8]; unfold accessOf
                         first
                         | exact if_pos (by rw [c15]; decide)
                         | (rw [if_neg (by rw [c15]; decide)]; exact if_pos (by rw [c15]; decide))
                         | (rw [if_neg (by rw [c24]; decide)]; exact if_pos (by rw [c24]; decide))
                         | rw [if_neg (by unfold swaps; simp only [List.mem_cons, List.not_mem_nil, or_false]; omega), if_neg (by unfold stores; simp only [List.mem_cons, List.not_mem_nil, or_false]; omega)])
                  ·
                    clear hF0; try simp only [Bool.not_eq_true', Bool.not_eq_false', Bool.or_eq_true, Bool.and_eq_true, Bool.or_eq_false_iff, Bool.and_eq_false_iff, Bool.not_eq_eq_eq_not, Bool.not_true, Bool.not_false, decide_eq_true_eq, decide_eq_false_iff_not] at c15
                    refine wp_seq_k fun K23 hK23 => ?_
                    refine wp_seq_k fun K24 hK24 => ?_
                    refine wp_region_lit ?_
                    refine wl hF rfl rfl rfl (r_eql (hF.ev rfl) ec) ?_; clear hF a; intro a hF
                    refine wl hF rfl rfl rfl (r_assign (hF.ev rfl)) ?_; clear hF a; intro a hF
                    refine wl_nil ?_
                    refine hK24 _ _ ?_
                    revert hF; intro hF0; refine wc_fx (t := 24) hF0 rfl (fun c24 hF => ?_) (fun c24 hF => ?_)
                    ·
                      clear hF0; try simp only [Bool.not_eq_true', Bool.not_eq_false', Bool.or_eq_true, Bool.and_eq_true, Bool.or_eq_false_iff, Bool.and_eq_false_iff, Bool.not_eq_eq_eq_not, Bool.not_true, Bool.not_false, decide_eq_true_eq, decide_eq_false_iff_not] at c24
                      refine wp_skip ?_
                      refine hK23 _ _ ?_
                      refine wc_true (hF.ev rfl) ?_
                      refine wp_seq_k fun K25 hK25 => ?_
                      refine wp_region_lit ?_
                      refine wl hF rfl rfl rfl (r_assign ec) ?_; clear hF a; intro a hF
                      refine wl_nil ?_
                      refine hK25 _ _ ?_
                      refine wp_ret ?_
                      try simp only [Exit.then, Exit.inBlock, ↓reduceIte]
                      refine ret1 rfl hF rfl ⟨congrArg Value.string (Eq.symm ?_), hS.old⟩
                      unfold nextAccess
                      first
                        | exact if_neg (by rw [c8]; decide)
                        | (rw [if_pos c8]; unfold accessOf
                           first
                           | exact if_pos (by rw [c15]; decide)
                           | (rw [if_neg (by rw [c15]; decide)]; exact if_pos (by rw [c15]; decide))
                           | (rw [if_neg (by rw [c24]; decide)]; exact if_pos (by rw [c24]; decide))
                           | rw [if_neg (by unfold swaps; simp only [List.mem_cons, List.not_mem_nil, or_false]; omega), if_neg (by unfold stores; simp only [List.mem_cons, List.not_mem_nil, or_false]; omega)])
                    ·
                      clear hF0; try simp only [Bool.not_eq_true', Bool.not_eq_false', Bool.or_eq_true, Bool.and_eq_true, Bool.or_eq_false_iff, Bool.and_eq_false_iff, Bool.not_eq_eq_eq_not, Bool.not_true, Bool.not_false, decide_eq_true_eq, decide_eq_false_iff_not] at c24
                      refine wp_seq_k fun K26 hK26 => ?_
                      refine wp_region_lit ?_
                      refine wl hF rfl rfl rfl (r_eql (hF.ev rfl) ec) ?_; clear hF a; intro a hF
                      refine wl hF rfl rfl rfl (r_assign (hF.ev rfl)) ?_; clear hF a; intro a hF
                      refine wl_nil ?_
                      refine hK26 _ _ ?_
                      revert hF; intro hF0; refine wc_fx (t := 24) hF0 rfl (fun c24 hF => ?_) (fun c24 hF => ?_)
                      ·
                        clear hF0; try simp only [Bool.not_eq_true', Bool.not_eq_false', Bool.or_eq_true, Bool.and_eq_true, Bool.or_eq_false_iff, Bool.and_eq_false_iff, Bool.not_eq_eq_eq_not, Bool.not_true, Bool.not_false, decide_eq_true_eq, decide_eq_false_iff_not] at c24
                        refine wp_skip ?_
                        refine hK23 _ _ ?_
                        refine wc_true (hF.ev rfl) ?_
                        refine wp_seq_k fun K27 hK27 => ?_
                        refine wp_region_lit ?_
                        refine wl hF rfl rfl rfl (r_assign ec) ?_; clear hF a; intro a hF
                        refine wl_nil ?_
                        refine hK27 _ _ ?_
                        refine wp_ret ?_
                        try simp only [Exit.then, Exit.inBlock, ↓reduceIte]
                        refine ret1 rfl hF rfl ⟨congrArg Value.string (Eq.symm ?_), hS.old⟩
                        unfold nextAccess
                        first
                          | exact if_neg (by rw [c8]; decide)
                          | (rw [if_pos c8]; unfold accessOf
                             first
                             | exact if_pos (by rw [c15]; decide)
                             | (rw [if_neg (by rw [c15]; decide)]; exact if_pos (by rw [c15]; decide))
                             | (rw [if_neg (by rw [c24]; decide)]; exact if_pos (by rw [c24]; decide))
                             | rw [if_neg (by unfold swaps; simp only [List.mem_cons, List.not_mem_nil, or_false]; omega), if_neg (by unfold stores; simp only [List.mem_cons, List.not_mem_nil, or_false]; omega)])
                      ·
                        clear hF0; try simp only [Bool.not_eq_true', Bool.not_eq_false', Bool.or_eq_true, Bool.and_eq_true, Bool.or_eq_false_iff, Bool.and_eq_false_iff, Bool.not_eq_eq_eq_not, Bool.not_true, Bool.not_false, decide_eq_true_eq, decide_eq_false_iff_not] at c24
                        refine wp_seq_k fun K28 hK28 => ?_
                        refine wp_region_lit ?_
                        refine wl hF rfl rfl rfl (r_eql (hF.ev rfl) ec) ?_; clear hF a; intro a hF
                        refine wl hF rfl rfl rfl (r_assign (hF.ev rfl)) ?_; clear hF a; intro a hF
                        refine wl_nil ?_
                        refine hK28 _ _ ?_
                        revert hF; intro hF0; refine wc_fx (t := 24) hF0 rfl (fun c24 hF => ?_) (fun c24 hF => ?_)
                        ·
                          clear hF0; try simp only [Bool.not_eq_true', Bool.not_eq_false', Bool.or_eq_true, Bool.and_eq_true, Bool.or_eq_false_iff, Bool.and_eq_false_iff, Bool.not_eq_eq_eq_not, Bool.not_true, Bool.not_false, decide_eq_true_eq, decide_eq_false_iff_not] at c24
                          refine wp_skip ?_
                          refine hK23 _ _ ?_
                          refine wc_true (hF.ev rfl) ?_
                          refine wp_seq_k fun K29 hK29 => ?_
                          refine wp_region_lit ?_
                          refine wl hF rfl rfl rfl (r_assign ec) ?_; clear hF a; intro a hF
                          refine wl_nil ?_
                          refine hK29 _ _ ?_
                          refine wp_ret ?_
                          try simp only [Exit.then, Exit.inBlock, ↓reduceIte]
                          refine ret1 rfl hF rfl ⟨congrArg Value.string (Eq.symm ?_), hS.old⟩
                          unfold nextAccess
                          first
                            | exact if_neg (by rw [c8]; decide)
                            | (rw [if_pos c8]; unfold accessOf
                               first
                               | exact if_pos (by rw [c15]; decide)
                               | (rw [if_neg (by rw [c15]; decide)]; exact if_pos (by rw [c15]; decide))
                               | (rw [if_neg (by rw [c24]; decide)]; exact if_pos (by rw [c24]; decide))
                               | rw [if_neg (by unfold swaps; simp only [List.mem_cons, List.not_mem_nil, or_false]; omega), if_neg (by unfold stores; simp only [List.mem_cons, List.not_mem_nil, or_false]; omega)])
                        ·
                          clear hF0; try simp only [Bool.not_eq_true', Bool.not_eq_false', Bool.or_eq_true, Bool.and_eq_true, Bool.or_eq_false_iff, Bool.and_eq_false_iff, Bool.not_eq_eq_eq_not, Bool.not_true, Bool.not_false, decide_eq_true_eq, decide_eq_false_iff_not] at c24
                          refine wp_seq_k fun K30 hK30 => ?_
                          refine wp_region_lit ?_
                          refine wl hF rfl rfl rfl (r_eql (hF.ev rfl) ec) ?_; clear hF a; intro a hF
                          refine wl hF rfl rfl rfl (r_assign (hF.ev rfl)) ?_; clear hF a; intro a hF
                          refine wl_nil ?_
                          refine hK30 _ _ ?_
                          revert hF; intro hF0; refine wc_fx (t := 24) hF0 rfl (fun c24 hF => ?_) (fun c24 hF => ?_)
                          ·
                            clear hF0; try simp only [Bool.not_eq_true', Bool.not_eq_false', Bool.or_eq_true, Bool.and_eq_true, Bool.or_eq_false_iff, Bool.and_eq_false_iff, Bool.not_eq_eq_eq_not, Bool.not_true, Bool.not_false, decide_eq_true_eq, decide_eq_false_iff_not] at c24
                            refine wp_skip ?_
                            refine hK23 _ _ ?_
                            refine wc_true (hF.ev rfl) ?_
                            refine wp_seq_k fun K31 hK31 => ?_
                            refine wp_region_lit ?_
                            refine wl hF rfl rfl rfl (r_assign ec) ?_; clear hF a; intro a hF
                            refine wl_nil ?_
                            refine hK31 _ _ ?_
                            refine wp_ret ?_
                            try simp only [Exit.then, Exit.inBlock, ↓reduceIte]
                            refine ret1 rfl hF rfl ⟨congrArg Value.string (Eq.symm ?_), hS.old⟩
                            unfold nextAccess
                            first
                              | exact if_neg (by rw [c8]; decide)
                              | (rw [if_pos c8]; unfold accessOf
                                 first
                                 | exact if_pos (by rw [c15]; decide)
                                 | (rw [if_neg (by rw [c15]; decide)]; exact if_pos (by rw [c15]; decide))
                                 | (rw [if_neg (by rw [c24]; decide)]; exact if_pos (by rw [c24]; decide))
                                 | rw [if_neg (by unfold swaps; simp only [List.mem_cons, List.not_mem_nil, or_false]; omega), if_neg (by unfold stores; simp only [List.mem_cons, List.not_mem_nil, or_false]; omega)])
                          ·
                            clear hF0; try simp only [Bool.not_eq_true', Bool.not_eq_false', Bool.or_eq_true, Bool.and_eq_true, Bool.or_eq_false_iff, Bool.and_eq_false_iff, Bool.not_eq_eq_eq_not, Bool.not_true, Bool.not_false, decide_eq_true_eq, decide_eq_false_iff_not] at c24
                            refine wp_seq_k fun K32 hK32 => ?_
                            refine wp_region_lit ?_
                            refine wl hF rfl rfl rfl (r_eql (hF.ev rfl) ec) ?_; clear hF a; intro a hF
                            refine wl hF rfl rfl rfl (r_assign (hF.ev rfl)) ?_; clear hF a; intro a hF
                            refine wl_nil ?_
                            refine hK32 _ _ ?_
                            revert hF; intro hF0; refine wc_fx (t := 24) hF0 rfl (fun c24 hF => ?_) (fun c24 hF => ?_)
                            ·
                              clear hF0; try simp only [Bool.not_eq_true', Bool.not_eq_false', Bool.or_eq_true, Bool.and_eq_true, Bool.or_eq_false_iff, Bool.and_eq_false_iff, Bool.not_eq_eq_eq_not, Bool.not_true, Bool.not_false, decide_eq_true_eq, decide_eq_false_iff_not] at c24
                              refine wp_skip ?_
                              refine hK23 _ _ ?_
                              refine wc_true (hF.ev rfl) ?_
                              refine wp_seq_k fun K33 hK33 => ?_
                              refine wp_region_lit ?_
                              refine wl hF rfl rfl rfl (r_assign ec) ?_; clear hF a; intro a hF
                              refine wl_nil ?_
                              refine hK33 _ _ ?_
                              refine wp_ret ?_
                              try simp only [Exit.then, Exit.inBlock, ↓reduceIte]
                              refine ret1 rfl hF rfl ⟨congrArg Value.string (Eq.symm ?_), hS.old⟩
                              unfold nextAccess
                              first
                                | exact if_neg (by rw [c8]; decide)
                                | (rw [if_pos c8]; unfold accessOf
                                   first
                                   | exact if_pos (by rw [c15]; decide)
                                   | (rw [if_neg (by rw [c15]; decide)]; exact if_pos (by rw [c15]; decide))
                                   | (rw [if_neg (by rw [c24]; decide)]; exact if_pos (by rw [c24]; decide))
                                   | rw [if_neg (by unfold swaps; simp only [List.mem_cons, List.not_mem_nil, or_false]; omega), if_neg (by unfold stores; simp only [List.mem_cons, List.not_mem_nil, or_false]; omega)])
                            ·
                              clear hF0; try simp only [Bool.not_eq_true', Bool.not_eq_false', Bool.or_eq_true, Bool.and_eq_true, Bool.or_eq_false_iff, Bool.and_eq_false_iff, Bool.not_eq_eq_eq_not, Bool.not_true, Bool.not_false, decide_eq_true_eq, decide_eq_false_iff_not] at c24
                              refine wp_seq_k fun K34 hK34 => ?_
                              refine wp_region_lit ?_
                              refine wl hF rfl rfl rfl (r_eql (hF.ev rfl) ec) ?_; clear hF a; intro a hF
                              refine wl hF rfl rfl rfl (r_assign (hF.ev rfl)) ?_; clear hF a; intro a hF
                              refine wl_nil ?_
                              refine hK34 _ _ ?_
                              revert hF; intro hF0; refine wc_fx (t := 24) hF0 rfl (fun c24 hF => ?_) (fun c24 hF => ?_)
                              ·
                                clear hF0; try simp only [Bool.not_eq_true', Bool.not_eq_false', Bool.or_eq_true, Bool.and_eq_true, Bool.or_eq_false_iff, Bool.and_eq_false_iff, Bool.not_eq_eq_eq_not, Bool.not_true, Bool.not_false, decide_eq_true_eq, decide_eq_false_iff_not] at c24
                                refine wp_skip ?_
                                refine hK23 _ _ ?_
                                refine wc_true (hF.ev rfl) ?_
                                refine wp_seq_k fun K35 hK35 => ?_
                                refine wp_region_lit ?_
                                refine wl hF rfl rfl rfl (r_assign ec) ?_; clear hF a; intro a hF
                                refine wl_nil ?_
                                refine hK35 _ _ ?_
                                refine wp_ret ?_
                                try simp only [Exit.then, Exit.inBlock, ↓reduceIte]
                                refine ret1 rfl hF rfl ⟨congrArg Value.string (Eq.symm ?_), hS.old⟩
                                unfold nextAccess
                                first
                                  | exact if_neg (by rw [c8]; decide)
                                  | (rw [if_pos c8]; unfold accessOf
                                     first
                                     | exact if_pos (by rw [c15]; decide)
                                     | (rw [if_neg (by rw [c15]; decide)]; exact if_pos (by rw [c15]; decide))
                                     | (rw [if_neg (by rw [c24]; decide)]; exact if_pos (by rw [c24]; decide))
                                     | rw [if_neg (by unfold swaps; simp only [List.mem_cons, List.not_mem_nil, or_false]; omega), if_neg (by unfold stores; simp only [List.mem_cons, List.not_mem_nil, or_false]; omega)])
                              ·
                                clear hF0; try simp only [Bool.not_eq_true', Bool.not_eq_false', Bool.or_eq_true, Bool.and_eq_true, Bool.or_eq_false_iff, Bool.and_eq_false_iff, Bool.not_eq_eq_eq_not, Bool.not_true, Bool.not_false, decide_eq_true_eq, decide_eq_false_iff_not] at c24
                                refine wp_seq_k fun K36 hK36 => ?_
                                refine wp_region_lit ?_
                                refine wl hF rfl rfl rfl (r_eql (hF.ev rfl) ec) ?_; clear hF a; intro a hF
                                refine wl hF rfl rfl rfl (r_assign (hF.ev rfl)) ?_; clear hF a; intro a hF
                                refine wl_nil ?_
                                refine hK36 _ _ ?_
                                revert hF; intro hF0; refine wc_fx (t := 24) hF0 rfl (fun c24 hF => ?_) (fun c24 hF => ?_)
                                ·
                                  clear hF0; try simp only [Bool.not_eq_true', Bool.not_eq_false', Bool.or_eq_true, Bool.and_eq_true, Bool.or_eq_false_iff, Bool.and_eq_false_iff, Bool.not_eq_eq_eq_not, Bool.not_true, Bool.not_false, decide_eq_true_eq, decide_eq_false_iff_not] at c24
                                  refine wp_skip ?_
                                  refine hK23 _ _ ?_
                                  refine wc_true (hF.ev rfl) ?_
                                  refine wp_seq_k fun K37 hK37 => ?_
                                  refine wp_region_lit ?_
                                  refine wl hF rfl rfl rfl (r_assign ec) ?_; clear hF a; intro a hF
                                  refine wl_nil ?_
                                  refine hK37 _ _ ?_
                                  refine wp_ret ?_
                                  try simp only [Exit.then, Exit.inBlock, ↓reduceIte]
                                  refine ret1 rfl hF rfl ⟨congrArg Value.string (Eq.symm ?_), hS.old⟩
                                  unfold nextAccess
                                  first
                                    | exact if_neg (by rw [c8]; decide)
                                    | (rw [if_pos c8]; unfold accessOf
                                       first
                                       | exact if_pos (by rw [c15]; decide)
                                       | (rw [if_neg (by rw [c15]; decide)]; exact if_pos (by rw [c15]; decide))
                                       | (rw [if_neg (by rw [c24]; decide)]; exact if_pos (by rw [c24]; decide))
                                       | rw [if_neg (by unfold swaps; simp only [List.mem_cons, List.not_mem_nil, or_false]; omega), if_neg (by unfold stores; simp only [List.mem_cons, List.not_mem_nil, or_false]; omega)])
                                ·
                                  clear hF0; try simp only [Bool.not_eq_true', Bool.not_eq_false', Bool.or_eq_true, Bool.and_eq_true, Bool.or_eq_false_iff, Bool.and_eq_false_iff, Bool.not_eq_eq_eq_not, Bool.not_true, Bool.not_false, decide_eq_true_eq, decide_eq_false_iff_not] at c24
                                  refine wp_seq_k fun K38 hK38 => ?_
                                  refine wp_region_lit ?_
                                  refine wl hF rfl rfl rfl (r_eql (hF.ev rfl) ec) ?_; clear hF a; intro a hF
                                  refine wl hF rfl rfl rfl (r_assign (hF.ev rfl)) ?_; clear hF a; intro a hF
                                  refine wl_nil ?_
                                  refine hK38 _ _ ?_
                                  revert hF; intro hF0; refine wc_fx (t := 24) hF0 rfl (fun c24 hF => ?_) (fun c24 hF => ?_)
                                  ·
                                    clear hF0; try simp only [Bool.not_eq_true', Bool.not_eq_false', Bool.or_eq_true, Bool.and_eq_true, Bool.or_eq_false_iff, Bool.and_eq_false_iff, Bool.not_eq_eq_eq_not, Bool.not_true, Bool.not_false, decide_eq_true_eq, decide_eq_false_iff_not] at c24
                                    refine wp_skip ?_
                                    refine hK23 _ _ ?_
                                    refine wc_true (hF.ev rfl) ?_
                                    refine wp_seq_k fun K39 hK39 => ?_
                                    refine wp_region_lit ?_
                                    refine wl hF rfl rfl rfl (r_assign ec) ?_; clear hF a; intro a hF
                                    refine wl_nil ?_
                                    refine hK39 _ _ ?_
                                    refine wp_ret ?_
                                    try simp only [Exit.then, Exit.inBlock, ↓reduceIte]
                                    refine ret1 rfl hF rfl ⟨congrArg Value.string (Eq.symm ?_), hS.old⟩
                                    unfold nextAccess
                                    first
                                      | exact if_neg (by rw [c8]; decide)
                                      | (rw [if_pos c8]; unfold accessOf
                                         first
                                         | exact if_pos (by rw [c15]; decide)
                                         | (rw [if_neg (by rw [c15]; decide)]; exact if_pos (by rw [c15]; decide))
                                         | (rw [if_neg (by rw [c24]; decide)]; exact if_pos (by rw [c24]; decide))
                                         | rw [if_neg (by unfold swaps; simp only [List.mem_cons, List.not_mem_nil, or_false]; omega), if_neg (by unfold stores; simp only [List.mem_cons, List.not_mem_nil, or_false]; omega)])
                                  ·
                                    clear hF0; try simp only [Bool.not_eq_true', Bool.not_eq_false', Bool.or_eq_true, Bool.and_eq_true, Bool.or_eq_false_iff, Bool.and_eq_false_iff, Bool.not_eq_eq_eq_not, Bool.not_true, Bool.not_false, decide_eq_true_eq, decide_eq_false_iff_not] at c24
                                    refine wp_seq_k fun K40 hK40 => ?_
                                    refine wp_region_lit ?_
                                    refine wl hF rfl rfl rfl (r_eql (hF.ev rfl) ec) ?_; clear hF a; intro a hF
                                    refine wl hF rfl rfl rfl (r_assign (hF.ev rfl)) ?_; clear hF a; intro a hF
                                    refine wl_nil ?_
                                    refine hK40 _ _ ?_
                                    revert hF; intro hF0; refine wc_fx (t := 24) hF0 rfl (fun c24 hF => ?_) (fun c24 hF => ?_)
                                    ·
                                      clear hF0; try simp only [Bool.not_eq_true', Bool.not_eq_false', Bool.or_eq_true, Bool.and_eq_true, Bool.or_eq_false_iff, Bool.and_eq_false_iff, Bool.not_eq_eq_eq_not, Bool.not_true, Bool.not_false, decide_eq_true_eq, decide_eq_false_iff_not] at c24
                                      refine wp_skip ?_
                                      refine hK23 _ _ ?_
                                      refine wc_true (hF.ev rfl) ?_
                                      refine wp_seq_k fun K41 hK41 => ?_
                                      refine wp_region_lit ?_
                                      refine wl hF rfl rfl rfl (r_assign ec) ?_; clear hF a; intro a hF
                                      refine wl_nil ?_
                                      refine hK41 _ _ ?_
                                      refine wp_ret ?_
                                      try simp only [Exit.then, Exit.inBlock, ↓reduceIte]
                                      refine ret1 rfl hF rfl ⟨congrArg Value.string (Eq.symm ?_), hS.old⟩
                                      unfold nextAccess
                                      first
                                        | exact if_neg (by rw [c8]; decide)
                                        | (rw [if_pos c8]; unfold accessOf
                                           first
                                           | exact if_pos (by rw [c15]; decide)
                                           | (rw [if_neg (by rw [c15]; decide)]; exact if_pos (by rw [c15]; decide))
                                           | (rw [if_neg (by rw [c24]; decide)]; exact if_pos (by rw [c24]; decide))
                                           | rw [if_neg (by unfold swaps; simp only [List.mem_cons, List.not_mem_nil, or_false]; omega), if_neg (by unfold stores; simp only [List.mem_cons, List.not_mem_nil, or_false]; omega)])
                                    ·
                                      clear hF0; try simp only [Bool.not_eq_true', Bool.not_eq_false', Bool.or_eq_true, Bool.and_eq_true, Bool.or_eq_false_iff, Bool.and_eq_false_iff, Bool.not_eq_eq_eq_not, Bool.not_true, Bool.not_false, decide_eq_true_eq, decide_eq_false_iff_not] at c24
                                      refine wp_seq_k fun K42 hK42 => ?_
                                      refine wp_region_lit ?_
                                      refine wl hF rfl rfl rfl (r_eql (hF.ev rfl) ec) ?_; clear hF a; intro a hF
                                      refine wl hF rfl rfl rfl (r_assign (hF.ev rfl)) ?_; clear hF a; intro a hF
                                      refine wl_nil ?_
                                      refine hK42 _ _ ?_
                                      revert hF; intro hF0; refine wc_fx (t := 24) hF0 rfl (fun c24 hF => ?_) (fun c24 hF => ?_)
                                      ·
                                        clear hF0; try simp only [Bool.not_eq_true', Bool.not_eq_false', Bool.or_eq_true, Bool.and_eq_true, Bool.or_eq_false_iff, Bool.and_eq_false_iff, Bool.not_eq_eq_eq_not, Bool.not_true, Bool.not_false, decide_eq_true_eq, decide_eq_false_iff_not] at c24
                                        refine wp_skip ?_
                                        refine hK23 _ _ ?_
                                        refine wc_true (hF.ev rfl) ?_
                                        refine wp_seq_k fun K43 hK43 => ?_
                                        refine wp_region_lit ?_
                                        refine wl hF rfl rfl rfl (r_assign ec) ?_; clear hF a; intro a hF
                                        refine wl_nil ?_
                                        refine hK43 _ _ ?_
                                        refine wp_ret ?_
                                        try simp only [Exit.then, Exit.inBlock, ↓reduceIte]
                                        refine ret1 rfl hF rfl ⟨congrArg Value.string (Eq.symm ?_), hS.old⟩
                                        unfold nextAccess
                                        first
                                          | exact if_neg (by rw [c8]; decide)
                                          | (rw [if_pos c8]; unfold accessOf
                                             first
                                             | exact if_pos (by rw [c15]; decide)
                                             | (rw [if_neg (by rw [c15]; decide)]; exact if_pos (by rw [c15]; decide))
                                             | (rw [if_neg (by rw [c24]; decide)]; exact if_pos (by rw [c24]; decide))
                                             | rw [if_neg (by unfold swaps; simp only [List.mem_cons, List.not_mem_nil, or_false]; omega), if_neg (by unfold stores; simp only [List.mem_cons, List.not_mem_nil, or_false]; omega)])
                                      ·
                                        clear hF0; try simp only [Bool.not_eq_true', Bool.not_eq_false', Bool.or_eq_true, Bool.and_eq_true, Bool.or_eq_false_iff, Bool.and_eq_false_iff, Bool.not_eq_eq_eq_not, Bool.not_true, Bool.not_false, decide_eq_true_eq, decide_eq_false_iff_not] at c24
                                        refine wp_seq_k fun K44 hK44 => ?_
                                        refine wp_region_lit ?_
                                        refine wl hF rfl rfl rfl (r_eql (hF.ev rfl) ec) ?_; clear hF a; intro a hF
                                        refine wl hF rfl rfl rfl (r_assign (hF.ev rfl)) ?_; clear hF a; intro a hF
                                        refine wl_nil ?_
                                        refine hK44 _ _ ?_
                                        revert hF; intro hF0; refine wc_fx (t := 24) hF0 rfl (fun c24 hF => ?_) (fun c24 hF => ?_)
                                        ·
                                          clear hF0; try simp only [Bool.not_eq_true', Bool.not_eq_false', Bool.or_eq_true, Bool.and_eq_true, Bool.or_eq_false_iff, Bool.and_eq_false_iff, Bool.not_eq_eq_eq_not, Bool.not_true, Bool.not_false, decide_eq_true_eq, decide_eq_false_iff_not] at c24
                                          refine wp_skip ?_
                                          refine hK23 _ _ ?_
                                          refine wc_true (hF.ev rfl) ?_
                                          refine wp_seq_k fun K45 hK45 => ?_
                                          refine wp_region_lit ?_
                                          refine wl hF rfl rfl rfl (r_assign ec) ?_; clear hF a; intro a hF
                                          refine wl_nil ?_
                                          refine hK45 _ _ ?_
                                          refine wp_ret ?_
                                          try simp only [Exit.then, Exit.inBlock, ↓reduceIte]
                                          refine ret1 rfl hF rfl ⟨congrArg Value.string (Eq.symm ?_), hS.old⟩
                                          unfold nextAccess
                                          first
                                            | exact if_neg (by rw [c8]; decide)
                                            | (rw [if_pos c8]; unfold accessOf
                                               first
                                               | exact if_pos (by rw [c15]; decide)
                                               | (rw [if_neg (by rw [c15]; decide)]; exact if_pos (by rw [c15]; decide))
                                               | (rw [if_neg (by rw [c24]; decide)]; exact if_pos (by rw [c24]; decide))
                                               | rw [if_neg (by unfold swaps; simp only [List.mem_cons, List.not_mem_nil, or_false]; omega), if_neg (by unfold stores; simp only [List.mem_cons, List.not_mem_nil, or_false]; omega)])
                                        ·
                                          clear hF0; try simp only [Bool.not_eq_true', Bool.not_eq_false', Bool.or_eq_true, Bool.and_eq_true, Bool.or_eq_false_iff, Bool.and_eq_false_iff, Bool.not_eq_eq_eq_not, Bool.not_true, Bool.not_false, decide_eq_true_eq, decide_eq_false_iff_not] at c24
                                          refine wp_seq_k fun K46 hK46 => ?_
                                          refine wp_region_lit ?_
                                          refine wl hF rfl rfl rfl (r_eql (hF.ev rfl) ec) ?_; clear hF a; intro a hF
                                          refine wl hF rfl rfl rfl (r_assign (hF.ev rfl)) ?_; clear hF a; intro a hF
                                          refine wl_nil ?_
                                          refine hK46 _ _ ?_
                                          revert hF; intro hF0; refine wc_fx (t := 24) hF0 rfl (fun c24 hF => ?_) (fun c24 hF => ?_)
                                          ·
                                            clear hF0; try simp only [Bool.not_eq_true', Bool.not_eq_false', Bool.or_eq_true, Bool.and_eq_true, Bool.or_eq_false_iff, Bool.and_eq_false_iff, Bool.not_eq_eq_eq_not, Bool.not_true, Bool.not_false, decide_eq_true_eq, decide_eq_false_iff_not] at c24
                                            refine wp_skip ?_
                                            refine hK23 _ _ ?_
                                            refine wc_true (hF.ev rfl) ?_
                                            refine wp_seq_k fun K47 hK47 => ?_
                                            refine wp_region_lit ?_
                                            refine wl hF rfl rfl rfl (r_assign ec) ?_; clear hF a; intro a hF
                                            refine wl_nil ?_
                                            refine hK47 _ _ ?_
                                            refine wp_ret ?_
                                            try simp only [Exit.then, Exit.inBlock, ↓reduceIte]
                                            refine ret1 rfl hF rfl ⟨congrArg Value.string (Eq.symm ?_), hS.old⟩
                                            unfold nextAccess
                                            first
                                              | exact if_neg (by rw [c8]; decide)
                                              | (rw [if_pos c8]; unfold accessOf
                                                 first
                                                 | exact if_pos (by rw [c15]; decide)
                                                 | (rw [if_neg (by rw [c15]; decide)]; exact if_pos (by rw [c15]; decide))
                                                 | (rw [if_neg (by rw [c24]; decide)]; exact if_pos (by rw [c24]; decide))
                                                 | rw [if_neg (by unfold swaps; simp only [List.mem_cons, List.not_mem_nil, or_false]; omega), if_neg (by unfold stores; simp only [List.mem_cons, List.not_mem_nil, or_false]; omega)])
                                          ·
                                            clear hF0; try simp only [Bool.not_eq_true', Bool.not_eq_false', Bool.or_eq_true, Bool.and_eq_true, Bool.or_eq_false_iff, Bool.and_eq_false_iff, Bool.not_eq_eq_eq_not, Bool.not_true, Bool.not_false, decide_eq_true_eq, decide_eq_false_iff_not] at c24
                                            refine wp_seq_k fun K48 hK48 => ?_
                                            refine wp_region_lit ?_
                                            refine wl hF rfl rfl rfl (r_eql (hF.ev rfl) ec) ?_; clear hF a; intro a hF
                                            refine wl hF rfl rfl rfl (r_assign (hF.ev rfl)) ?_; clear hF a; intro a hF
                                            refine wl_nil ?_
                                            refine hK48 _ _ ?_
                                            revert hF; intro hF0; refine wc_fx (t := 24) hF0 rfl (fun c24 hF => ?_) (fun c24 hF => ?_)
                                            ·
                                              clear hF0; try simp only [Bool.not_eq_true', Bool.not_eq_false', Bool.or_eq_true, Bool.and_eq_true, Bool.or_eq_false_iff, Bool.and_eq_false_iff, Bool.not_eq_eq_eq_not, Bool.not_true, Bool.not_false, decide_eq_true_eq, decide_eq_false_iff_not] at c24
                                              refine wp_skip ?_
                                              refine hK23 _ _ ?_
                                              refine wc_true (hF.ev rfl) ?_
                                              refine wp_seq_k fun K49 hK49 => ?_
                                              refine wp_region_lit ?_
                                              refine wl hF rfl rfl rfl (r_assign ec) ?_; clear hF a; intro a hF
                                              refine wl_nil ?_
                                              refine hK49 _ _ ?_
                                              refine wp_ret ?_
                                              try simp only [Exit.then, Exit.inBlock, ↓reduceIte]
                                              refine ret1 rfl hF rfl ⟨congrArg Value.string (Eq.symm ?_), hS.old⟩
                                              unfold nextAccess
                                              first
                                                | exact if_neg (by rw [c8]; decide)
                                                | (rw [if_pos c8]; unfold accessOf
                                                   first
                                                   | exact if_pos (by rw [c15]; decide)
                                                   | (rw [if_neg (by rw [c15]; decide)]; exact if_pos (by rw [c15]; decide))
                                                   | (rw [if_neg (by rw [c24]; decide)]; exact if_pos (by rw [c24]; decide))
                                                   | rw [if_neg (by unfold swaps; simp only [List.mem_cons, List.not_mem_nil, or_false]; omega), if_neg (by unfold stores; simp only [List.mem_cons, List.not_mem_nil, or_false]; omega)])
                                            ·
                                              clear hF0; try simp only [Bool.not_eq_true', Bool.not_eq_false', Bool.or_eq_true, Bool.and_eq_true, Bool.or_eq_false_iff, Bool.and_eq_false_iff, Bool.not_eq_eq_eq_not, Bool.not_true, Bool.not_false, decide_eq_true_eq, decide_eq_false_iff_not] at c24
                                              refine wp_seq_k fun K50 hK50 => ?_
                                              refine wp_region_lit ?_
                                              refine wl hF rfl rfl rfl (r_eql (hF.ev rfl) ec) ?_; clear hF a; intro a hF
                                              refine wl hF rfl rfl rfl (r_assign (hF.ev rfl)) ?_; clear hF a; intro a hF
                                              refine wl_nil ?_
                                              refine hK50 _ _ ?_
                                              revert hF; intro hF0; refine wc_fx (t := 24) hF0 rfl (fun c24 hF => ?_) (fun c24 hF => ?_)
                                              ·
                                                clear hF0; try simp only [Bool.not_eq_true', Bool.not_eq_false', Bool.or_eq_true, Bool.and_eq_true, Bool.or_eq_false_iff, Bool.and_eq_false_iff, Bool.not_eq_eq_eq_not, Bool.not_true, Bool.not_false, decide_eq_true_eq, decide_eq_false_iff_not] at c24
                                                refine wp_skip ?_
                                                refine hK23 _ _ ?_
                                                refine wc_true (hF.ev rfl) ?_
                                                refine wp_seq_k fun K51 hK51 => ?_
                                                refine wp_region_lit ?_
                                                refine wl hF rfl rfl rfl (r_assign ec) ?_; clear hF a; intro a hF
                                                refine wl_nil ?_
                                                refine hK51 _ _ ?_
                                                refine wp_ret ?_
                                                try simp only [Exit.then, Exit.inBlock, ↓reduceIte]
                                                refine ret1 rfl hF rfl ⟨congrArg Value.string (Eq.symm ?_), hS.old⟩
                                                unfold nextAccess
                                                first
                                                  | exact if_neg (by rw [c8]; decide)
                                                  | (rw [if_pos c8]; unfold accessOf
                                                     first
                                                     | exact if_pos (by rw [c15]; decide)
                                                     | (rw [if_neg (by rw [c15]; decide)]; exact if_pos (by rw [c15]; decide))
                                                     | (rw [if_neg (by rw [c24]; decide)]; exact if_pos (by rw [c24]; decide))
                                                     | rw [if_neg (by unfold swaps; simp only [List.mem_cons, List.not_mem_nil, or_false]; omega), if_neg (by unfold stores; simp only [List.mem_cons, List.not_mem_nil, or_false]; omega)])
                                              ·
                                                clear hF0; try simp only [Bool.not_eq_true', Bool.not_eq_false', Bool.or_eq_true, Bool.and_eq_true, Bool.or_eq_false_iff, Bool.and_eq_false_iff, Bool.not_eq_eq_eq_not, Bool.not_true, Bool.not_false, decide_eq_true_eq, decide_eq_false_iff_not] at c24
                                                refine wp_seq_k fun K52 hK52 => ?_
                                                refine wp_region_lit ?_
                                                refine wl hF rfl rfl rfl (r_eql (hF.ev rfl) ec) ?_; clear hF a; intro a hF
                                                refine wl hF rfl rfl rfl (r_assign (hF.ev rfl)) ?_; clear hF a; intro a hF
                                                refine wl_nil ?_
                                                refine hK52 _ _ ?_
                                                revert hF; intro hF0; refine wc_fx (t := 24) hF0 rfl (fun c24 hF => ?_) (fun c24 hF => ?_)
                                                ·
                                                  clear hF0; try simp only [Bool.not_eq_true', Bool.not_eq_false', Bool.or_eq_true, Bool.and_eq_true, Bool.or_eq_false_iff, Bool.and_eq_false_iff, Bool.not_eq_eq_eq_not, Bool.not_true, Bool.not_false, decide_eq_true_eq, decide_eq_false_iff_not] at c24
                                                  refine wp_skip ?_
                                                  refine hK23 _ _ ?_
                                                  refine wc_true (hF.ev rfl) ?_
                                                  refine wp_seq_k fun K53 hK53 => ?_
                                                  refine wp_region_lit ?_
                                                  refine wl hF rfl rfl rfl (r_assign ec) ?_; clear hF a; intro a hF
                                                  refine wl_nil ?_
                                                  refine hK53 _ _ ?_
                                                  refine wp_ret ?_
                                                  try simp only [Exit.then, Exit.inBlock, ↓reduceIte]
                                                  refine ret1 rfl hF rfl ⟨congrArg Value.string (Eq.symm ?_), hS.old⟩
                                                  unfold nextAccess
                                                  first
                                                    | exact if_neg (by rw [c8]; decide)
                                                    | (rw [if_pos c8]; unfold accessOf
                                                       first
                                                       | exact if_pos (by rw [c15]; decide)
                                                       | (rw [if_neg (by rw [c15]; decide)]; exact if_pos (by rw [c15]; decide))
                                                       | (rw [if_neg (by rw [c24]; decide)]; exact if_pos (by rw [c24]; decide))
                                                       | rw [if_neg (by unfold swaps; simp only [List.mem_cons, List.not_mem_nil, or_false]; omega), if_neg (by unfold stores; simp only [List.mem_cons, List.not_mem_nil, or_false]; omega)])
                                                ·
                                                  clear hF0; try simp only [Bool.not_eq_true', Bool.not_eq_false', Bool.or_eq_true, Bool.and_eq_true, Bool.or_eq_false_iff, Bool.and_eq_false_iff, Bool.not_eq_eq_eq_not, Bool.not_true, Bool.not_false, decide_eq_true_eq, decide_eq_false_iff_not] at c24
                                                  refine wp_region_lit ?_
                                                  refine wl hF rfl rfl rfl (r_eql (hF.ev rfl) ec) ?_; clear hF a; intro a hF
                                                  refine wl hF rfl rfl rfl (r_assign (hF.ev rfl)) ?_; clear hF a; intro a hF
                                                  refine wl_nil ?_
                                                  refine hK23 _ _ ?_
                                                  revert hF; intro hF0; refine wc_fx (t := 24) hF0 rfl (fun c24 hF => ?_) (fun c24 hF => ?_)
                                                  ·
                                                    clear hF0; try simp only [Bool.not_eq_true', Bool.not_eq_false', Bool.or_eq_true, Bool.and_eq_true, Bool.or_eq_false_iff, Bool.and_eq_false_iff, Bool.not_eq_eq_eq_not, Bool.not_true, Bool.not_false, decide_eq_true_eq, decide_eq_false_iff_not] at c24
                                                    refine wp_seq_k fun K54 hK54 => ?_
                                                    refine wp_region_lit ?_
                                                    refine wl hF rfl rfl rfl (r_assign ec) ?_; clear hF a; intro a hF
                                                    refine wl_nil ?_
                                                    refine hK54 _ _ ?_
                                                    refine wp_ret ?_
                                                    try simp only [Exit.then, Exit.inBlock, ↓reduceIte]
                                                    refine ret1 rfl hF rfl ⟨congrArg Value.string (Eq.symm ?_), hS.old⟩
                                                    unfold nextAccess
                                                    first
                                                      | exact if_neg (by rw [c8]; decide)
                                                      | (rw [if_pos c8]; unfold accessOf
                                                         first
                                                         | exact if_pos (by rw [c15]; decide)
                                                         | (rw [if_neg (by rw [c15]; decide)]; exact if_pos (by rw [c15]; decide))
                                                         | (rw [if_neg (by rw [c24]; decide)]; exact if_pos (by rw [c24]; decide))
                                                         | rw [if_neg (by unfold swaps; simp only [List.mem_cons, List.not_mem_nil, or_false]; omega), if_neg (by unfold stores; simp only [List.mem_cons, List.not_mem_nil, or_false]; omega)])
                                                  ·
                                                    clear hF0; try simp only [Bool.not_eq_true', Bool.not_eq_false', Bool.or_eq_true, Bool.and_eq_true, Bool.or_eq_false_iff, Bool.and_eq_false_iff, Bool.not_eq_eq_eq_not, Bool.not_true, Bool.not_false, decide_eq_true_eq, decide_eq_false_iff_not] at c24
                                                    refine wp_skip ?_
                                                    simp only [Exit.then, Exit.inBlock, ↓reduceIte]
                                                    refine hK5 _ _ ?_
                                                    refine wp_seq_k fun K55 hK55 => ?_
                                                    refine wp_region_lit ?_
                                                    refine wl hF rfl rfl rfl (r_assign ec) ?_; clear hF a; intro a hF
                                                    refine wl_nil ?_
                                                    refine hK55 _ _ ?_
                                                    refine wp_ret ?_
                                                    try simp only [Exit.then, Exit.inBlock, ↓reduceIte]
                                                    refine ret1 rfl hF rfl ⟨congrArg Value.string (Eq.symm ?_), hS.old⟩
                                                    unfold nextAccess
                                                    first
                                                      | exact if_neg (by rw [c8]; decide)
                                                      | (rw [if_pos c8]; unfold accessOf
                                                         first
                                                         | exact if_pos (by rw [c15]; decide)
                                                         | (rw [if_neg (by rw [c15]; decide)]; exact if_pos (by rw [c15]; decide))
                                                         | (rw [if_neg (by rw [c24]; decide)]; exact if_pos (by rw [c24]; decide))
                                                         | rw [if_neg (by unfold swaps; simp only [List.mem_cons, List.not_mem_nil, or_false]; omega), if_neg (by unfold stores; simp only [List.mem_cons, List.not_mem_nil, or_false]; omega)])

set_option maxHeartbeats 4000000 in
set_option maxRecDepth 20000 in
theorem law_FnExactNextAccess {W : World} {s : Sl.State} {cs : List Value} (hm : stateEK.K W s cs) (hw : s.wf) {p : Int} (hp : int64 p) : Calls Try.prog 13 #[.agg cs.toArray, vi p] W (Ret fun v w' => v = .bool true ∧ Below W.heap.size W w') := by
  refine calls_fr Try.func13 rfl Try.ntmps13 rfl ?_
  intro a hF
  have hS := Sep.refl W
  obtain ⟨v0, v1, v2, rfl, r0, r1, r2⟩ := hm
  have hm : stateEK.K W s (s.encv v0 v1 v2) := ⟨_, _, _, rfl, r0, r1, r2⟩
  refine wp_seq_k fun K1 hK1 => ?_
  refine wp_region_lit ?_
  refine wl_box (cs := [_, _, _, _, _, _, _, _, _, _, _, _, _]) hF hS rfl (hF.ev rfl) rfl ?_; clear hF a; intro g1 w1 a hS_ hB_ hF; replace hS := hS_; clear hS_ hB_
  refine wl hF rfl rfl rfl (r_assign ec) ?_; clear hF a; intro a hF
  refine wl_nil ?_
  refine hK1 _ _ ?_
  refine wp_seq_k fun K2 hK2 => ?_
  refine wp_region_lit ?_
  refine wl hF rfl rfl rfl (r_assign ec) ?_; clear hF a; intro a hF
  refine wl_nil ?_
  refine hK2 _ _ ?_
  refine wp_seq_k fun K3 hK3 => ?_
  refine wp_region_lit ?_
  refine wl hF rfl rfl rfl (r_loadn ag27 (hF.ev rfl) (hS.box_rd (i := 0) rfl) sz27) ?_; clear hF a; intro a hF
  refine wl hF rfl rfl rfl (r_move (hF.ev rfl)) ?_; clear hF a; intro a hF
  refine wl_call hF rfl rfl rfl (r_call2 en27 (hF.ev rfl) (hF.ev rfl)) (szState_c (hS.k hm) (by omega) (by omega)) ?_; clear hF a; rintro v w2 a ⟨⟨r11, rfl, e1_11, e2_11, e3_11⟩, hB_⟩ hF; replace hS := hS.ext hB_; clear hB_
  refine wl hF rfl rfl rfl (r_assign (hF.ev rfl)) ?_; clear hF a; intro a hF
  refine wl_nil ?_
  refine hK3 _ _ ?_
  refine wp_seq_k fun K4 hK4 => ?_
  refine wp_seq_k fun K5 hK5 => ?_
  refine wp_region_lit ?_
  refine wl hF rfl rfl rfl (r_move (hF.ev rfl)) ?_; clear hF a; intro a hF
  refine wl hF rfl rfl rfl (r_lss (hF.ev rfl) ec) ?_; clear hF a; intro a hF
  refine wl_nil ?_
  refine hK5 _ _ ?_
  first | refine wc_dec (hF.ev rfl) (fun c13 => ?_) (fun c13 => ?_) | refine wc_ndec (hF.ev rfl) (fun c13 => ?_) (fun c13 => ?_) | refine wc_b (hF.ev rfl) (fun c13 => ?_) (fun c13 => ?_)
  ·
    refine wp_seq_k fun K6 hK6 => ?_
    refine wp_region_lit ?_
    refine wl hF rfl rfl rfl (r_assign ec) ?_; clear hF a; intro a hF
    refine wl_nil ?_
    refine hK6 _ _ ?_
    refine wp_ret ?_
    try simp only [Exit.then, Exit.inBlock, ↓reduceIte]
    exact ret1 rfl hF rfl ⟨rfl, hS.old⟩
  ·
    refine wp_skip ?_
    refine hK4 _ _ ?_
    refine wp_seq_k fun K7 hK7 => ?_
    refine wp_region_lit ?_
    refine wl hF rfl rfl rfl (r_loadn ag27 (hF.ev rfl) (hS.box_rd (i := 0) rfl) sz27) ?_; clear hF a; intro a hF
    refine wl_mk hF hS rfl rfl rfl (r_call1 en29 (hF.ev rfl)) (toState_c (hS.k hm) (by omega)) ?_; clear hF a; rintro vs15 w3 a hS_ hF; replace hS := hS_; clear hS_; dsimp only [List.cons_append, List.nil_append] at hS
    refine wl hF rfl rfl rfl (r_move (hF.ev rfl)) ?_; clear hF a; intro a hF
    refine wl_call hF rfl rfl rfl (r_call2 en49 (hF.ev rfl) (hF.ev rfl)) (specNextAccess_c (hS.part_k (i := 0) rfl) hw (by omega) hp) ?_; clear hF a; rintro v w4 a ⟨rfl, hB_⟩ hF; replace hS := hS.ext hB_; clear hB_
    refine wl hF rfl rfl rfl (r_assign (hF.ev rfl)) ?_; clear hF a; intro a hF
    refine wl_nil ?_
    refine hK7 _ _ ?_
    refine wp_seq_k fun K8 hK8 => ?_
    refine wp_region_lit ?_
    refine wl hF rfl rfl rfl (r_loadn ag27 (hF.ev rfl) (hS.box_rd (i := 1) rfl) sz27) ?_; clear hF a; intro a hF
    refine wl_mk hF hS rfl rfl rfl (r_call1 en29 (hF.ev rfl)) (toState_c (hS.k hm) (by omega)) ?_; clear hF a; rintro vs19 w5 a hS_ hF; replace hS := hS_; clear hS_; dsimp only [List.cons_append, List.nil_append] at hS
    refine wl_alloc hF hS rfl zr37 ?_; clear hF a; intro g2 w6 a hS_ hB_ hF; replace hS := hS_; clear hS_ hB_
    refine wl_storew hF hS (i := 0) rfl (hF.ev rfl) (hF.ev rfl) sz37 rfl rfl ?_; intro w7 hS_; replace hS := hS_; clear hS_; dsimp only [List.set, Nat.reduceAdd] at hS
    refine wl_nil ?_
    refine hK8 _ _ ?_
    refine wp_seq_k fun K9 hK9 => ?_
    refine wp_region_lit ?_
    refine wl hF rfl rfl rfl (r_loadn ag37 (hF.ev rfl) (hS.box_rd (i := 0) rfl) sz37) ?_; clear hF a; intro a hF
    refine wl hF rfl rfl rfl (r_move (hF.ev rfl)) ?_; clear hF a; intro a hF
    refine wl_call hF rfl rfl rfl (r_call2 en50 (hF.ev rfl) (hF.ev rfl)) (implNextAccess_c (hS.part_k (i := 1) rfl) hw (by omega) hp) ?_; clear hF a; rintro v w8 a ⟨rfl, hB_⟩ hF; replace hS := hS.ext hB_; clear hB_
    refine wl hF rfl rfl rfl (r_assign (hF.ev rfl)) ?_; clear hF a; intro a hF
    refine wl_nil ?_
    refine hK9 _ _ ?_
    refine wp_seq_k fun K10 hK10 => ?_
    refine wp_seq_k fun K11 hK11 => ?_
    refine wp_region_lit ?_
    refine wl hF rfl rfl rfl (r_move (hF.ev rfl)) ?_; clear hF a; intro a hF
    refine wl hF rfl rfl rfl (r_move (hF.ev rfl)) ?_; clear hF a; intro a hF
    refine wl hF rfl rfl rfl (r_neqs (hF.ev rfl) (hF.ev rfl)) ?_; clear hF a; intro a hF
    refine wl_nil ?_
    refine hK11 _ _ ?_
    first | refine wc_dec (hF.ev rfl) (fun c25 => ?_) (fun c25 => ?_) | refine wc_ndec (hF.ev rfl) (fun c25 => ?_) (fun c25 => ?_) | refine wc_b (hF.ev rfl) (fun c25 => ?_) (fun c25 => ?_)
    · exfalso; first | omega | exact (c25 rfl).elim | (simp_all; done)
    refine wp_skip ?_
    refine hK10 _ _ ?_
    refine wp_seq_k fun K12 hK12 => ?_
    refine wp_seq_k fun K13 hK13 => ?_
    refine wp_region_todo (is := [0, 1, 2, 3, 4]) [] [] (by kernel_rfl) hF hS ⟨trivial, by decide, by decide, by decide⟩ (by kernel_rfl) ?_; clear hF; intro hl_ wd hSd
    refine todo_quiet hl_ (by kernel_rfl) rfl rfl rfl rfl rfl (fun a w_ hF hB_ => r_loadn ag37 (hF.ev rfl) ((hSd.ext hB_).box_rd (i := 0) rfl) sz37) ?_
    refine todo_quiet hl_ (by kernel_rfl) rfl rfl rfl rfl rfl (fun a w_ hF hB_ => r_loadn ag27 (hF.ev rfl) ((hSd.ext hB_).box_rd (i := 3) rfl) sz27) ?_
    refine todo_mk hl_ rfl (by kernel_rfl) rfl rfl rfl rfl rfl (fun a w_ hF => r_call1 en29 (hF.ev rfl)) (fun w_ hS => toState_c (hS.k hm) (by omega)) ?_; rintro vs28
    refine todo_rd hl_ rfl (by kernel_rfl) rfl rfl rfl rfl rfl (fun a w_ hF => r_call2 en31 (hF.ev rfl) (hF.ev rfl)) (fun w_ hS => eqState_same (hS.part_k (i := 2) rfl) (hS.part_k (i := 0) rfl)) ?_
    refine todo_pure hl_ (by kernel_rfl) rfl rfl rfl rfl rfl (fun a w_ hF => r_not (hF.ev rfl)) ?_
    refine todo_fin hl_ rfl (by kernel_rfl) (tl := []) rfl ?_; clear hS a; intro a w9 hF hA_
    have hS := hA_.sep; clear hA_
    clear hl_; try clear hSd; try clear wd
    try dsimp only [List.cons_append, List.nil_append, List.set] at hS
    refine wl_nil ⟨rfl, ?_⟩
    refine hK13 _ _ ?_
    refine wc_false (hF.ev rfl) ?_
    refine wp_skip ?_
    refine hK12 _ _ ?_
    refine wp_seq_k fun K14 hK14 => ?_
    refine wp_region_lit ?_
    refine wl hF rfl rfl rfl (r_assign ec) ?_; clear hF a; intro a hF
    refine wl_nil ?_
    refine hK14 _ _ ?_
    refine wp_ret ?_
    try simp only [Exit.then, Exit.inBlock, ↓reduceIte]
    exact ret1 rfl hF rfl ⟨rfl, hS.old⟩

end Go.Proofs.Ythjeeimdgejlhaa.Wk
