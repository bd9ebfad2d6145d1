/- Walks: numbers within bounds, configurations. -/
import Derived.Test.YtogjnobdlliekaaChecked
import Derived.Test.YtogjnobdlliekaaFacts
namespace Go.Proofs.Ytogjnobdlliekaa.Wk
open Go Go.RowKit Sl
set_option linter.unusedVariables false
set_option linter.unusedSimpArgs false
set_option maxRecDepth 20000

set_option maxHeartbeats 4000000 in
set_option maxRecDepth 20000 in
theorem l1In_c {W : World} (x lo hi : Int) : Calls Try.prog 22 #[vi x, vi lo, vi hi] W (Ret fun v w' => v = .bool (decide (lo ≤ x ∧ x ≤ hi)) ∧ Below W.heap.size W w') := by
  refine calls_fr Try.func22 rfl Try.ntmps22 rfl ?_
  intro a hF
  have hS := Sep.refl W
  refine wp_seq_k fun K1 hK1 => ?_
  refine wp_region_lit ?_
  refine wl hF rfl rfl rfl (r_assign ec) ?_; clear hF a; intro a hF
  refine wl_nil ?_
  refine hK1 _ _ ?_
  refine wp_seq_k fun K2 hK2 => ?_
  refine wp_region_lit ?_
  refine wl hF rfl rfl rfl (r_move (hF.ev rfl)) ?_; clear hF a; intro a hF
  refine wl hF rfl rfl rfl (r_move (hF.ev rfl)) ?_; clear hF a; intro a hF
  refine wl hF rfl rfl rfl (r_geq (hF.ev rfl) (hF.ev rfl)) ?_; clear hF a; intro a hF
  refine wl hF rfl rfl rfl (r_move (hF.ev rfl)) ?_; clear hF a; intro a hF
  revert hF; intro hF0; refine bsplit (t := 10) hF0 rfl (fun b10 hF => ?_) (fun b10 hF => ?_)
  ·
    clear hF0
    try simp only [decide_eq_true_eq, decide_eq_false_iff_not, Bool.not_eq_true', Bool.not_eq_false'] at b10
    refine wl_take hF rfl rfl rfl rfl ?_
    refine wl hF rfl rfl rfl (r_move (hF.ev rfl)) ?_; clear hF a; intro a hF
    refine wl_take hF rfl rfl rfl rfl ?_
    refine wl hF rfl rfl rfl (r_move (hF.ev rfl)) ?_; clear hF a; intro a hF
    refine wl_take hF rfl rfl rfl rfl ?_
    refine wl hF rfl rfl rfl (r_leq (hF.ev rfl) (hF.ev rfl)) ?_; clear hF a; intro a hF
    refine wl hF rfl rfl rfl (r_pick_t (hF.ev rfl) (hF.ev rfl)) ?_; clear hF a; intro a hF
    refine wl hF rfl rfl rfl (r_assign (hF.ev rfl)) ?_; clear hF a; intro a hF
    refine wl_nil ?_
    refine hK2 _ _ ?_
    refine wp_ret ?_
    try simp only [Exit.then, Exit.inBlock, ↓reduceIte]
    refine ret1 rfl hF rfl ⟨?_, hS.old⟩
    first | exact congrArg Value.bool (decide_eq_decide.2 (by omega)) | exact (congrArg Value.bool (decide_eq_false (by omega))).symm | exact (congrArg Value.bool (decide_eq_true (by omega))).symm
  ·
    clear hF0
    try simp only [decide_eq_true_eq, decide_eq_false_iff_not, Bool.not_eq_true', Bool.not_eq_false'] at b10
    refine wl_skip hF rfl rfl rfl rfl rfl rfl ?_; clear hF a; intro a hF
    refine wl_skip hF rfl rfl rfl rfl rfl rfl ?_; clear hF a; intro a hF
    refine wl_skip hF rfl rfl rfl rfl rfl rfl ?_; clear hF a; intro a hF
    refine wl hF rfl rfl rfl (r_pick_f (hF.ev rfl) ec) ?_; clear hF a; intro a hF
    refine wl hF rfl rfl rfl (r_assign (hF.ev rfl)) ?_; clear hF a; intro a hF
    refine wl_nil ?_
    refine hK2 _ _ ?_
    refine wp_ret ?_
    try simp only [Exit.then, Exit.inBlock, ↓reduceIte]
    refine ret1 rfl hF rfl ⟨?_, hS.old⟩
    first | exact congrArg Value.bool (decide_eq_decide.2 (by omega)) | exact (congrArg Value.bool (decide_eq_false (by omega))).symm | exact (congrArg Value.bool (decide_eq_true (by omega))).symm

set_option maxHeartbeats 4000000 in
set_option maxRecDepth 20000 in
theorem in_c {W : World} (x lo hi : Int) : Calls Try.prog 23 #[vi x, vi lo, vi hi] W (Ret fun v w' => v = .bool (decide (lo ≤ x ∧ x ≤ hi)) ∧ Below W.heap.size W w') := by
  refine calls_fr Try.func23 rfl Try.ntmps23 rfl ?_
  intro a hF
  have hS := Sep.refl W
  refine wp_seq_k fun K1 hK1 => ?_
  refine wp_region_lit ?_
  refine wl hF rfl rfl rfl (r_assign ec) ?_; clear hF a; intro a hF
  refine wl_nil ?_
  refine hK1 _ _ ?_
  refine wp_seq_k fun K2 hK2 => ?_
  refine wp_region_lit ?_
  refine wl hF rfl rfl rfl (r_move (hF.ev rfl)) ?_; clear hF a; intro a hF
  refine wl hF rfl rfl rfl (r_move (hF.ev rfl)) ?_; clear hF a; intro a hF
  refine wl hF rfl rfl rfl (r_geq (hF.ev rfl) (hF.ev rfl)) ?_; clear hF a; intro a hF
  refine wl hF rfl rfl rfl (r_move (hF.ev rfl)) ?_; clear hF a; intro a hF
  revert hF; intro hF0; refine bsplit (t := 10) hF0 rfl (fun b10 hF => ?_) (fun b10 hF => ?_)
  ·
    clear hF0
    try simp only [decide_eq_true_eq, decide_eq_false_iff_not, Bool.not_eq_true', Bool.not_eq_false'] at b10
    refine wl_take hF rfl rfl rfl rfl ?_
    refine wl hF rfl rfl rfl (r_move (hF.ev rfl)) ?_; clear hF a; intro a hF
    refine wl_take hF rfl rfl rfl rfl ?_
    refine wl hF rfl rfl rfl (r_move (hF.ev rfl)) ?_; clear hF a; intro a hF
    refine wl_take hF rfl rfl rfl rfl ?_
    refine wl hF rfl rfl rfl (r_leq (hF.ev rfl) (hF.ev rfl)) ?_; clear hF a; intro a hF
    refine wl hF rfl rfl rfl (r_pick_t (hF.ev rfl) (hF.ev rfl)) ?_; clear hF a; intro a hF
    refine wl hF rfl rfl rfl (r_assign (hF.ev rfl)) ?_; clear hF a; intro a hF
    refine wl_nil ?_
    refine hK2 _ _ ?_
    refine wp_ret ?_
    try simp only [Exit.then, Exit.inBlock, ↓reduceIte]
    refine ret1 rfl hF rfl ⟨?_, hS.old⟩
    first | exact congrArg Value.bool (decide_eq_decide.2 (by omega)) | exact (congrArg Value.bool (decide_eq_false (by omega))).symm | exact (congrArg Value.bool (decide_eq_true (by omega))).symm
  ·
    clear hF0
    try simp only [decide_eq_true_eq, decide_eq_false_iff_not, Bool.not_eq_true', Bool.not_eq_false'] at b10
    refine wl_skip hF rfl rfl rfl rfl rfl rfl ?_; clear hF a; intro a hF
    refine wl_skip hF rfl rfl rfl rfl rfl rfl ?_; clear hF a; intro a hF
    refine wl_skip hF rfl rfl rfl rfl rfl rfl ?_; clear hF a; intro a hF
    refine wl hF rfl rfl rfl (r_pick_f (hF.ev rfl) ec) ?_; clear hF a; intro a hF
    refine wl hF rfl rfl rfl (r_assign (hF.ev rfl)) ?_; clear hF a; intro a hF
    refine wl_nil ?_
    refine hK2 _ _ ?_
    refine wp_ret ?_
    try simp only [Exit.then, Exit.inBlock, ↓reduceIte]
    refine ret1 rfl hF rfl ⟨?_, hS.old⟩
    first | exact congrArg Value.bool (decide_eq_decide.2 (by omega)) | exact (congrArg Value.bool (decide_eq_false (by omega))).symm | exact (congrArg Value.bool (decide_eq_true (by omega))).symm

set_option maxHeartbeats 4000000 in
set_option maxRecDepth 20000 in
theorem specIsConfig_c {W : World} (c : Config) : Calls Try.prog 24 #[.agg c.enc.toArray] W (Ret fun v w' => v = .bool (decide c.ok) ∧ Below W.heap.size W w') := by
  refine calls_fr Try.func24 rfl Try.ntmps24 rfl ?_
  intro a hF
  have hS := Sep.refl W
  refine wp_seq_k fun K1 hK1 => ?_
  refine wp_region_lit ?_
  refine wl_box hF hS rfl (hF.ev rfl) rfl ?_; clear hF a; intro g1 w1 a hS_ hB_ hF; replace hS := hS_; clear hS_ hB_
  refine wl hF rfl rfl rfl (r_assign ec) ?_; clear hF a; intro a hF
  refine wl_nil ?_
  refine hK1 _ _ ?_
  refine wp_seq_k fun K2 hK2 => ?_
  refine wp_region_lit ?_
  refine wl hF rfl rfl rfl (r_field fo26_0 (hF.ev rfl)) ?_; clear hF a; intro a hF
  refine wl hF rfl rfl rfl (r_load1 sc3 (hF.ev rfl) (hS.box (i := 0) rfl rfl)) ?_; clear hF a; intro a hF
  refine wl_call hF rfl rfl rfl (r_call3 en22 (hF.ev rfl) ec ec) (l1In_c _ _ _) ?_; clear hF a; rintro v w2 a ⟨rfl, hB_⟩ hF; replace hS := hS.ext hB_; clear hB_
  refine wl hF rfl rfl rfl (r_move (hF.ev rfl)) ?_; clear hF a; intro a hF
  revert hF; intro hF0; refine bsplit (t := 6) hF0 rfl (fun b6 hF => ?_) (fun b6 hF => ?_)
  ·
    clear hF0
    try simp only [decide_eq_true_eq, decide_eq_false_iff_not, Bool.not_eq_true', Bool.not_eq_false'] at b6
    refine wl_take hF rfl rfl rfl rfl ?_
    refine wl hF rfl rfl rfl (r_field fo26_1 (hF.ev rfl)) ?_; clear hF a; intro a hF
    refine wl_take hF rfl rfl rfl rfl ?_
    refine wl hF rfl rfl rfl (r_load1 sc3 (hF.ev rfl) (hS.box (i := 0) rfl rfl)) ?_; clear hF a; intro a hF
    refine wl_take hF rfl rfl rfl rfl ?_
    refine wl_call hF rfl rfl rfl (r_call3 en22 (hF.ev rfl) ec ec) (l1In_c _ _ _) ?_; clear hF a; rintro v w3 a ⟨rfl, hB_⟩ hF; replace hS := hS.ext hB_; clear hB_
    refine wl hF rfl rfl rfl (r_pick_t (hF.ev rfl) (hF.ev rfl)) ?_; clear hF a; intro a hF
    refine wl hF rfl rfl rfl (r_move (hF.ev rfl)) ?_; clear hF a; intro a hF
    revert hF; intro hF0; refine bsplit (t := 11) hF0 rfl (fun b11 hF => ?_) (fun b11 hF => ?_)
    ·
      clear hF0
      try simp only [decide_eq_true_eq, decide_eq_false_iff_not, Bool.not_eq_true', Bool.not_eq_false'] at b11
      refine wl_take hF rfl rfl rfl rfl ?_
      refine wl hF rfl rfl rfl (r_field fo26_2 (hF.ev rfl)) ?_; clear hF a; intro a hF
      refine wl_take hF rfl rfl rfl rfl ?_
      refine wl hF rfl rfl rfl (r_load1 sc3 (hF.ev rfl) (hS.box (i := 0) rfl rfl)) ?_; clear hF a; intro a hF
      refine wl_take hF rfl rfl rfl rfl ?_
      refine wl_call hF rfl rfl rfl (r_call3 en22 (hF.ev rfl) ec ec) (l1In_c _ _ _) ?_; clear hF a; rintro v w4 a ⟨rfl, hB_⟩ hF; replace hS := hS.ext hB_; clear hB_
      refine wl hF rfl rfl rfl (r_pick_t (hF.ev rfl) (hF.ev rfl)) ?_; clear hF a; intro a hF
      refine wl hF rfl rfl rfl (r_move (hF.ev rfl)) ?_; clear hF a; intro a hF
      revert hF; intro hF0; refine bsplit (t := 16) hF0 rfl (fun b16 hF => ?_) (fun b16 hF => ?_)
      ·
        clear hF0
        try simp only [decide_eq_true_eq, decide_eq_false_iff_not, Bool.not_eq_true', Bool.not_eq_false'] at b16
        refine wl_take hF rfl rfl rfl rfl ?_
        refine wl hF rfl rfl rfl (r_field fo26_3 (hF.ev rfl)) ?_; clear hF a; intro a hF
        refine wl_take hF rfl rfl rfl rfl ?_
        refine wl hF rfl rfl rfl (r_load1 sc3 (hF.ev rfl) (hS.box (i := 0) rfl rfl)) ?_; clear hF a; intro a hF
        refine wl_take hF rfl rfl rfl rfl ?_
        refine wl_call hF rfl rfl rfl (r_call3 en22 (hF.ev rfl) ec ec) (l1In_c _ _ _) ?_; clear hF a; rintro v w5 a ⟨rfl, hB_⟩ hF; replace hS := hS.ext hB_; clear hB_
        refine wl hF rfl rfl rfl (r_pick_t (hF.ev rfl) (hF.ev rfl)) ?_; clear hF a; intro a hF
        refine wl hF rfl rfl rfl (r_move (hF.ev rfl)) ?_; clear hF a; intro a hF
        revert hF; intro hF0; refine bsplit (t := 21) hF0 rfl (fun b21 hF => ?_) (fun b21 hF => ?_)
        ·
          clear hF0
          try simp only [decide_eq_true_eq, decide_eq_false_iff_not, Bool.not_eq_true', Bool.not_eq_false'] at b21
          refine wl_take hF rfl rfl rfl rfl ?_
          refine wl hF rfl rfl rfl (r_field fo26_4 (hF.ev rfl)) ?_; clear hF a; intro a hF
          refine wl_take hF rfl rfl rfl rfl ?_
          refine wl hF rfl rfl rfl (r_load1 sc3 (hF.ev rfl) (hS.box (i := 0) rfl rfl)) ?_; clear hF a; intro a hF
          refine wl_take hF rfl rfl rfl rfl ?_
          refine wl_call hF rfl rfl rfl (r_call3 en22 (hF.ev rfl) ec ec) (l1In_c _ _ _) ?_; clear hF a; rintro v w6 a ⟨rfl, hB_⟩ hF; replace hS := hS.ext hB_; clear hB_
          refine wl hF rfl rfl rfl (r_pick_t (hF.ev rfl) (hF.ev rfl)) ?_; clear hF a; intro a hF
          refine wl hF rfl rfl rfl (r_move (hF.ev rfl)) ?_; clear hF a; intro a hF
          revert hF; intro hF0; refine bsplit (t := 26) hF0 rfl (fun b26 hF => ?_) (fun b26 hF => ?_)
          ·
            clear hF0
            try simp only [decide_eq_true_eq, decide_eq_false_iff_not, Bool.not_eq_true', Bool.not_eq_false'] at b26
            refine wl_take hF rfl rfl rfl rfl ?_
            refine wl hF rfl rfl rfl (r_field fo26_5 (hF.ev rfl)) ?_; clear hF a; intro a hF
            refine wl_take hF rfl rfl rfl rfl ?_
            refine wl hF rfl rfl rfl (r_load1 sc3 (hF.ev rfl) (hS.box (i := 0) rfl rfl)) ?_; clear hF a; intro a hF
            refine wl_take hF rfl rfl rfl rfl ?_
            refine wl_call hF rfl rfl rfl (r_call3 en22 (hF.ev rfl) ec ec) (l1In_c _ _ _) ?_; clear hF a; rintro v w7 a ⟨rfl, hB_⟩ hF; replace hS := hS.ext hB_; clear hB_
            refine wl hF rfl rfl rfl (r_pick_t (hF.ev rfl) (hF.ev rfl)) ?_; clear hF a; intro a hF
            refine wl hF rfl rfl rfl (r_assign (hF.ev rfl)) ?_; clear hF a; intro a hF
            refine wl_nil ?_
            refine hK2 _ _ ?_
            refine wp_ret ?_
            try simp only [Exit.then, Exit.inBlock, ↓reduceIte]
            refine ret1 rfl hF rfl ⟨?_, hS.old⟩
            first | exact congrArg Value.bool (decide_eq_decide.2 (by unfold Config.ok; omega)) | exact (congrArg Value.bool (decide_eq_false (by unfold Config.ok; omega))).symm | exact (congrArg Value.bool (decide_eq_true (by unfold Config.ok; omega))).symm
          ·
            clear hF0
            try simp only [decide_eq_true_eq, decide_eq_false_iff_not, Bool.not_eq_true', Bool.not_eq_false'] at b26
            refine wl_skip hF rfl rfl rfl rfl rfl rfl ?_; clear hF a; intro a hF
            refine wl_skip hF rfl rfl rfl rfl rfl rfl ?_; clear hF a; intro a hF
            refine wl_skip hF rfl rfl rfl rfl rfl rfl ?_; clear hF a; intro a hF
            refine wl hF rfl rfl rfl (r_pick_f (hF.ev rfl) ec) ?_; clear hF a; intro a hF
            refine wl hF rfl rfl rfl (r_assign (hF.ev rfl)) ?_; clear hF a; intro a hF
            refine wl_nil ?_
            refine hK2 _ _ ?_
            refine wp_ret ?_
            try simp only [Exit.then, Exit.inBlock, ↓reduceIte]
            refine ret1 rfl hF rfl ⟨?_, hS.old⟩
            first | exact congrArg Value.bool (decide_eq_decide.2 (by unfold Config.ok; omega)) | exact (congrArg Value.bool (decide_eq_false (by unfold Config.ok; omega))).symm | exact (congrArg Value.bool (decide_eq_true (by unfold Config.ok; omega))).symm
        ·
          clear hF0
          try simp only [decide_eq_true_eq, decide_eq_false_iff_not, Bool.not_eq_true', Bool.not_eq_false'] at b21
          refine wl_skip hF rfl rfl rfl rfl rfl rfl ?_; clear hF a; intro a hF
          refine wl_skip hF rfl rfl rfl rfl rfl rfl ?_; clear hF a; intro a hF
          refine wl_skip hF rfl rfl rfl rfl rfl rfl ?_; clear hF a; intro a hF
          refine wl hF rfl rfl rfl (r_pick_f (hF.ev rfl) ec) ?_; clear hF a; intro a hF
          refine wl hF rfl rfl rfl (r_move (hF.ev rfl)) ?_; clear hF a; intro a hF
          refine wl_skip hF rfl rfl rfl rfl rfl rfl ?_; clear hF a; intro a hF
          refine wl_skip hF rfl rfl rfl rfl rfl rfl ?_; clear hF a; intro a hF
          refine wl_skip hF rfl rfl rfl rfl rfl rfl ?_; clear hF a; intro a hF
          refine wl hF rfl rfl rfl (r_pick_f (hF.ev rfl) ec) ?_; clear hF a; intro a hF
          refine wl hF rfl rfl rfl (r_assign (hF.ev rfl)) ?_; clear hF a; intro a hF
          refine wl_nil ?_
          refine hK2 _ _ ?_
          refine wp_ret ?_
          try simp only [Exit.then, Exit.inBlock, ↓reduceIte]
          refine ret1 rfl hF rfl ⟨?_, hS.old⟩
          first | exact congrArg Value.bool (decide_eq_decide.2 (by unfold Config.ok; omega)) | exact (congrArg Value.bool (decide_eq_false (by unfold Config.ok; omega))).symm | exact (congrArg Value.bool (decide_eq_true (by unfold Config.ok; omega))).symm
      ·
        clear hF0
        try simp only [decide_eq_true_eq, decide_eq_false_iff_not, Bool.not_eq_true', Bool.not_eq_false'] at b16
        refine wl_skip hF rfl rfl rfl rfl rfl rfl ?_; clear hF a; intro a hF
        refine wl_skip hF rfl rfl rfl rfl rfl rfl ?_; clear hF a; intro a hF
        refine wl_skip hF rfl rfl rfl rfl rfl rfl ?_; clear hF a; intro a hF
        refine wl hF rfl rfl rfl (r_pick_f (hF.ev rfl) ec) ?_; clear hF a; intro a hF
        refine wl hF rfl rfl rfl (r_move (hF.ev rfl)) ?_; clear hF a; intro a hF
        refine wl_skip hF rfl rfl rfl rfl rfl rfl ?_; clear hF a; intro a hF
        refine wl_skip hF rfl rfl rfl rfl rfl rfl ?_; clear hF a; intro a hF
        refine wl_skip hF rfl rfl rfl rfl rfl rfl ?_; clear hF a; intro a hF
        refine wl hF rfl rfl rfl (r_pick_f (hF.ev rfl) ec) ?_; clear hF a; intro a hF
        refine wl hF rfl rfl rfl (r_move (hF.ev rfl)) ?_; clear hF a; intro a hF
        refine wl_skip hF rfl rfl rfl rfl rfl rfl ?_; clear hF a; intro a hF
        refine wl_skip hF rfl rfl rfl rfl rfl rfl ?_; clear hF a; intro a hF
        refine wl_skip hF rfl rfl rfl rfl rfl rfl ?_; clear hF a; intro a hF
        refine wl hF rfl rfl rfl (r_pick_f (hF.ev rfl) ec) ?_; clear hF a; intro a hF
        refine wl hF rfl rfl rfl (r_assign (hF.ev rfl)) ?_; clear hF a; intro a hF
        refine wl_nil ?_
        refine hK2 _ _ ?_
        refine wp_ret ?_
        try simp only [Exit.then, Exit.inBlock, ↓reduceIte]
        refine ret1 rfl hF rfl ⟨?_, hS.old⟩
        first | exact congrArg Value.bool (decide_eq_decide.2 (by unfold Config.ok; omega)) | exact (congrArg Value.bool (decide_eq_false (by unfold Config.ok; omega))).symm | exact (congrArg Value.bool (decide_eq_true (by unfold Config.ok; omega))).symm
    ·
      clear hF0
      try simp only [decide_eq_true_eq, decide_eq_false_iff_not, Bool.not_eq_true', Bool.not_eq_false'] at b11
      refine wl_skip hF rfl rfl rfl rfl rfl rfl ?_; clear hF a; intro a hF
      refine wl_skip hF rfl rfl rfl rfl rfl rfl ?_; clear hF a; intro a hF
      refine wl_skip hF rfl rfl rfl rfl rfl rfl ?_; clear hF a; intro a hF
      refine wl hF rfl rfl rfl (r_pick_f (hF.ev rfl) ec) ?_; clear hF a; intro a hF
      refine wl hF rfl rfl rfl (r_move (hF.ev rfl)) ?_; clear hF a; intro a hF
      refine wl_skip hF rfl rfl rfl rfl rfl rfl ?_; clear hF a; intro a hF
      refine wl_skip hF rfl rfl rfl rfl rfl rfl ?_; clear hF a; intro a hF
      refine wl_skip hF rfl rfl rfl rfl rfl rfl ?_; clear hF a; intro a hF
      refine wl hF rfl rfl rfl (r_pick_f (hF.ev rfl) ec) ?_; clear hF a; intro a hF
      refine wl hF rfl rfl rfl (r_move (hF.ev rfl)) ?_; clear hF a; intro a hF
      refine wl_skip hF rfl rfl rfl rfl rfl rfl ?_; clear hF a; intro a hF
      refine wl_skip hF rfl rfl rfl rfl rfl rfl ?_; clear hF a; intro a hF
      refine wl_skip hF rfl rfl rfl rfl rfl rfl ?_; clear hF a; intro a hF
      refine wl hF rfl rfl rfl (r_pick_f (hF.ev rfl) ec) ?_; clear hF a; intro a hF
      refine wl hF rfl rfl rfl (r_move (hF.ev rfl)) ?_; clear hF a; intro a hF
      refine wl_skip hF rfl rfl rfl rfl rfl rfl ?_; clear hF a; intro a hF
      refine wl_skip hF rfl rfl rfl rfl rfl rfl ?_; clear hF a; intro a hF
      refine wl_skip hF rfl rfl rfl rfl rfl rfl ?_; clear hF a; intro a hF
      refine wl hF rfl rfl rfl (r_pick_f (hF.ev rfl) ec) ?_; clear hF a; intro a hF
      refine wl hF rfl rfl rfl (r_assign (hF.ev rfl)) ?_; clear hF a; intro a hF
      refine wl_nil ?_
      refine hK2 _ _ ?_
      refine wp_ret ?_
      try simp only [Exit.then, Exit.inBlock, ↓reduceIte]
      refine ret1 rfl hF rfl ⟨?_, hS.old⟩
      first | exact congrArg Value.bool (decide_eq_decide.2 (by unfold Config.ok; omega)) | exact (congrArg Value.bool (decide_eq_false (by unfold Config.ok; omega))).symm | exact (congrArg Value.bool (decide_eq_true (by unfold Config.ok; omega))).symm
  ·
    clear hF0
    try simp only [decide_eq_true_eq, decide_eq_false_iff_not, Bool.not_eq_true', Bool.not_eq_false'] at b6
    refine wl_skip hF rfl rfl rfl rfl rfl rfl ?_; clear hF a; intro a hF
    refine wl_skip hF rfl rfl rfl rfl rfl rfl ?_; clear hF a; intro a hF
    refine wl_skip hF rfl rfl rfl rfl rfl rfl ?_; clear hF a; intro a hF
    refine wl hF rfl rfl rfl (r_pick_f (hF.ev rfl) ec) ?_; clear hF a; intro a hF
    refine wl hF rfl rfl rfl (r_move (hF.ev rfl)) ?_; clear hF a; intro a hF
    refine wl_skip hF rfl rfl rfl rfl rfl rfl ?_; clear hF a; intro a hF
    refine wl_skip hF rfl rfl rfl rfl rfl rfl ?_; clear hF a; intro a hF
    refine wl_skip hF rfl rfl rfl rfl rfl rfl ?_; clear hF a; intro a hF
    refine wl hF rfl rfl rfl (r_pick_f (hF.ev rfl) ec) ?_; clear hF a; intro a hF
    refine wl hF rfl rfl rfl (r_move (hF.ev rfl)) ?_; clear hF a; intro a hF
    refine wl_skip hF rfl rfl rfl rfl rfl rfl ?_; clear hF a; intro a hF
    refine wl_skip hF rfl rfl rfl rfl rfl rfl ?_; clear hF a; intro a hF
    refine wl_skip hF rfl rfl rfl rfl rfl rfl ?_; clear hF a; intro a hF
    refine wl hF rfl rfl rfl (r_pick_f (hF.ev rfl) ec) ?_; clear hF a; intro a hF
    refine wl hF rfl rfl rfl (r_move (hF.ev rfl)) ?_; clear hF a; intro a hF
    refine wl_skip hF rfl rfl rfl rfl rfl rfl ?_; clear hF a; intro a hF
    refine wl_skip hF rfl rfl rfl rfl rfl rfl ?_; clear hF a; intro a hF
    refine wl_skip hF rfl rfl rfl rfl rfl rfl ?_; clear hF a; intro a hF
    refine wl hF rfl rfl rfl (r_pick_f (hF.ev rfl) ec) ?_; clear hF a; intro a hF
    refine wl hF rfl rfl rfl (r_move (hF.ev rfl)) ?_; clear hF a; intro a hF
    refine wl_skip hF rfl rfl rfl rfl rfl rfl ?_; clear hF a; intro a hF
    refine wl_skip hF rfl rfl rfl rfl rfl rfl ?_; clear hF a; intro a hF
    refine wl_skip hF rfl rfl rfl rfl rfl rfl ?_; clear hF a; intro a hF
    refine wl hF rfl rfl rfl (r_pick_f (hF.ev rfl) ec) ?_; clear hF a; intro a hF
    refine wl hF rfl rfl rfl (r_assign (hF.ev rfl)) ?_; clear hF a; intro a hF
    refine wl_nil ?_
    refine hK2 _ _ ?_
    refine wp_ret ?_
    try simp only [Exit.then, Exit.inBlock, ↓reduceIte]
    refine ret1 rfl hF rfl ⟨?_, hS.old⟩
    first | exact congrArg Value.bool (decide_eq_decide.2 (by unfold Config.ok; omega)) | exact (congrArg Value.bool (decide_eq_false (by unfold Config.ok; omega))).symm | exact (congrArg Value.bool (decide_eq_true (by unfold Config.ok; omega))).symm

set_option maxHeartbeats 4000000 in
set_option maxRecDepth 20000 in
theorem implIsConfig_c {W : World} (c : Config) : Calls Try.prog 25 #[.agg c.enc.toArray] W (Ret fun v w' => v = .bool (decide c.ok) ∧ Below W.heap.size W w') := by
  refine calls_fr Try.func25 rfl Try.ntmps25 rfl ?_
  intro a hF
  have hS := Sep.refl W
  refine wp_seq_k fun K1 hK1 => ?_
  refine wp_region_lit ?_
  refine wl_box hF hS rfl (hF.ev rfl) rfl ?_; clear hF a; intro g1 w1 a hS_ hB_ hF; replace hS := hS_; clear hS_ hB_
  refine wl hF rfl rfl rfl (r_assign ec) ?_; clear hF a; intro a hF
  refine wl_nil ?_
  refine hK1 _ _ ?_
  refine wp_seq_k fun K2 hK2 => ?_
  refine wp_region_lit ?_
  refine wl hF rfl rfl rfl (r_field fo26_0 (hF.ev rfl)) ?_; clear hF a; intro a hF
  refine wl hF rfl rfl rfl (r_load1 sc3 (hF.ev rfl) (hS.box (i := 0) rfl rfl)) ?_; clear hF a; intro a hF
  refine wl_call hF rfl rfl rfl (r_call3 en23 (hF.ev rfl) ec ec) (in_c _ _ _) ?_; clear hF a; rintro v w2 a ⟨rfl, hB_⟩ hF; replace hS := hS.ext hB_; clear hB_
  refine wl hF rfl rfl rfl (r_move (hF.ev rfl)) ?_; clear hF a; intro a hF
  revert hF; intro hF0; refine bsplit (t := 6) hF0 rfl (fun b6 hF => ?_) (fun b6 hF => ?_)
  ·
    clear hF0
    try simp only [decide_eq_true_eq, decide_eq_false_iff_not, Bool.not_eq_true', Bool.not_eq_false'] at b6
    refine wl_take hF rfl rfl rfl rfl ?_
    refine wl hF rfl rfl rfl (r_field fo26_1 (hF.ev rfl)) ?_; clear hF a; intro a hF
    refine wl_take hF rfl rfl rfl rfl ?_
    refine wl hF rfl rfl rfl (r_load1 sc3 (hF.ev rfl) (hS.box (i := 0) rfl rfl)) ?_; clear hF a; intro a hF
    refine wl_take hF rfl rfl rfl rfl ?_
    refine wl_call hF rfl rfl rfl (r_call3 en23 (hF.ev rfl) ec ec) (in_c _ _ _) ?_; clear hF a; rintro v w3 a ⟨rfl, hB_⟩ hF; replace hS := hS.ext hB_; clear hB_
    refine wl hF rfl rfl rfl (r_pick_t (hF.ev rfl) (hF.ev rfl)) ?_; clear hF a; intro a hF
    refine wl hF rfl rfl rfl (r_move (hF.ev rfl)) ?_; clear hF a; intro a hF
    revert hF; intro hF0; refine bsplit (t := 11) hF0 rfl (fun b11 hF => ?_) (fun b11 hF => ?_)
    ·
      clear hF0
      try simp only [decide_eq_true_eq, decide_eq_false_iff_not, Bool.not_eq_true', Bool.not_eq_false'] at b11
      refine wl_take hF rfl rfl rfl rfl ?_
      refine wl hF rfl rfl rfl (r_field fo26_3 (hF.ev rfl)) ?_; clear hF a; intro a hF
      refine wl_take hF rfl rfl rfl rfl ?_
      refine wl hF rfl rfl rfl (r_load1 sc3 (hF.ev rfl) (hS.box (i := 0) rfl rfl)) ?_; clear hF a; intro a hF
      refine wl_take hF rfl rfl rfl rfl ?_
      refine wl_call hF rfl rfl rfl (r_call3 en23 (hF.ev rfl) ec ec) (in_c _ _ _) ?_; clear hF a; rintro v w4 a ⟨rfl, hB_⟩ hF; replace hS := hS.ext hB_; clear hB_
      refine wl hF rfl rfl rfl (r_pick_t (hF.ev rfl) (hF.ev rfl)) ?_; clear hF a; intro a hF
      refine wl hF rfl rfl rfl (r_move (hF.ev rfl)) ?_; clear hF a; intro a hF
      revert hF; intro hF0; refine bsplit (t := 16) hF0 rfl (fun b16 hF => ?_) (fun b16 hF => ?_)
      ·
        clear hF0
        try simp only [decide_eq_true_eq, decide_eq_false_iff_not, Bool.not_eq_true', Bool.not_eq_false'] at b16
        refine wl_take hF rfl rfl rfl rfl ?_
        refine wl hF rfl rfl rfl (r_field fo26_2 (hF.ev rfl)) ?_; clear hF a; intro a hF
        refine wl_take hF rfl rfl rfl rfl ?_
        refine wl hF rfl rfl rfl (r_load1 sc3 (hF.ev rfl) (hS.box (i := 0) rfl rfl)) ?_; clear hF a; intro a hF
        refine wl_take hF rfl rfl rfl rfl ?_
        refine wl_call hF rfl rfl rfl (r_call3 en23 (hF.ev rfl) ec ec) (in_c _ _ _) ?_; clear hF a; rintro v w5 a ⟨rfl, hB_⟩ hF; replace hS := hS.ext hB_; clear hB_
        refine wl hF rfl rfl rfl (r_pick_t (hF.ev rfl) (hF.ev rfl)) ?_; clear hF a; intro a hF
        refine wl hF rfl rfl rfl (r_move (hF.ev rfl)) ?_; clear hF a; intro a hF
        revert hF; intro hF0; refine bsplit (t := 21) hF0 rfl (fun b21 hF => ?_) (fun b21 hF => ?_)
        ·
          clear hF0
          try simp only [decide_eq_true_eq, decide_eq_false_iff_not, Bool.not_eq_true', Bool.not_eq_false'] at b21
          refine wl_take hF rfl rfl rfl rfl ?_
          refine wl hF rfl rfl rfl (r_field fo26_4 (hF.ev rfl)) ?_; clear hF a; intro a hF
          refine wl_take hF rfl rfl rfl rfl ?_
          refine wl hF rfl rfl rfl (r_load1 sc3 (hF.ev rfl) (hS.box (i := 0) rfl rfl)) ?_; clear hF a; intro a hF
          refine wl_take hF rfl rfl rfl rfl ?_
          refine wl_call hF rfl rfl rfl (r_call3 en23 (hF.ev rfl) ec ec) (in_c _ _ _) ?_; clear hF a; rintro v w6 a ⟨rfl, hB_⟩ hF; replace hS := hS.ext hB_; clear hB_
          refine wl hF rfl rfl rfl (r_pick_t (hF.ev rfl) (hF.ev rfl)) ?_; clear hF a; intro a hF
          refine wl hF rfl rfl rfl (r_move (hF.ev rfl)) ?_; clear hF a; intro a hF
          revert hF; intro hF0; refine bsplit (t := 26) hF0 rfl (fun b26 hF => ?_) (fun b26 hF => ?_)
          ·
            clear hF0
            try simp only [decide_eq_true_eq, decide_eq_false_iff_not, Bool.not_eq_true', Bool.not_eq_false'] at b26
            refine wl_take hF rfl rfl rfl rfl ?_
            refine wl hF rfl rfl rfl (r_field fo26_5 (hF.ev rfl)) ?_; clear hF a; intro a hF
            refine wl_take hF rfl rfl rfl rfl ?_
            refine wl hF rfl rfl rfl (r_load1 sc3 (hF.ev rfl) (hS.box (i := 0) rfl rfl)) ?_; clear hF a; intro a hF
            refine wl_take hF rfl rfl rfl rfl ?_
            refine wl_call hF rfl rfl rfl (r_call3 en23 (hF.ev rfl) ec ec) (in_c _ _ _) ?_; clear hF a; rintro v w7 a ⟨rfl, hB_⟩ hF; replace hS := hS.ext hB_; clear hB_
            refine wl hF rfl rfl rfl (r_pick_t (hF.ev rfl) (hF.ev rfl)) ?_; clear hF a; intro a hF
            refine wl hF rfl rfl rfl (r_assign (hF.ev rfl)) ?_; clear hF a; intro a hF
            refine wl_nil ?_
            refine hK2 _ _ ?_
            refine wp_ret ?_
            try simp only [Exit.then, Exit.inBlock, ↓reduceIte]
            refine ret1 rfl hF rfl ⟨?_, hS.old⟩
            first | exact congrArg Value.bool (decide_eq_decide.2 (by unfold Config.ok; omega)) | exact (congrArg Value.bool (decide_eq_false (by unfold Config.ok; omega))).symm | exact (congrArg Value.bool (decide_eq_true (by unfold Config.ok; omega))).symm
          ·
            clear hF0
            try simp only [decide_eq_true_eq, decide_eq_false_iff_not, Bool.not_eq_true', Bool.not_eq_false'] at b26
            refine wl_skip hF rfl rfl rfl rfl rfl rfl ?_; clear hF a; intro a hF
            refine wl_skip hF rfl rfl rfl rfl rfl rfl ?_; clear hF a; intro a hF
            refine wl_skip hF rfl rfl rfl rfl rfl rfl ?_; clear hF a; intro a hF
            refine wl hF rfl rfl rfl (r_pick_f (hF.ev rfl) ec) ?_; clear hF a; intro a hF
            refine wl hF rfl rfl rfl (r_assign (hF.ev rfl)) ?_; clear hF a; intro a hF
            refine wl_nil ?_
            refine hK2 _ _ ?_
            refine wp_ret ?_
            try simp only [Exit.then, Exit.inBlock, ↓reduceIte]
            refine ret1 rfl hF rfl ⟨?_, hS.old⟩
            first | exact congrArg Value.bool (decide_eq_decide.2 (by unfold Config.ok; omega)) | exact (congrArg Value.bool (decide_eq_false (by unfold Config.ok; omega))).symm | exact (congrArg Value.bool (decide_eq_true (by unfold Config.ok; omega))).symm
        ·
          clear hF0
          try simp only [decide_eq_true_eq, decide_eq_false_iff_not, Bool.not_eq_true', Bool.not_eq_false'] at b21
          refine wl_skip hF rfl rfl rfl rfl rfl rfl ?_; clear hF a; intro a hF
          refine wl_skip hF rfl rfl rfl rfl rfl rfl ?_; clear hF a; intro a hF
          refine wl_skip hF rfl rfl rfl rfl rfl rfl ?_; clear hF a; intro a hF
          refine wl hF rfl rfl rfl (r_pick_f (hF.ev rfl) ec) ?_; clear hF a; intro a hF
          refine wl hF rfl rfl rfl (r_move (hF.ev rfl)) ?_; clear hF a; intro a hF
          refine wl_skip hF rfl rfl rfl rfl rfl rfl ?_; clear hF a; intro a hF
          refine wl_skip hF rfl rfl rfl rfl rfl rfl ?_; clear hF a; intro a hF
          refine wl_skip hF rfl rfl rfl rfl rfl rfl ?_; clear hF a; intro a hF
          refine wl hF rfl rfl rfl (r_pick_f (hF.ev rfl) ec) ?_; clear hF a; intro a hF
          refine wl hF rfl rfl rfl (r_assign (hF.ev rfl)) ?_; clear hF a; intro a hF
          refine wl_nil ?_
          refine hK2 _ _ ?_
          refine wp_ret ?_
          try simp only [Exit.then, Exit.inBlock, ↓reduceIte]
          refine ret1 rfl hF rfl ⟨?_, hS.old⟩
          first | exact congrArg Value.bool (decide_eq_decide.2 (by unfold Config.ok; omega)) | exact (congrArg Value.bool (decide_eq_false (by unfold Config.ok; omega))).symm | exact (congrArg Value.bool (decide_eq_true (by unfold Config.ok; omega))).symm
      ·
        clear hF0
        try simp only [decide_eq_true_eq, decide_eq_false_iff_not, Bool.not_eq_true', Bool.not_eq_false'] at b16
        refine wl_skip hF rfl rfl rfl rfl rfl rfl ?_; clear hF a; intro a hF
        refine wl_skip hF rfl rfl rfl rfl rfl rfl ?_; clear hF a; intro a hF
        refine wl_skip hF rfl rfl rfl rfl rfl rfl ?_; clear hF a; intro a hF
        refine wl hF rfl rfl rfl (r_pick_f (hF.ev rfl) ec) ?_; clear hF a; intro a hF
        refine wl hF rfl rfl rfl (r_move (hF.ev rfl)) ?_; clear hF a; intro a hF
        refine wl_skip hF rfl rfl rfl rfl rfl rfl ?_; clear hF a; intro a hF
        refine wl_skip hF rfl rfl rfl rfl rfl rfl ?_; clear hF a; intro a hF
        refine wl_skip hF rfl rfl rfl rfl rfl rfl ?_; clear hF a; intro a hF
        refine wl hF rfl rfl rfl (r_pick_f (hF.ev rfl) ec) ?_; clear hF a; intro a hF
        refine wl hF rfl rfl rfl (r_move (hF.ev rfl)) ?_; clear hF a; intro a hF
        refine wl_skip hF rfl rfl rfl rfl rfl rfl ?_; clear hF a; intro a hF
        refine wl_skip hF rfl rfl rfl rfl rfl rfl ?_; clear hF a; intro a hF
        refine wl_skip hF rfl rfl rfl rfl rfl rfl ?_; clear hF a; intro a hF
        refine wl hF rfl rfl rfl (r_pick_f (hF.ev rfl) ec) ?_; clear hF a; intro a hF
        refine wl hF rfl rfl rfl (r_assign (hF.ev rfl)) ?_; clear hF a; intro a hF
        refine wl_nil ?_
        refine hK2 _ _ ?_
        refine wp_ret ?_
        try simp only [Exit.then, Exit.inBlock, ↓reduceIte]
        refine ret1 rfl hF rfl ⟨?_, hS.old⟩
        first | exact congrArg Value.bool (decide_eq_decide.2 (by unfold Config.ok; omega)) | exact (congrArg Value.bool (decide_eq_false (by unfold Config.ok; omega))).symm | exact (congrArg Value.bool (decide_eq_true (by unfold Config.ok; omega))).symm
    ·
      clear hF0
      try simp only [decide_eq_true_eq, decide_eq_false_iff_not, Bool.not_eq_true', Bool.not_eq_false'] at b11
      refine wl_skip hF rfl rfl rfl rfl rfl rfl ?_; clear hF a; intro a hF
      refine wl_skip hF rfl rfl rfl rfl rfl rfl ?_; clear hF a; intro a hF
      refine wl_skip hF rfl rfl rfl rfl rfl rfl ?_; clear hF a; intro a hF
      refine wl hF rfl rfl rfl (r_pick_f (hF.ev rfl) ec) ?_; clear hF a; intro a hF
      refine wl hF rfl rfl rfl (r_move (hF.ev rfl)) ?_; clear hF a; intro a hF
      refine wl_skip hF rfl rfl rfl rfl rfl rfl ?_; clear hF a; intro a hF
      refine wl_skip hF rfl rfl rfl rfl rfl rfl ?_; clear hF a; intro a hF
      refine wl_skip hF rfl rfl rfl rfl rfl rfl ?_; clear hF a; intro a hF
      refine wl hF rfl rfl rfl (r_pick_f (hF.ev rfl) ec) ?_; clear hF a; intro a hF
      refine wl hF rfl rfl rfl (r_move (hF.ev rfl)) ?_; clear hF a; intro a hF
      refine wl_skip hF rfl rfl rfl rfl rfl rfl ?_; clear hF a; intro a hF
      refine wl_skip hF rfl rfl rfl rfl rfl rfl ?_; clear hF a; intro a hF
      refine wl_skip hF rfl rfl rfl rfl rfl rfl ?_; clear hF a; intro a hF
      refine wl hF rfl rfl rfl (r_pick_f (hF.ev rfl) ec) ?_; clear hF a; intro a hF
      refine wl hF rfl rfl rfl (r_move (hF.ev rfl)) ?_; clear hF a; intro a hF
      refine wl_skip hF rfl rfl rfl rfl rfl rfl ?_; clear hF a; intro a hF
      refine wl_skip hF rfl rfl rfl rfl rfl rfl ?_; clear hF a; intro a hF
      refine wl_skip hF rfl rfl rfl rfl rfl rfl ?_; clear hF a; intro a hF
      refine wl hF rfl rfl rfl (r_pick_f (hF.ev rfl) ec) ?_; clear hF a; intro a hF
      refine wl hF rfl rfl rfl (r_assign (hF.ev rfl)) ?_; clear hF a; intro a hF
      refine wl_nil ?_
      refine hK2 _ _ ?_
      refine wp_ret ?_
      try simp only [Exit.then, Exit.inBlock, ↓reduceIte]
      refine ret1 rfl hF rfl ⟨?_, hS.old⟩
      first | exact congrArg Value.bool (decide_eq_decide.2 (by unfold Config.ok; omega)) | exact (congrArg Value.bool (decide_eq_false (by unfold Config.ok; omega))).symm | exact (congrArg Value.bool (decide_eq_true (by unfold Config.ok; omega))).symm
  ·
    clear hF0
    try simp only [decide_eq_true_eq, decide_eq_false_iff_not, Bool.not_eq_true', Bool.not_eq_false'] at b6
    refine wl_skip hF rfl rfl rfl rfl rfl rfl ?_; clear hF a; intro a hF
    refine wl_skip hF rfl rfl rfl rfl rfl rfl ?_; clear hF a; intro a hF
    refine wl_skip hF rfl rfl rfl rfl rfl rfl ?_; clear hF a; intro a hF
    refine wl hF rfl rfl rfl (r_pick_f (hF.ev rfl) ec) ?_; clear hF a; intro a hF
    refine wl hF rfl rfl rfl (r_move (hF.ev rfl)) ?_; clear hF a; intro a hF
    refine wl_skip hF rfl rfl rfl rfl rfl rfl ?_; clear hF a; intro a hF
    refine wl_skip hF rfl rfl rfl rfl rfl rfl ?_; clear hF a; intro a hF
    refine wl_skip hF rfl rfl rfl rfl rfl rfl ?_; clear hF a; intro a hF
    refine wl hF rfl rfl rfl (r_pick_f (hF.ev rfl) ec) ?_; clear hF a; intro a hF
    refine wl hF rfl rfl rfl (r_move (hF.ev rfl)) ?_; clear hF a; intro a hF
    refine wl_skip hF rfl rfl rfl rfl rfl rfl ?_; clear hF a; intro a hF
    refine wl_skip hF rfl rfl rfl rfl rfl rfl ?_; clear hF a; intro a hF
    refine wl_skip hF rfl rfl rfl rfl rfl rfl ?_; clear hF a; intro a hF
    refine wl hF rfl rfl rfl (r_pick_f (hF.ev rfl) ec) ?_; clear hF a; intro a hF
    refine wl hF rfl rfl rfl (r_move (hF.ev rfl)) ?_; clear hF a; intro a hF
    refine wl_skip hF rfl rfl rfl rfl rfl rfl ?_; clear hF a; intro a hF
    refine wl_skip hF rfl rfl rfl rfl rfl rfl ?_; clear hF a; intro a hF
    refine wl_skip hF rfl rfl rfl rfl rfl rfl ?_; clear hF a; intro a hF
    refine wl hF rfl rfl rfl (r_pick_f (hF.ev rfl) ec) ?_; clear hF a; intro a hF
    refine wl hF rfl rfl rfl (r_move (hF.ev rfl)) ?_; clear hF a; intro a hF
    refine wl_skip hF rfl rfl rfl rfl rfl rfl ?_; clear hF a; intro a hF
    refine wl_skip hF rfl rfl rfl rfl rfl rfl ?_; clear hF a; intro a hF
    refine wl_skip hF rfl rfl rfl rfl rfl rfl ?_; clear hF a; intro a hF
    refine wl hF rfl rfl rfl (r_pick_f (hF.ev rfl) ec) ?_; clear hF a; intro a hF
    refine wl hF rfl rfl rfl (r_assign (hF.ev rfl)) ?_; clear hF a; intro a hF
    refine wl_nil ?_
    refine hK2 _ _ ?_
    refine wp_ret ?_
    try simp only [Exit.then, Exit.inBlock, ↓reduceIte]
    refine ret1 rfl hF rfl ⟨?_, hS.old⟩
    first | exact congrArg Value.bool (decide_eq_decide.2 (by unfold Config.ok; omega)) | exact (congrArg Value.bool (decide_eq_false (by unfold Config.ok; omega))).symm | exact (congrArg Value.bool (decide_eq_true (by unfold Config.ok; omega))).symm

set_option maxHeartbeats 4000000 in
set_option maxRecDepth 20000 in
theorem toConfig_c {W : World} (c : Config) : Calls Try.prog 20 #[.agg c.enc.toArray] W (Ret fun v w' => v = .agg c.enc.toArray ∧ Below W.heap.size W w') := by
  refine calls_fr Try.func20 rfl Try.ntmps20 rfl ?_
  intro a hF
  have hS := Sep.refl W
  refine wp_seq_k fun K1 hK1 => ?_
  refine wp_region_lit ?_
  refine wl_box hF hS rfl (hF.ev rfl) rfl ?_; clear hF a; intro g1 w1 a hS_ hB_ hF; replace hS := hS_; clear hS_ hB_
  refine wl_alloc hF hS rfl zr26 ?_; clear hF a; intro g2 w2 a hS_ hB_ hF; replace hS := hS_; clear hS_ hB_
  refine wl_nil ?_
  refine hK1 _ _ ?_
  refine wp_seq_k fun K2 hK2 => ?_
  refine wp_region_lit ?_
  refine wl_alloc hF hS rfl zr26 ?_; clear hF a; intro g3 w3 a hS_ hB_ hF; replace hS := hS_; clear hS_ hB_
  refine wl_nil ?_
  refine hK2 _ _ ?_
  refine wp_seq_k fun K3 hK3 => ?_
  refine wp_region_lit ?_
  refine wl hF rfl rfl rfl (r_field fo24_0 (hF.ev rfl)) ?_; clear hF a; intro a hF
  refine wl hF rfl rfl rfl (r_load1 sc3 (hF.ev rfl) (hS.box (i := 2) rfl rfl)) ?_; clear hF a; intro a hF
  refine wl hF rfl rfl rfl (r_field fo26_0 (hF.ev rfl)) ?_; clear hF a; intro a hF
  refine wl_store hF hS (i := 0) rfl sz3 (hF.ev rfl) (hF.ev rfl) rfl rfl ?_; intro w4 hS_; replace hS := hS_; clear hS_; dsimp only [List.set, Nat.reduceAdd] at hS
  refine wl_nil ?_
  refine hK3 _ _ ?_
  refine wp_seq_k fun K4 hK4 => ?_
  refine wp_region_lit ?_
  refine wl hF rfl rfl rfl (r_field fo24_1 (hF.ev rfl)) ?_; clear hF a; intro a hF
  refine wl hF rfl rfl rfl (r_load1 sc3 (hF.ev rfl) (hS.box (i := 2) rfl rfl)) ?_; clear hF a; intro a hF
  refine wl hF rfl rfl rfl (r_field fo26_1 (hF.ev rfl)) ?_; clear hF a; intro a hF
  refine wl_store hF hS (i := 0) rfl sz3 (hF.ev rfl) (hF.ev rfl) rfl rfl ?_; intro w5 hS_; replace hS := hS_; clear hS_; dsimp only [List.set, Nat.reduceAdd] at hS
  refine wl_nil ?_
  refine hK4 _ _ ?_
  refine wp_seq_k fun K5 hK5 => ?_
  refine wp_region_lit ?_
  refine wl hF rfl rfl rfl (r_field fo24_2 (hF.ev rfl)) ?_; clear hF a; intro a hF
  refine wl hF rfl rfl rfl (r_load1 sc3 (hF.ev rfl) (hS.box (i := 2) rfl rfl)) ?_; clear hF a; intro a hF
  refine wl hF rfl rfl rfl (r_field fo26_2 (hF.ev rfl)) ?_; clear hF a; intro a hF
  refine wl_store hF hS (i := 0) rfl sz3 (hF.ev rfl) (hF.ev rfl) rfl rfl ?_; intro w6 hS_; replace hS := hS_; clear hS_; dsimp only [List.set, Nat.reduceAdd] at hS
  refine wl_nil ?_
  refine hK5 _ _ ?_
  refine wp_seq_k fun K6 hK6 => ?_
  refine wp_region_lit ?_
  refine wl hF rfl rfl rfl (r_field fo24_3 (hF.ev rfl)) ?_; clear hF a; intro a hF
  refine wl hF rfl rfl rfl (r_load1 sc3 (hF.ev rfl) (hS.box (i := 2) rfl rfl)) ?_; clear hF a; intro a hF
  refine wl hF rfl rfl rfl (r_field fo26_3 (hF.ev rfl)) ?_; clear hF a; intro a hF
  refine wl_store hF hS (i := 0) rfl sz3 (hF.ev rfl) (hF.ev rfl) rfl rfl ?_; intro w7 hS_; replace hS := hS_; clear hS_; dsimp only [List.set, Nat.reduceAdd] at hS
  refine wl_nil ?_
  refine hK6 _ _ ?_
  refine wp_seq_k fun K7 hK7 => ?_
  refine wp_region_lit ?_
  refine wl hF rfl rfl rfl (r_field fo24_4 (hF.ev rfl)) ?_; clear hF a; intro a hF
  refine wl hF rfl rfl rfl (r_load1 sc3 (hF.ev rfl) (hS.box (i := 2) rfl rfl)) ?_; clear hF a; intro a hF
  refine wl hF rfl rfl rfl (r_field fo26_4 (hF.ev rfl)) ?_; clear hF a; intro a hF
  refine wl_store hF hS (i := 0) rfl sz3 (hF.ev rfl) (hF.ev rfl) rfl rfl ?_; intro w8 hS_; replace hS := hS_; clear hS_; dsimp only [List.set, Nat.reduceAdd] at hS
  refine wl_nil ?_
  refine hK7 _ _ ?_
  refine wp_seq_k fun K8 hK8 => ?_
  refine wp_region_lit ?_
  refine wl hF rfl rfl rfl (r_field fo24_5 (hF.ev rfl)) ?_; clear hF a; intro a hF
  refine wl hF rfl rfl rfl (r_load1 sc3 (hF.ev rfl) (hS.box (i := 2) rfl rfl)) ?_; clear hF a; intro a hF
  refine wl hF rfl rfl rfl (r_field fo26_5 (hF.ev rfl)) ?_; clear hF a; intro a hF
  refine wl_store hF hS (i := 0) rfl sz3 (hF.ev rfl) (hF.ev rfl) rfl rfl ?_; intro w9 hS_; replace hS := hS_; clear hS_; dsimp only [List.set, Nat.reduceAdd] at hS
  refine wl_nil ?_
  refine hK8 _ _ ?_
  refine wp_seq_k fun K9 hK9 => ?_
  refine wp_region_lit ?_
  refine wl hF rfl rfl rfl (r_loadn ag26 (hF.ev rfl) (hS.boxn (i := 0) (m := 6) rfl rfl) sz26) ?_; clear hF a; intro a hF
  refine wl_storen hF hS (i := 1) rfl (hF.ev rfl) (hF.ev rfl) sz26 rfl rfl ?_; intro w10 hS_; replace hS := hS_; clear hS_; dsimp only [List.set, List.take, List.drop, List.length, List.cons_append, List.nil_append, Nat.add_zero, Nat.zero_add, Nat.reduceAdd] at hS
  refine wl_nil ?_
  refine hK9 _ _ ?_
  refine wp_ret ?_
  try simp only [Exit.then, Exit.inBlock, ↓reduceIte]
  exact ret1c rfl ag26 hF hS (i := 1) rfl sz26 rfl ⟨rfl, hS.old⟩

end Go.Proofs.Ytogjnobdlliekaa.Wk
