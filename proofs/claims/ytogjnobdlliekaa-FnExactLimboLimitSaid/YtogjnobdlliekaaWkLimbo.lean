/- Walks: LimboLimit, the reference's, the program's, and the law. -/
import Derived.Test.YtogjnobdlliekaaChecked
import Derived.Test.YtogjnobdlliekaaWkB
namespace Go.Proofs.Ytogjnobdlliekaa.Wk
open Go Go.RowKit Sl
set_option linter.unusedVariables false
set_option linter.unusedSimpArgs false
set_option maxRecDepth 20000

set_option maxHeartbeats 4000000 in
set_option maxRecDepth 20000 in
theorem specLimboLimit_c {W : World} (c : Config) : Calls Try.prog 19 #[.agg c.enc.toArray] W (Ret fun v w' => v = vi (limboLimit c) ∧ Below W.heap.size W w') := by
  refine calls_fr Try.func19 rfl Try.ntmps19 rfl ?_
  intro a hF
  have hS := Sep.refl W
  refine wp_seq_k fun K1 hK1 => ?_
  refine wp_region_lit ?_
  refine wl_box hF hS rfl (hF.ev rfl) rfl ?_; clear hF a; intro g1 w1 a hS_ hB_ hF; replace hS := hS_; clear hS_ hB_
  refine wl hF rfl rfl rfl (r_assign ec) ?_; clear hF a; intro a hF
  refine wl_nil ?_
  refine hK1 _ _ ?_
  refine wp_seq_k fun K2 hK2 => ?_
  refine wp_seq_k fun K3 hK3 => ?_
  refine wp_region_lit ?_
  refine wl hF rfl rfl rfl (r_loadn ag26 (hF.ev rfl) (hS.boxn (i := 0) (m := 6) rfl rfl) sz26) ?_; clear hF a; intro a hF
  refine wl_call hF rfl rfl rfl (r_call1 en24 (hF.ev rfl)) (specIsConfig_c c) ?_; clear hF a; rintro v w2 a ⟨rfl, hB_⟩ hF; replace hS := hS.ext hB_; clear hB_
  refine wl hF rfl rfl rfl (r_not (hF.ev rfl)) ?_; clear hF a; intro a hF
  refine wl_nil ?_
  refine hK3 _ _ ?_
  first | refine wc_dec (hF.ev rfl) (fun c5 => ?_) (fun c5 => ?_) | refine wc_ndec (hF.ev rfl) (fun c5 => ?_) (fun c5 => ?_) | refine wc_b (hF.ev rfl) (fun c5 => ?_) (fun c5 => ?_)
  ·
    refine wp_seq_k fun K4 hK4 => ?_
    refine wp_region_lit ?_
    refine wl hF rfl rfl rfl (r_assign ec) ?_; clear hF a; intro a hF
    refine wl_nil ?_
    refine hK4 _ _ ?_
    refine wp_ret ?_
    try simp only [Exit.then, Exit.inBlock, ↓reduceIte]
    refine ret1 rfl hF rfl ⟨congrArg vi ?_, hS.old⟩
    unfold limboLimit
    first | (rw [if_neg c5]; done) | (rw [if_pos c5]; unfold Config.ok at c5; simp only [w64]; omega)
  ·
    refine wp_skip ?_
    refine hK2 _ _ ?_
    refine wp_seq_k fun K5 hK5 => ?_
    refine wp_region_lit ?_
    refine wl hF rfl rfl rfl (r_field fo26_0 (hF.ev rfl)) ?_; clear hF a; intro a hF
    refine wl hF rfl rfl rfl (r_load1 sc3 (hF.ev rfl) (hS.box (i := 0) rfl rfl)) ?_; clear hF a; intro a hF
    refine wl hF rfl rfl rfl (r_mul ec (hF.ev rfl)) ?_; clear hF a; intro a hF
    refine wl hF rfl rfl rfl (r_field fo26_3 (hF.ev rfl)) ?_; clear hF a; intro a hF
    refine wl hF rfl rfl rfl (r_load1 sc3 (hF.ev rfl) (hS.box (i := 0) rfl rfl)) ?_; clear hF a; intro a hF
    refine wl hF rfl rfl rfl (r_add (hF.ev rfl) (hF.ev rfl)) ?_; clear hF a; intro a hF
    refine wl hF rfl rfl rfl (r_assign (hF.ev rfl)) ?_; clear hF a; intro a hF
    refine wl_nil ?_
    refine hK5 _ _ ?_
    refine wp_ret ?_
    try simp only [Exit.then, Exit.inBlock, ↓reduceIte]
    refine ret1 rfl hF rfl ⟨congrArg vi ?_, hS.old⟩
    unfold limboLimit
    first | (rw [if_neg c5]; done) | (rw [if_pos c5]; unfold Config.ok at c5; simp only [w64]; omega)

set_option maxHeartbeats 4000000 in
set_option maxRecDepth 20000 in
theorem implLimboLimit_c {W : World} (c : Config) : Calls Try.prog 21 #[.agg c.enc.toArray] W (Ret fun v w' => v = vi (limboLimit c) ∧ Below W.heap.size W w') := by
  refine calls_fr Try.func21 rfl Try.ntmps21 rfl ?_
  intro a hF
  have hS := Sep.refl W
  refine wp_seq_k fun K1 hK1 => ?_
  refine wp_region_lit ?_
  refine wl_box hF hS rfl (hF.ev rfl) rfl ?_; clear hF a; intro g1 w1 a hS_ hB_ hF; replace hS := hS_; clear hS_ hB_
  refine wl hF rfl rfl rfl (r_assign ec) ?_; clear hF a; intro a hF
  refine wl_nil ?_
  refine hK1 _ _ ?_
  refine wp_seq_k fun K2 hK2 => ?_
  refine wp_seq_k fun K3 hK3 => ?_
  refine wp_region_lit ?_
  refine wl hF rfl rfl rfl (r_loadn ag26 (hF.ev rfl) (hS.boxn (i := 0) (m := 6) rfl rfl) sz26) ?_; clear hF a; intro a hF
  refine wl_call hF rfl rfl rfl (r_call1 en25 (hF.ev rfl)) (implIsConfig_c c) ?_; clear hF a; rintro v w2 a ⟨rfl, hB_⟩ hF; replace hS := hS.ext hB_; clear hB_
  refine wl hF rfl rfl rfl (r_not (hF.ev rfl)) ?_; clear hF a; intro a hF
  refine wl_nil ?_
  refine hK3 _ _ ?_
  first | refine wc_dec (hF.ev rfl) (fun c5 => ?_) (fun c5 => ?_) | refine wc_ndec (hF.ev rfl) (fun c5 => ?_) (fun c5 => ?_) | refine wc_b (hF.ev rfl) (fun c5 => ?_) (fun c5 => ?_)
  ·
    refine wp_seq_k fun K4 hK4 => ?_
    refine wp_region_lit ?_
    refine wl hF rfl rfl rfl (r_assign ec) ?_; clear hF a; intro a hF
    refine wl_nil ?_
    refine hK4 _ _ ?_
    refine wp_ret ?_
    try simp only [Exit.then, Exit.inBlock, ↓reduceIte]
    refine ret1 rfl hF rfl ⟨congrArg vi ?_, hS.old⟩
    unfold limboLimit
    first | (rw [if_neg c5]; done) | (rw [if_pos c5]; unfold Config.ok at c5; simp only [w64]; omega)
  ·
    refine wp_skip ?_
    refine hK2 _ _ ?_
    refine wp_seq_k fun K5 hK5 => ?_
    refine wp_region_lit ?_
    refine wl hF rfl rfl rfl (r_field fo26_0 (hF.ev rfl)) ?_; clear hF a; intro a hF
    refine wl hF rfl rfl rfl (r_load1 sc3 (hF.ev rfl) (hS.box (i := 0) rfl rfl)) ?_; clear hF a; intro a hF
    refine wl hF rfl rfl rfl (r_mul ec (hF.ev rfl)) ?_; clear hF a; intro a hF
    refine wl hF rfl rfl rfl (r_field fo26_3 (hF.ev rfl)) ?_; clear hF a; intro a hF
    refine wl hF rfl rfl rfl (r_load1 sc3 (hF.ev rfl) (hS.box (i := 0) rfl rfl)) ?_; clear hF a; intro a hF
    refine wl hF rfl rfl rfl (r_add (hF.ev rfl) (hF.ev rfl)) ?_; clear hF a; intro a hF
    refine wl hF rfl rfl rfl (r_assign (hF.ev rfl)) ?_; clear hF a; intro a hF
    refine wl_nil ?_
    refine hK5 _ _ ?_
    refine wp_ret ?_
    try simp only [Exit.then, Exit.inBlock, ↓reduceIte]
    refine ret1 rfl hF rfl ⟨congrArg vi ?_, hS.old⟩
    unfold limboLimit
    first | (rw [if_neg c5]; done) | (rw [if_pos c5]; unfold Config.ok at c5; simp only [w64]; omega)

set_option maxHeartbeats 4000000 in
set_option maxRecDepth 20000 in
theorem law_c {W : World} (c : Config) : Calls Try.prog 8 #[.agg c.enc.toArray] W (Ret fun v w' => v = .bool true ∧ Below W.heap.size W w') := by
  refine calls_fr Try.func8 rfl Try.ntmps8 rfl ?_
  intro a hF
  have hS := Sep.refl W
  refine wp_seq_k fun K1 hK1 => ?_
  refine wp_region_lit ?_
  refine wl_box hF hS rfl (hF.ev rfl) rfl ?_; clear hF a; intro g1 w1 a hS_ hB_ hF; replace hS := hS_; clear hS_ hB_
  refine wl hF rfl rfl rfl (r_assign ec) ?_; clear hF a; intro a hF
  refine wl_nil ?_
  refine hK1 _ _ ?_
  refine wp_seq_k fun K2 hK2 => ?_
  refine wp_region_lit ?_
  refine wl hF rfl rfl rfl (r_loadn ag24 (hF.ev rfl) (hS.boxn (i := 0) (m := 6) rfl rfl) sz24) ?_; clear hF a; intro a hF
  refine wl_call hF rfl rfl rfl (r_call1 en20 (hF.ev rfl)) (toConfig_c c) ?_; clear hF a; rintro v w2 a ⟨rfl, hB_⟩ hF; replace hS := hS.ext hB_; clear hB_
  refine wl_call hF rfl rfl rfl (r_call1 en19 (hF.ev rfl)) (specLimboLimit_c c) ?_; clear hF a; rintro v w3 a ⟨rfl, hB_⟩ hF; replace hS := hS.ext hB_; clear hB_
  refine wl hF rfl rfl rfl (r_assign (hF.ev rfl)) ?_; clear hF a; intro a hF
  refine wl_nil ?_
  refine hK2 _ _ ?_
  refine wp_seq_k fun K3 hK3 => ?_
  refine wp_region_lit ?_
  refine wl hF rfl rfl rfl (r_loadn ag24 (hF.ev rfl) (hS.boxn (i := 0) (m := 6) rfl rfl) sz24) ?_; clear hF a; intro a hF
  refine wl_call hF rfl rfl rfl (r_call1 en20 (hF.ev rfl)) (toConfig_c c) ?_; clear hF a; rintro v w4 a ⟨rfl, hB_⟩ hF; replace hS := hS.ext hB_; clear hB_
  refine wl_call hF rfl rfl rfl (r_call1 en21 (hF.ev rfl)) (implLimboLimit_c c) ?_; clear hF a; rintro v w5 a ⟨rfl, hB_⟩ hF; replace hS := hS.ext hB_; clear hB_
  refine wl hF rfl rfl rfl (r_assign (hF.ev rfl)) ?_; clear hF a; intro a hF
  refine wl_nil ?_
  refine hK3 _ _ ?_
  refine wp_seq_k fun K4 hK4 => ?_
  refine wp_seq_k fun K5 hK5 => ?_
  refine wp_region_lit ?_
  refine wl hF rfl rfl rfl (r_move (hF.ev rfl)) ?_; clear hF a; intro a hF
  refine wl hF rfl rfl rfl (r_move (hF.ev rfl)) ?_; clear hF a; intro a hF
  refine wl hF rfl rfl rfl (r_neq (hF.ev rfl) (hF.ev rfl)) ?_; clear hF a; intro a hF
  refine wl_nil ?_
  refine hK5 _ _ ?_
  first | refine wc_dec (hF.ev rfl) (fun c13 => ?_) (fun c13 => ?_) | refine wc_ndec (hF.ev rfl) (fun c13 => ?_) (fun c13 => ?_) | refine wc_b (hF.ev rfl) (fun c13 => ?_) (fun c13 => ?_)
  ·
    refine wp_seq_k fun K6 hK6 => ?_
    refine wp_region_lit ?_
    refine wl hF rfl rfl rfl (r_assign ec) ?_; clear hF a; intro a hF
    refine wl_nil ?_
    refine hK6 _ _ ?_
    refine wp_ret ?_
    try simp only [Exit.then, Exit.inBlock, ↓reduceIte]
    first | exact (c13 rfl).elim | exact ret1 rfl hF rfl ⟨rfl, hS.old⟩
  ·
    refine wp_skip ?_
    refine hK4 _ _ ?_
    refine wp_seq_k fun K7 hK7 => ?_
    refine wp_region_lit ?_
    refine wl hF rfl rfl rfl (r_assign ec) ?_; clear hF a; intro a hF
    refine wl_nil ?_
    refine hK7 _ _ ?_
    refine wp_ret ?_
    try simp only [Exit.then, Exit.inBlock, ↓reduceIte]
    first | exact (c13 rfl).elim | exact ret1 rfl hF rfl ⟨rfl, hS.old⟩

end Go.Proofs.Ytogjnobdlliekaa.Wk
