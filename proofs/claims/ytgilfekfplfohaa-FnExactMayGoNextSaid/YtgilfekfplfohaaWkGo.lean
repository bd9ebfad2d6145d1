/- Walks: MayGoNext, the reference's, the program's, and the law. -/
import Derived.Test.YtgilfekfplfohaaChecked
import Derived.Test.YtgilfekfplfohaaWkE
namespace Go.Proofs.Ytgilfekfplfohaa.Wk
open Go Go.RowKit Sl
set_option linter.unusedVariables false
set_option linter.unusedSimpArgs false
set_option maxRecDepth 20000

set_option maxHeartbeats 4000000 in
set_option maxRecDepth 20000 in
theorem l1In_c {W : World} (x lo hi : Int) : Calls Try.prog 73 #[vi x, vi lo, vi hi] W (Ret fun v w' => v = .bool (decide (lo ≤ x ∧ x ≤ hi)) ∧ Below W.heap.size W w') := by
  refine calls_fr Try.func73 rfl Try.ntmps73 rfl ?_
  intro a hF
  have hS := Sep.refl W
  refine wp_seq_k fun K1 hK1 => ?_
  refine wp_region_lit ?_
  refine wl hF rfl rfl rfl (r_assign ec) ?_; clear hF a; intro a hF
  refine wl_nil ?_
  refine hK1 _ _ ?_
  refine wp_seq_k fun K2 hK2 => ?_
  refine wp_region_lit ?_
  refine wl hF rfl rfl rfl (r_move (hF.ev rfl)) ?_; clear hF a; intro a hF
  refine wl hF rfl rfl rfl (r_move (hF.ev rfl)) ?_; clear hF a; intro a hF
  refine wl hF rfl rfl rfl (r_geq (hF.ev rfl) (hF.ev rfl)) ?_; clear hF a; intro a hF
  refine wl hF rfl rfl rfl (r_move (hF.ev rfl)) ?_; clear hF a; intro a hF
  revert hF; intro hF0; refine bsplit (t := 10) hF0 rfl (fun b10 hF => ?_) (fun b10 hF => ?_)
  ·
    clear hF0
    try simp only [decide_eq_true_eq, decide_eq_false_iff_not, Bool.not_eq_true', Bool.not_eq_false'] at b10
    refine wl_take hF rfl rfl rfl rfl ?_
    refine wl hF rfl rfl rfl (r_move (hF.ev rfl)) ?_; clear hF a; intro a hF
    refine wl_take hF rfl rfl rfl rfl ?_
    refine wl hF rfl rfl rfl (r_move (hF.ev rfl)) ?_; clear hF a; intro a hF
    refine wl_take hF rfl rfl rfl rfl ?_
    refine wl hF rfl rfl rfl (r_leq (hF.ev rfl) (hF.ev rfl)) ?_; clear hF a; intro a hF
    refine wl hF rfl rfl rfl (r_pick_t (hF.ev rfl) (hF.ev rfl)) ?_; clear hF a; intro a hF
    refine wl hF rfl rfl rfl (r_assign (hF.ev rfl)) ?_; clear hF a; intro a hF
    refine wl_nil ?_
    refine hK2 _ _ ?_
    refine wp_ret ?_
    try simp only [Exit.then, Exit.inBlock, ↓reduceIte]
    refine ret1 rfl hF rfl ⟨?_, hS.old⟩
    first | exact congrArg Value.bool (decide_eq_decide.2 (by omega)) | exact (congrArg Value.bool (decide_eq_false (by omega))).symm | exact (congrArg Value.bool (decide_eq_true (by omega))).symm
  ·
    clear hF0
    try simp only [decide_eq_true_eq, decide_eq_false_iff_not, Bool.not_eq_true', Bool.not_eq_false'] at b10
    refine wl_skip hF rfl rfl rfl rfl rfl rfl ?_; clear hF a; intro a hF
    refine wl_skip hF rfl rfl rfl rfl rfl rfl ?_; clear hF a; intro a hF
    refine wl_skip hF rfl rfl rfl rfl rfl rfl ?_; clear hF a; intro a hF
    refine wl hF rfl rfl rfl (r_pick_f (hF.ev rfl) ec) ?_; clear hF a; intro a hF
    refine wl hF rfl rfl rfl (r_assign (hF.ev rfl)) ?_; clear hF a; intro a hF
    refine wl_nil ?_
    refine hK2 _ _ ?_
    refine wp_ret ?_
    try simp only [Exit.then, Exit.inBlock, ↓reduceIte]
    refine ret1 rfl hF rfl ⟨?_, hS.old⟩
    first | exact congrArg Value.bool (decide_eq_decide.2 (by omega)) | exact (congrArg Value.bool (decide_eq_false (by omega))).symm | exact (congrArg Value.bool (decide_eq_true (by omega))).symm

set_option maxHeartbeats 4000000 in
set_option maxRecDepth 20000 in
theorem in_c {W : World} (x lo hi : Int) : Calls Try.prog 74 #[vi x, vi lo, vi hi] W (Ret fun v w' => v = .bool (decide (lo ≤ x ∧ x ≤ hi)) ∧ Below W.heap.size W w') := by
  refine calls_fr Try.func74 rfl Try.ntmps74 rfl ?_
  intro a hF
  have hS := Sep.refl W
  refine wp_seq_k fun K1 hK1 => ?_
  refine wp_region_lit ?_
  refine wl hF rfl rfl rfl (r_assign ec) ?_; clear hF a; intro a hF
  refine wl_nil ?_
  refine hK1 _ _ ?_
  refine wp_seq_k fun K2 hK2 => ?_
  refine wp_region_lit ?_
  refine wl hF rfl rfl rfl (r_move (hF.ev rfl)) ?_; clear hF a; intro a hF
  refine wl hF rfl rfl rfl (r_move (hF.ev rfl)) ?_; clear hF a; intro a hF
  refine wl hF rfl rfl rfl (r_geq (hF.ev rfl) (hF.ev rfl)) ?_; clear hF a; intro a hF
  refine wl hF rfl rfl rfl (r_move (hF.ev rfl)) ?_; clear hF a; intro a hF
  revert hF; intro hF0; refine bsplit (t := 10) hF0 rfl (fun b10 hF => ?_) (fun b10 hF => ?_)
  ·
    clear hF0
    try simp only [decide_eq_true_eq, decide_eq_false_iff_not, Bool.not_eq_true', Bool.not_eq_false'] at b10
    refine wl_take hF rfl rfl rfl rfl ?_
    refine wl hF rfl rfl rfl (r_move (hF.ev rfl)) ?_; clear hF a; intro a hF
    refine wl_take hF rfl rfl rfl rfl ?_
    refine wl hF rfl rfl rfl (r_move (hF.ev rfl)) ?_; clear hF a; intro a hF
    refine wl_take hF rfl rfl rfl rfl ?_
    refine wl hF rfl rfl rfl (r_leq (hF.ev rfl) (hF.ev rfl)) ?_; clear hF a; intro a hF
    refine wl hF rfl rfl rfl (r_pick_t (hF.ev rfl) (hF.ev rfl)) ?_; clear hF a; intro a hF
    refine wl hF rfl rfl rfl (r_assign (hF.ev rfl)) ?_; clear hF a; intro a hF
    refine wl_nil ?_
    refine hK2 _ _ ?_
    refine wp_ret ?_
    try simp only [Exit.then, Exit.inBlock, ↓reduceIte]
    refine ret1 rfl hF rfl ⟨?_, hS.old⟩
    first | exact congrArg Value.bool (decide_eq_decide.2 (by omega)) | exact (congrArg Value.bool (decide_eq_false (by omega))).symm | exact (congrArg Value.bool (decide_eq_true (by omega))).symm
  ·
    clear hF0
    try simp only [decide_eq_true_eq, decide_eq_false_iff_not, Bool.not_eq_true', Bool.not_eq_false'] at b10
    refine wl_skip hF rfl rfl rfl rfl rfl rfl ?_; clear hF a; intro a hF
    refine wl_skip hF rfl rfl rfl rfl rfl rfl ?_; clear hF a; intro a hF
    refine wl_skip hF rfl rfl rfl rfl rfl rfl ?_; clear hF a; intro a hF
    refine wl hF rfl rfl rfl (r_pick_f (hF.ev rfl) ec) ?_; clear hF a; intro a hF
    refine wl hF rfl rfl rfl (r_assign (hF.ev rfl)) ?_; clear hF a; intro a hF
    refine wl_nil ?_
    refine hK2 _ _ ?_
    refine wp_ret ?_
    try simp only [Exit.then, Exit.inBlock, ↓reduceIte]
    refine ret1 rfl hF rfl ⟨?_, hS.old⟩
    first | exact congrArg Value.bool (decide_eq_decide.2 (by omega)) | exact (congrArg Value.bool (decide_eq_false (by omega))).symm | exact (congrArg Value.bool (decide_eq_true (by omega))).symm

/-- what MayGoNext answers -/
def mayGo (es : List Sl.Event) (used : List Bool) (i : Int) : Bool :=
  match es[i.toNat]? with
  | some e => decide (used.length = es.length) && decide (0 ≤ i) && (used[i.toNat]? == some false) && (es.zip used).all fun p => p.2 || !decide (0 ≤ p.1.fin) || !decide (p.1.fin < e.start)
  | none => false
section
variable {es : List Sl.Event} {used : List Bool} {i : Int} {e x : Sl.Event} {k : Nat} {u : Bool}
theorem mayGo_len (h : ¬ used.length = es.length) : mayGo es used i = false := by
  unfold mayGo; split <;> simp [h]
theorem mayGo_range (h : ¬ (0 ≤ i ∧ i ≤ (es.length : Int) - 1)) : mayGo es used i = false := by
  unfold mayGo
  split
  · rename_i e he
    have := (List.getElem?_eq_some_iff.1 he).1
    have h0 : ¬ 0 ≤ i := by omega
    simp [h0]
  · rfl
theorem mayGo_used (h : used[i.toNat]? = some true) : mayGo es used i = false := by
  unfold mayGo; split <;> simp [h]
theorem zip_at (hx : es[k]? = some x) (hu : used[k]? = some u) : (es.zip used)[k]? = some (x, u) := by
  rw [List.getElem?_zip_eq_some]; exact ⟨hx, hu⟩
theorem mayGo_hit (he : es[i.toNat]? = some e) (hz : (es.zip used)[k]? = some (x, false)) (h0 : 0 ≤ x.fin) (h1 : x.fin < e.start) : mayGo es used i = false := by
  unfold mayGo
  rw [he]
  have : (es.zip used).all (fun p => p.2 || !decide (0 ≤ p.1.fin) || !decide (p.1.fin < e.start)) = false := by
    rw [List.all_eq_false]
    exact ⟨_, List.mem_of_getElem? hz, by simp [h0, h1]⟩
  simp [this]
theorem mayGo_all (he : es[i.toNat]? = some e) (hl : used.length = es.length) (h0 : 0 ≤ i) (hu : used[i.toNat]? = some false) (hk : k = es.length) (ha : ((es.zip used).take k).all (fun p => p.2 || !decide (0 ≤ p.1.fin) || !decide (p.1.fin < e.start)) = true) : mayGo es used i = true := by
  unfold mayGo
  rw [he]
  rw [List.take_of_length_le (by simp; omega)] at ha
  simp only [hl, h0, hu, ha, decide_true, Bool.and_true, BEq.rfl]
theorem all_next {α : Type} {f : α → Bool} {zs : List α} {z : α} (h : (zs.take k).all f = true) (hz : zs[k]? = some z) (hf : f z = true) : (zs.take (k + 1)).all f = true := by
  rw [List.take_add_one, hz, List.all_append, h]; simp [hf]
end

set_option maxHeartbeats 4000000 in
set_option maxRecDepth 20000 in
theorem specMayGo_c {W : World} {va vb : Value} {es : List Sl.Event} {used : List Bool} {i : Int} (ha : eventEK.Rd W va es) (hb : boolEK.Rd W vb used) : Calls Try.prog 27 #[va, vb, vi i] W (Ret fun v w' => v = .bool (mayGo es used i) ∧ Below W.heap.size W w') := by
  refine calls_fr Try.func27 rfl Try.ntmps27 rfl ?_
  intro a hF
  have hS := Sep.refl W
  obtain ⟨A_a, q_a, rfl, hq_a, hn_a⟩ := ha.sl; unfold maxLen at hn_a
  obtain ⟨A_b, q_b, rfl, hq_b, hn_b⟩ := hb.sl; unfold maxLen at hn_b
  have e0 : IntKind.i64.wrap ((es.length : Int) - 1) = es.length - 1 := w64_id (by omega) (by omega)
  refine wp_seq_k fun K1 hK1 => ?_
  refine wp_region_lit ?_
  refine wl hF rfl rfl rfl (r_assign ec) ?_; clear hF a; intro a hF
  refine wl_nil ?_
  refine hK1 _ _ ?_
  refine wp_seq_k fun K2 hK2 => ?_
  refine wp_seq_k fun K3 hK3 => ?_
  refine wp_region_lit ?_
  refine wl hF rfl rfl rfl (r_move (hF.ev rfl)) ?_; clear hF a; intro a hF
  refine wl hF rfl rfl rfl (r_len ul37 (hF.ev rfl)) ?_; clear hF a; intro a hF
  refine wl hF rfl rfl rfl (r_move (hF.ev rfl)) ?_; clear hF a; intro a hF
  refine wl hF rfl rfl rfl (r_len ul40 (hF.ev rfl)) ?_; clear hF a; intro a hF
  refine wl hF rfl rfl rfl (r_neq (hF.ev rfl) (hF.ev rfl)) ?_; clear hF a; intro a hF
  refine wl hF rfl rfl rfl (r_move (hF.ev rfl)) ?_; clear hF a; intro a hF
  revert hF; intro hF0; refine bsplit (t := 13) hF0 rfl (fun b13 hF => ?_) (fun b13 hF => ?_)
  ·
    clear hF0
    try simp only [decide_eq_true_eq, decide_eq_false_iff_not, Bool.not_eq_true', Bool.not_eq_false'] at b13
    refine wl_skip hF rfl rfl rfl rfl rfl rfl ?_; clear hF a; intro a hF
    refine wl_skip hF rfl rfl rfl rfl rfl rfl ?_; clear hF a; intro a hF
    refine wl_skip hF rfl rfl rfl rfl rfl rfl ?_; clear hF a; intro a hF
    refine wl_skip hF rfl rfl rfl rfl rfl rfl ?_; clear hF a; intro a hF
    refine wl_skip hF rfl rfl rfl rfl rfl rfl ?_; clear hF a; intro a hF
    refine wl_skip hF rfl rfl rfl rfl rfl rfl ?_; clear hF a; intro a hF
    refine wl hF rfl rfl rfl (r_pick_t (hF.ev rfl) ec) ?_; clear hF a; intro a hF
    refine wl hF rfl rfl rfl (r_move (hF.ev rfl)) ?_; clear hF a; intro a hF
    refine wl_skip hF rfl rfl rfl rfl rfl rfl ?_; clear hF a; intro a hF
    refine wl_skip hF rfl rfl rfl rfl rfl rfl ?_; clear hF a; intro a hF
    refine wl_skip hF rfl rfl rfl rfl rfl rfl ?_; clear hF a; intro a hF
    refine wl_skip hF rfl rfl rfl rfl rfl rfl ?_; clear hF a; intro a hF
    refine wl hF rfl rfl rfl (r_pick_t (hF.ev rfl) ec) ?_; clear hF a; intro a hF
    refine wl_nil ?_
    refine hK3 _ _ ?_
    refine wc_true (hF.ev rfl) ?_
    refine wp_seq_k fun K4 hK4 => ?_
    refine wp_region_lit ?_
    refine wl hF rfl rfl rfl (r_assign ec) ?_; clear hF a; intro a hF
    refine wl_nil ?_
    refine hK4 _ _ ?_
    refine wp_ret ?_
    try simp only [Exit.then, Exit.inBlock, ↓reduceIte]
    refine ret1 rfl hF rfl ⟨congrArg Value.bool (Eq.symm ?_), hS.old⟩
    first
      | exact mayGo_len (fun q => b13 (by omega))
      | exact mayGo_range b21
      | exact mayGo_used (hu.trans (congrArg some c26))
      | exact mayGo_hit he ((zip_at hx huk).trans (congrArg (fun z => some (x, z)) b38)) b46 c58
      | exact mayGo_all he hlen hi0 (hu.trans (congrArg some c26)) (by omega) hall
  ·
    clear hF0
    try simp only [decide_eq_true_eq, decide_eq_false_iff_not, Bool.not_eq_true', Bool.not_eq_false'] at b13
    refine wl_take hF rfl rfl rfl rfl ?_
    refine wl hF rfl rfl rfl (r_move (hF.ev rfl)) ?_; clear hF a; intro a hF
    refine wl_take hF rfl rfl rfl rfl ?_
    refine wl hF rfl rfl rfl (r_move (hF.ev rfl)) ?_; clear hF a; intro a hF
    refine wl_take hF rfl rfl rfl rfl ?_
    refine wl hF rfl rfl rfl (r_len ul40 (hF.ev rfl)) ?_; clear hF a; intro a hF
    refine wl_take hF rfl rfl rfl rfl ?_
    refine wl hF rfl rfl rfl (r_sub (hF.ev rfl) ec) ?_; clear hF a; intro a hF
    refine wl_take hF rfl rfl rfl rfl ?_
    refine wl_call hF rfl rfl rfl (r_call3 en73 (hF.ev rfl) ec (hF.ev rfl)) (l1In_c _ _ _) ?_; clear hF a; rintro v w1 a ⟨rfl, hB_⟩ hF; replace hS := hS.ext hB_; clear hB_
    refine wl_take hF rfl rfl rfl rfl ?_
    refine wl hF rfl rfl rfl (r_not (hF.ev rfl)) ?_; clear hF a; intro a hF
    refine wl hF rfl rfl rfl (r_pick_f (hF.ev rfl) (hF.ev rfl)) ?_; clear hF a; intro a hF
    refine wl hF rfl rfl rfl (r_move (hF.ev rfl)) ?_; clear hF a; intro a hF
    revert hF; intro hF0; refine bsplit (t := 21) hF0 rfl (fun b21 hF => ?_) (fun b21 hF => ?_)
    ·
      clear hF0
      try simp only [decide_eq_true_eq, decide_eq_false_iff_not, Bool.not_eq_true', Bool.not_eq_false'] at b21
      rw [e0] at b21
      refine wl_skip hF rfl rfl rfl rfl rfl rfl ?_; clear hF a; intro a hF
      refine wl_skip hF rfl rfl rfl rfl rfl rfl ?_; clear hF a; intro a hF
      refine wl_skip hF rfl rfl rfl rfl rfl rfl ?_; clear hF a; intro a hF
      refine wl_skip hF rfl rfl rfl rfl rfl rfl ?_; clear hF a; intro a hF
      refine wl hF rfl rfl rfl (r_pick_t (hF.ev rfl) ec) ?_; clear hF a; intro a hF
      refine wl_nil ?_
      refine hK3 _ _ ?_
      refine wc_true (hF.ev rfl) ?_
      refine wp_seq_k fun K5 hK5 => ?_
      refine wp_region_lit ?_
      refine wl hF rfl rfl rfl (r_assign ec) ?_; clear hF a; intro a hF
      refine wl_nil ?_
      refine hK5 _ _ ?_
      refine wp_ret ?_
      try simp only [Exit.then, Exit.inBlock, ↓reduceIte]
      refine ret1 rfl hF rfl ⟨congrArg Value.bool (Eq.symm ?_), hS.old⟩
      first
        | exact mayGo_len (fun q => b13 (by omega))
        | exact mayGo_range b21
        | exact mayGo_used (hu.trans (congrArg some c26))
        | exact mayGo_hit he ((zip_at hx huk).trans (congrArg (fun z => some (x, z)) b38)) b46 c58
        | exact mayGo_all he hlen hi0 (hu.trans (congrArg some c26)) (by omega) hall
    ·
      clear hF0
      try simp only [decide_eq_true_eq, decide_eq_false_iff_not, Bool.not_eq_true', Bool.not_eq_false'] at b21
      rw [e0] at b21
      obtain ⟨hi0, hi1⟩ := b21
      obtain ⟨e, he⟩ : ∃ e, es[i.toNat]? = some e := ⟨_, List.getElem?_eq_getElem (by omega)⟩
      obtain ⟨u, hu⟩ : ∃ u, used[i.toNat]? = some u := ⟨_, List.getElem?_eq_getElem (by omega)⟩
      refine wl_take hF rfl rfl rfl rfl ?_
      refine wl hF rfl rfl rfl (r_move (hF.ev rfl)) ?_; clear hF a; intro a hF
      refine wl_take hF rfl rfl rfl rfl ?_
      refine wl hF rfl rfl rfl (r_move (hF.ev rfl)) ?_; clear hF a; intro a hF
      refine wl_take hF rfl rfl rfl rfl ?_
      obtain ⟨g24, o24, m24, q24, hv24, hm24, hl24, hc24⟩ := Rd.idxF (hS.rd hb) hu
      refine wl hF rfl rfl rfl (r_index sl37 ((hF.ev rfl).trans hv24) (hF.ev rfl) (by omega) (by omega)) ?_; clear hF a; intro a hF
      refine wl_take hF rfl rfl rfl rfl ?_
      refine wl hF rfl rfl rfl (r_load1 sc4 (hF.ev rfl) (hc24 0 _ rfl)) ?_; clear hF a; intro a hF
      refine wl hF rfl rfl rfl (r_pick_f (hF.ev rfl) (hF.ev rfl)) ?_; clear hF a; intro a hF
      refine wl_nil ?_
      refine hK3 _ _ ?_
      first | refine wc_dec (hF.ev rfl) (fun c26 => ?_) (fun c26 => ?_) | refine wc_ndec (hF.ev rfl) (fun c26 => ?_) (fun c26 => ?_) | refine wc_b (hF.ev rfl) (fun c26 => ?_) (fun c26 => ?_)
      ·
        refine wp_seq_k fun K6 hK6 => ?_
        refine wp_region_lit ?_
        refine wl hF rfl rfl rfl (r_assign ec) ?_; clear hF a; intro a hF
        refine wl_nil ?_
        refine hK6 _ _ ?_
        refine wp_ret ?_
        try simp only [Exit.then, Exit.inBlock, ↓reduceIte]
        refine ret1 rfl hF rfl ⟨congrArg Value.bool (Eq.symm ?_), hS.old⟩
        first
          | exact mayGo_len (fun q => b13 (by omega))
          | exact mayGo_range b21
          | exact mayGo_used (hu.trans (congrArg some c26))
          | exact mayGo_hit he ((zip_at hx huk).trans (congrArg (fun z => some (x, z)) b38)) b46 c58
          | exact mayGo_all he hlen hi0 (hu.trans (congrArg some c26)) (by omega) hall
      ·
        refine wp_skip ?_
        refine hK2 _ _ ?_
        refine wp_seq_k fun K7 hK7 => ?_
        refine wp_seq_k fun K8 hK8 => ?_
        refine wp_region_lit ?_
        refine wl hF rfl rfl rfl (r_assign ec) ?_; clear hF a; intro a hF
        refine wl_nil ?_
        refine hK8 _ _ ?_
        refine wp_block ?_
        refine wp_loop_g (σ := Nat) (fun k a w => k ≤ es.length ∧ used.length = es.length ∧ ((es.zip used).take k).all (fun p => p.2 || !decide (0 ≤ p.1.fin) || !decide (p.1.fin < e.start)) = true ∧ Sep W [] w ∧ Fr 59 [(7, vi k), (2, vi i), (1, .slice A_b used.length q_b), (0, .slice A_a es.length q_a)] a) (fun k => es.length - k) 0 ?_ ?_
        · exact ⟨Nat.zero_le _, by omega, by simp, hS, ((((hF.nil.keep hF (t := 0) rfl).keep hF (t := 1) rfl).keep hF (t := 2) rfl).keep hF (t := 7) rfl)⟩
        ·
          clear hF hS a
          rintro k a w ⟨hk, hlen, hall, hS, hF⟩
          refine wp_seq_k fun K9 hK9 => ?_
          refine wp_seq_k fun K10 hK10 => ?_
          refine wp_region_lit ?_
          refine wl hF rfl rfl rfl (r_move (hF.ev rfl)) ?_; clear hF a; intro a hF
          refine wl hF rfl rfl rfl (r_move (hF.ev rfl)) ?_; clear hF a; intro a hF
          refine wl hF rfl rfl rfl (r_len ul40 (hF.ev rfl)) ?_; clear hF a; intro a hF
          refine wl hF rfl rfl rfl (r_lss (hF.ev rfl) (hF.ev rfl)) ?_; clear hF a; intro a hF
          refine wl_nil ?_
          refine hK10 _ _ ?_
          first | refine wc_dec (hF.ev rfl) (fun c30 => ?_) (fun c30 => ?_) | refine wc_ndec (hF.ev rfl) (fun c30 => ?_) (fun c30 => ?_) | refine wc_b (hF.ev rfl) (fun c30 => ?_) (fun c30 => ?_)
          ·
            have hlt : k < es.length := by omega
            obtain ⟨x, hx⟩ : ∃ x, es[k]? = some x := ⟨_, List.getElem?_eq_getElem hlt⟩
            obtain ⟨uk, huk⟩ : ∃ u, used[k]? = some u := ⟨_, List.getElem?_eq_getElem (by omega)⟩
            refine wp_skip ?_
            refine hK9 _ _ ?_
            refine wp_seq_k fun K11 hK11 => ?_
            refine wp_block ?_
            refine wp_seq_k fun K12 hK12 => ?_
            refine wp_region_calm (by kernel_rfl) (by kernel_rfl) ?_
            refine wq hF rfl rfl rfl (fun w_ hB_ => r_move (hF.ev rfl)) ?_; clear hF a; intro a hF
            refine wq hF rfl rfl rfl (fun w_ hB_ => r_move (hF.ev rfl)) ?_; clear hF a; intro a hF
            obtain ⟨g35, o35, m35, q35, hv35, hm35, hl35, hc35⟩ := Rd.idxF (hS.rd hb) huk
            refine wq hF rfl rfl rfl (fun w_ hB_ => r_index sl37 ((hF.ev rfl).trans hv35) (hF.ev rfl) (by omega) (by omega)) ?_; clear hF a; intro a hF
            refine wq hF rfl rfl rfl (fun w_ hB_ => r_load1 sc4 (hF.ev rfl) (cellB hB_ (hc35 0 _ rfl))) ?_; clear hF a; intro a hF
            refine wq hF rfl rfl rfl (fun w_ hB_ => r_not (hF.ev rfl)) ?_; clear hF a; intro a hF
            refine wq hF rfl rfl rfl (fun w_ hB_ => r_move (hF.ev rfl)) ?_; clear hF a; intro a hF
            revert hF; intro hF0; refine bsplit (t := 38) hF0 rfl (fun b38 hF => ?_) (fun b38 hF => ?_)
            ·
              clear hF0
              try simp only [decide_eq_true_eq, decide_eq_false_iff_not, Bool.not_eq_true', Bool.not_eq_false'] at b38
              refine wq_take hF rfl rfl rfl rfl ?_
              refine wq hF rfl rfl rfl (fun w_ hB_ => r_move (hF.ev rfl)) ?_; clear hF a; intro a hF
              refine wq_take hF rfl rfl rfl rfl ?_
              refine wq hF rfl rfl rfl (fun w_ hB_ => r_move (hF.ev rfl)) ?_; clear hF a; intro a hF
              refine wq_take hF rfl rfl rfl rfl ?_
              obtain ⟨g41, o41, m41, q41, hv41, hm41, hl41, hc41⟩ := Rd.idxF (hS.rd ha) hx
              refine wq hF rfl rfl rfl (fun w_ hB_ => r_index sl40 ((hF.ev rfl).trans hv41) (hF.ev rfl) (by omega) (by omega)) ?_; clear hF a; intro a hF
              refine wq_take hF rfl rfl rfl rfl ?_
              refine wq hF rfl rfl rfl (fun w_ hB_ => r_field fo82_4 (hF.ev rfl)) ?_; clear hF a; intro a hF
              refine wq_take hF rfl rfl rfl rfl ?_
              refine wq hF rfl rfl rfl (fun w_ hB_ => r_load1 sc3 (hF.ev rfl) (cellB hB_ (hc41 7 _ rfl))) ?_; clear hF a; intro a hF
              refine wq_take hF rfl rfl rfl rfl ?_
              refine wq hF rfl rfl rfl (fun w_ hB_ => r_geq (hF.ev rfl) ec) ?_; clear hF a; intro a hF
              refine wq hF rfl rfl rfl (fun w_ hB_ => r_pick_t (hF.ev rfl) (hF.ev rfl)) ?_; clear hF a; intro a hF
              refine wq hF rfl rfl rfl (fun w_ hB_ => r_move (hF.ev rfl)) ?_; clear hF a; intro a hF
              revert hF; intro hF0; refine bsplit (t := 46) hF0 rfl (fun b46 hF => ?_) (fun b46 hF => ?_)
              ·
                clear hF0
                try simp only [decide_eq_true_eq, decide_eq_false_iff_not, Bool.not_eq_true', Bool.not_eq_false'] at b46
                refine wq_take hF rfl rfl rfl rfl ?_
                refine wq hF rfl rfl rfl (fun w_ hB_ => r_move (hF.ev rfl)) ?_; clear hF a; intro a hF
                refine wq_take hF rfl rfl rfl rfl ?_
                refine wq hF rfl rfl rfl (fun w_ hB_ => r_move (hF.ev rfl)) ?_; clear hF a; intro a hF
                refine wq_take hF rfl rfl rfl rfl ?_
                obtain ⟨g49, o49, m49, q49, hv49, hm49, hl49, hc49⟩ := Rd.idxF (hS.rd ha) hx
                refine wq hF rfl rfl rfl (fun w_ hB_ => r_index sl40 ((hF.ev rfl).trans hv49) (hF.ev rfl) (by omega) (by omega)) ?_; clear hF a; intro a hF
                refine wq_take hF rfl rfl rfl rfl ?_
                refine wq hF rfl rfl rfl (fun w_ hB_ => r_field fo82_4 (hF.ev rfl)) ?_; clear hF a; intro a hF
                refine wq_take hF rfl rfl rfl rfl ?_
                refine wq hF rfl rfl rfl (fun w_ hB_ => r_load1 sc3 (hF.ev rfl) (cellB hB_ (hc49 7 _ rfl))) ?_; clear hF a; intro a hF
                refine wq_take hF rfl rfl rfl rfl ?_
                refine wq hF rfl rfl rfl (fun w_ hB_ => r_move (hF.ev rfl)) ?_; clear hF a; intro a hF
                refine wq_take hF rfl rfl rfl rfl ?_
                refine wq hF rfl rfl rfl (fun w_ hB_ => r_move (hF.ev rfl)) ?_; clear hF a; intro a hF
                refine wq_take hF rfl rfl rfl rfl ?_
                obtain ⟨g54, o54, m54, q54, hv54, hm54, hl54, hc54⟩ := Rd.idxF (hS.rd ha) he
                refine wq hF rfl rfl rfl (fun w_ hB_ => r_index sl40 ((hF.ev rfl).trans hv54) (hF.ev rfl) (by omega) (by omega)) ?_; clear hF a; intro a hF
                refine wq_take hF rfl rfl rfl rfl ?_
                refine wq hF rfl rfl rfl (fun w_ hB_ => r_field fo82_3 (hF.ev rfl)) ?_; clear hF a; intro a hF
                refine wq_take hF rfl rfl rfl rfl ?_
                refine wq hF rfl rfl rfl (fun w_ hB_ => r_load1 sc3 (hF.ev rfl) (cellB hB_ (hc54 6 _ rfl))) ?_; clear hF a; intro a hF
                refine wq_take hF rfl rfl rfl rfl ?_
                refine wq hF rfl rfl rfl (fun w_ hB_ => r_lss (hF.ev rfl) (hF.ev rfl)) ?_; clear hF a; intro a hF
                refine wq hF rfl rfl rfl (fun w_ hB_ => r_pick_t (hF.ev rfl) (hF.ev rfl)) ?_; clear hF a; intro a hF
                refine wpQuiet_nil ?_; intro w2 hB_; replace hS := hS.ext hB_; clear hB_
                refine hK12 _ _ ?_
                first | refine wc_dec (hF.ev rfl) (fun c58 => ?_) (fun c58 => ?_) | refine wc_ndec (hF.ev rfl) (fun c58 => ?_) (fun c58 => ?_) | refine wc_b (hF.ev rfl) (fun c58 => ?_) (fun c58 => ?_)
                ·
                  refine wp_seq_k fun K13 hK13 => ?_
                  refine wp_region_lit ?_
                  refine wl hF rfl rfl rfl (r_assign ec) ?_; clear hF a; intro a hF
                  refine wl_nil ?_
                  refine hK13 _ _ ?_
                  refine wp_ret ?_
                  try simp only [Exit.then, Exit.inBlock, ↓reduceIte]
                  refine ret1 rfl hF rfl ⟨congrArg Value.bool (Eq.symm ?_), hS.old⟩
                  first
                    | exact mayGo_len (fun q => b13 (by omega))
                    | exact mayGo_range b21
                    | exact mayGo_used (hu.trans (congrArg some c26))
                    | exact mayGo_hit he ((zip_at hx huk).trans (congrArg (fun z => some (x, z)) b38)) b46 c58
                    | exact mayGo_all he hlen hi0 (hu.trans (congrArg some c26)) (by omega) hall
                ·
                  refine wp_skip ?_
                  simp only [Exit.then, Exit.inBlock, ↓reduceIte]
                  refine hK11 _ _ ?_
                  refine wp_region_lit ?_
                  refine wl hF rfl rfl rfl (r_move (hF.ev rfl)) ?_; clear hF a; intro a hF
                  refine wl hF rfl rfl rfl (r_add (hF.ev rfl) ec) ?_; clear hF a; intro a hF
                  refine wl hF rfl rfl rfl (r_assign (hF.ev rfl)) ?_; clear hF a; intro a hF
                  refine wl_nil ?_
                  try simp only [Exit.then, Exit.inBlock, ↓reduceIte]
                  refine ⟨k + 1, ⟨by omega, hlen, all_next hall (zip_at hx huk) ?_, hS, ((((hF.nil.keep hF (t := 0) rfl).keep hF (t := 1) rfl).keep hF (t := 2) rfl).keepE hF (t := 7) rfl (wk (by omega)))⟩, by omega⟩
                  first | (simp_all; done) | (cases uk <;> simp_all <;> omega)
              ·
                clear hF0
                try simp only [decide_eq_true_eq, decide_eq_false_iff_not, Bool.not_eq_true', Bool.not_eq_false'] at b46
                refine wq_skip hF rfl rfl rfl rfl rfl rfl ?_; clear hF a; intro a hF
                refine wq_skip hF rfl rfl rfl rfl rfl rfl ?_; clear hF a; intro a hF
                refine wq_skip hF rfl rfl rfl rfl rfl rfl ?_; clear hF a; intro a hF
                refine wq_skip hF rfl rfl rfl rfl rfl rfl ?_; clear hF a; intro a hF
                refine wq_skip hF rfl rfl rfl rfl rfl rfl ?_; clear hF a; intro a hF
                refine wq_skip hF rfl rfl rfl rfl rfl rfl ?_; clear hF a; intro a hF
                refine wq_skip hF rfl rfl rfl rfl rfl rfl ?_; clear hF a; intro a hF
                refine wq_skip hF rfl rfl rfl rfl rfl rfl ?_; clear hF a; intro a hF
                refine wq_skip hF rfl rfl rfl rfl rfl rfl ?_; clear hF a; intro a hF
                refine wq_skip hF rfl rfl rfl rfl rfl rfl ?_; clear hF a; intro a hF
                refine wq_skip hF rfl rfl rfl rfl rfl rfl ?_; clear hF a; intro a hF
                refine wq hF rfl rfl rfl (fun w_ hB_ => r_pick_f (hF.ev rfl) ec) ?_; clear hF a; intro a hF
                refine wpQuiet_nil ?_; intro w3 hB_; replace hS := hS.ext hB_; clear hB_
                refine hK12 _ _ ?_
                refine wc_false (hF.ev rfl) ?_
                refine wp_skip ?_
                simp only [Exit.then, Exit.inBlock, ↓reduceIte]
                refine hK11 _ _ ?_
                refine wp_region_lit ?_
                refine wl hF rfl rfl rfl (r_move (hF.ev rfl)) ?_; clear hF a; intro a hF
                refine wl hF rfl rfl rfl (r_add (hF.ev rfl) ec) ?_; clear hF a; intro a hF
                refine wl hF rfl rfl rfl (r_assign (hF.ev rfl)) ?_; clear hF a; intro a hF
                refine wl_nil ?_
                try simp only [Exit.then, Exit.inBlock, ↓reduceIte]
                refine ⟨k + 1, ⟨by omega, hlen, all_next hall (zip_at hx huk) ?_, hS, ((((hF.nil.keep hF (t := 0) rfl).keep hF (t := 1) rfl).keep hF (t := 2) rfl).keepE hF (t := 7) rfl (wk (by omega)))⟩, by omega⟩
                first | (simp_all; done) | (cases uk <;> simp_all <;> omega)
            ·
              clear hF0
              try simp only [decide_eq_true_eq, decide_eq_false_iff_not, Bool.not_eq_true', Bool.not_eq_false'] at b38
              refine wq_skip hF rfl rfl rfl rfl rfl rfl ?_; clear hF a; intro a hF
              refine wq_skip hF rfl rfl rfl rfl rfl rfl ?_; clear hF a; intro a hF
              refine wq_skip hF rfl rfl rfl rfl rfl rfl ?_; clear hF a; intro a hF
              refine wq_skip hF rfl rfl rfl rfl rfl rfl ?_; clear hF a; intro a hF
              refine wq_skip hF rfl rfl rfl rfl rfl rfl ?_; clear hF a; intro a hF
              refine wq_skip hF rfl rfl rfl rfl rfl rfl ?_; clear hF a; intro a hF
              refine wq hF rfl rfl rfl (fun w_ hB_ => r_pick_f (hF.ev rfl) ec) ?_; clear hF a; intro a hF
              refine wq hF rfl rfl rfl (fun w_ hB_ => r_move (hF.ev rfl)) ?_; clear hF a; intro a hF
              refine wq_skip hF rfl rfl rfl rfl rfl rfl ?_; clear hF a; intro a hF
              refine wq_skip hF rfl rfl rfl rfl rfl rfl ?_; clear hF a; intro a hF
              refine wq_skip hF rfl rfl rfl rfl rfl rfl ?_; clear hF a; intro a hF
              refine wq_skip hF rfl rfl rfl rfl rfl rfl ?_; clear hF a; intro a hF
              refine wq_skip hF rfl rfl rfl rfl rfl rfl ?_; clear hF a; intro a hF
              refine wq_skip hF rfl rfl rfl rfl rfl rfl ?_; clear hF a; intro a hF
              refine wq_skip hF rfl rfl rfl rfl rfl rfl ?_; clear hF a; intro a hF
              refine wq_skip hF rfl rfl rfl rfl rfl rfl ?_; clear hF a; intro a hF
              refine wq_skip hF rfl rfl rfl rfl rfl rfl ?_; clear hF a; intro a hF
              refine wq_skip hF rfl rfl rfl rfl rfl rfl ?_; clear hF a; intro a hF
              refine wq_skip hF rfl rfl rfl rfl rfl rfl ?_; clear hF a; intro a hF
              refine wq hF rfl rfl rfl (fun w_ hB_ => r_pick_f (hF.ev rfl) ec) ?_; clear hF a; intro a hF
              refine wpQuiet_nil ?_; intro w4 hB_; replace hS := hS.ext hB_; clear hB_
              refine hK12 _ _ ?_
              refine wc_false (hF.ev rfl) ?_
              refine wp_skip ?_
              simp only [Exit.then, Exit.inBlock, ↓reduceIte]
              refine hK11 _ _ ?_
              refine wp_region_lit ?_
              refine wl hF rfl rfl rfl (r_move (hF.ev rfl)) ?_; clear hF a; intro a hF
              refine wl hF rfl rfl rfl (r_add (hF.ev rfl) ec) ?_; clear hF a; intro a hF
              refine wl hF rfl rfl rfl (r_assign (hF.ev rfl)) ?_; clear hF a; intro a hF
              refine wl_nil ?_
              try simp only [Exit.then, Exit.inBlock, ↓reduceIte]
              refine ⟨k + 1, ⟨by omega, hlen, all_next hall (zip_at hx huk) ?_, hS, ((((hF.nil.keep hF (t := 0) rfl).keep hF (t := 1) rfl).keep hF (t := 2) rfl).keepE hF (t := 7) rfl (wk (by omega)))⟩, by omega⟩
              first | (simp_all; done) | (cases uk <;> simp_all <;> omega)
          ·
            refine wp_exit ?_
            simp only [Exit.then, Exit.inBlock, ↓reduceIte]
            refine hK7 _ _ ?_
            refine wp_seq_k fun K14 hK14 => ?_
            refine wp_region_lit ?_
            refine wl hF rfl rfl rfl (r_assign ec) ?_; clear hF a; intro a hF
            refine wl_nil ?_
            refine hK14 _ _ ?_
            refine wp_ret ?_
            try simp only [Exit.then, Exit.inBlock, ↓reduceIte]
            refine ret1 rfl hF rfl ⟨congrArg Value.bool (Eq.symm ?_), hS.old⟩
            first
              | exact mayGo_len (fun q => b13 (by omega))
              | exact mayGo_range b21
              | exact mayGo_used (hu.trans (congrArg some c26))
              | exact mayGo_hit he ((zip_at hx huk).trans (congrArg (fun z => some (x, z)) b38)) b46 c58
              | exact mayGo_all he hlen hi0 (hu.trans (congrArg some c26)) (by omega) hall

set_option maxHeartbeats 4000000 in
set_option maxRecDepth 20000 in
theorem implMayGo_c {W : World} {va vb : Value} {es : List Sl.Event} {used : List Bool} {i : Int} (ha : eventEK.Rd W va es) (hb : boolEK.Rd W vb used) : Calls Try.prog 30 #[va, vb, vi i] W (Ret fun v w' => v = .bool (mayGo es used i) ∧ Below W.heap.size W w') := by
  refine calls_fr Try.func30 rfl Try.ntmps30 rfl ?_
  intro a hF
  have hS := Sep.refl W
  obtain ⟨A_a, q_a, rfl, hq_a, hn_a⟩ := ha.sl; unfold maxLen at hn_a
  obtain ⟨A_b, q_b, rfl, hq_b, hn_b⟩ := hb.sl; unfold maxLen at hn_b
  have e0 : IntKind.i64.wrap ((es.length : Int) - 1) = es.length - 1 := w64_id (by omega) (by omega)
  refine wp_seq_k fun K1 hK1 => ?_
  refine wp_region_lit ?_
  refine wl hF rfl rfl rfl (r_assign ec) ?_; clear hF a; intro a hF
  refine wl_nil ?_
  refine hK1 _ _ ?_
  refine wp_seq_k fun K2 hK2 => ?_
  refine wp_seq_k fun K3 hK3 => ?_
  refine wp_region_lit ?_
  refine wl hF rfl rfl rfl (r_move (hF.ev rfl)) ?_; clear hF a; intro a hF
  refine wl hF rfl rfl rfl (r_len ul37 (hF.ev rfl)) ?_; clear hF a; intro a hF
  refine wl hF rfl rfl rfl (r_move (hF.ev rfl)) ?_; clear hF a; intro a hF
  refine wl hF rfl rfl rfl (r_len ul40 (hF.ev rfl)) ?_; clear hF a; intro a hF
  refine wl hF rfl rfl rfl (r_neq (hF.ev rfl) (hF.ev rfl)) ?_; clear hF a; intro a hF
  refine wl hF rfl rfl rfl (r_move (hF.ev rfl)) ?_; clear hF a; intro a hF
  revert hF; intro hF0; refine bsplit (t := 14) hF0 rfl (fun b14 hF => ?_) (fun b14 hF => ?_)
  ·
    clear hF0
    try simp only [decide_eq_true_eq, decide_eq_false_iff_not, Bool.not_eq_true', Bool.not_eq_false'] at b14
    refine wl_skip hF rfl rfl rfl rfl rfl rfl ?_; clear hF a; intro a hF
    refine wl_skip hF rfl rfl rfl rfl rfl rfl ?_; clear hF a; intro a hF
    refine wl_skip hF rfl rfl rfl rfl rfl rfl ?_; clear hF a; intro a hF
    refine wl_skip hF rfl rfl rfl rfl rfl rfl ?_; clear hF a; intro a hF
    refine wl_skip hF rfl rfl rfl rfl rfl rfl ?_; clear hF a; intro a hF
    refine wl_skip hF rfl rfl rfl rfl rfl rfl ?_; clear hF a; intro a hF
    refine wl hF rfl rfl rfl (r_pick_t (hF.ev rfl) ec) ?_; clear hF a; intro a hF
    refine wl hF rfl rfl rfl (r_move (hF.ev rfl)) ?_; clear hF a; intro a hF
    refine wl_skip hF rfl rfl rfl rfl rfl rfl ?_; clear hF a; intro a hF
    refine wl_skip hF rfl rfl rfl rfl rfl rfl ?_; clear hF a; intro a hF
    refine wl_skip hF rfl rfl rfl rfl rfl rfl ?_; clear hF a; intro a hF
    refine wl_skip hF rfl rfl rfl rfl rfl rfl ?_; clear hF a; intro a hF
    refine wl hF rfl rfl rfl (r_pick_t (hF.ev rfl) ec) ?_; clear hF a; intro a hF
    refine wl_nil ?_
    refine hK3 _ _ ?_
    refine wc_true (hF.ev rfl) ?_
    refine wp_seq_k fun K4 hK4 => ?_
    refine wp_region_lit ?_
    refine wl hF rfl rfl rfl (r_assign ec) ?_; clear hF a; intro a hF
    refine wl_nil ?_
    refine hK4 _ _ ?_
    refine wp_ret ?_
    try simp only [Exit.then, Exit.inBlock, ↓reduceIte]
    refine ret1 rfl hF rfl ⟨congrArg Value.bool (Eq.symm ?_), hS.old⟩
    first
      | exact mayGo_len (fun q => b14 (by omega))
      | exact mayGo_range b22
      | exact mayGo_used (hu.trans (congrArg some c27))
      | exact mayGo_hit he ((zip_at hx huk).trans (congrArg (fun z => some (x, z)) b40)) b45 c54
      | exact mayGo_all he hlen hi0 (hu.trans (congrArg some c27)) (by omega) hall
  ·
    clear hF0
    try simp only [decide_eq_true_eq, decide_eq_false_iff_not, Bool.not_eq_true', Bool.not_eq_false'] at b14
    refine wl_take hF rfl rfl rfl rfl ?_
    refine wl hF rfl rfl rfl (r_move (hF.ev rfl)) ?_; clear hF a; intro a hF
    refine wl_take hF rfl rfl rfl rfl ?_
    refine wl hF rfl rfl rfl (r_move (hF.ev rfl)) ?_; clear hF a; intro a hF
    refine wl_take hF rfl rfl rfl rfl ?_
    refine wl hF rfl rfl rfl (r_len ul40 (hF.ev rfl)) ?_; clear hF a; intro a hF
    refine wl_take hF rfl rfl rfl rfl ?_
    refine wl hF rfl rfl rfl (r_sub (hF.ev rfl) ec) ?_; clear hF a; intro a hF
    refine wl_take hF rfl rfl rfl rfl ?_
    refine wl_call hF rfl rfl rfl (r_call3 en74 (hF.ev rfl) ec (hF.ev rfl)) (in_c _ _ _) ?_; clear hF a; rintro v w1 a ⟨rfl, hB_⟩ hF; replace hS := hS.ext hB_; clear hB_
    refine wl_take hF rfl rfl rfl rfl ?_
    refine wl hF rfl rfl rfl (r_not (hF.ev rfl)) ?_; clear hF a; intro a hF
    refine wl hF rfl rfl rfl (r_pick_f (hF.ev rfl) (hF.ev rfl)) ?_; clear hF a; intro a hF
    refine wl hF rfl rfl rfl (r_move (hF.ev rfl)) ?_; clear hF a; intro a hF
    revert hF; intro hF0; refine bsplit (t := 22) hF0 rfl (fun b22 hF => ?_) (fun b22 hF => ?_)
    ·
      clear hF0
      try simp only [decide_eq_true_eq, decide_eq_false_iff_not, Bool.not_eq_true', Bool.not_eq_false'] at b22
      rw [e0] at b22
      refine wl_skip hF rfl rfl rfl rfl rfl rfl ?_; clear hF a; intro a hF
      refine wl_skip hF rfl rfl rfl rfl rfl rfl ?_; clear hF a; intro a hF
      refine wl_skip hF rfl rfl rfl rfl rfl rfl ?_; clear hF a; intro a hF
      refine wl_skip hF rfl rfl rfl rfl rfl rfl ?_; clear hF a; intro a hF
      refine wl hF rfl rfl rfl (r_pick_t (hF.ev rfl) ec) ?_; clear hF a; intro a hF
      refine wl_nil ?_
      refine hK3 _ _ ?_
      refine wc_true (hF.ev rfl) ?_
      refine wp_seq_k fun K5 hK5 => ?_
      refine wp_region_lit ?_
      refine wl hF rfl rfl rfl (r_assign ec) ?_; clear hF a; intro a hF
      refine wl_nil ?_
      refine hK5 _ _ ?_
      refine wp_ret ?_
      try simp only [Exit.then, Exit.inBlock, ↓reduceIte]
      refine ret1 rfl hF rfl ⟨congrArg Value.bool (Eq.symm ?_), hS.old⟩
      first
        | exact mayGo_len (fun q => b14 (by omega))
        | exact mayGo_range b22
        | exact mayGo_used (hu.trans (congrArg some c27))
        | exact mayGo_hit he ((zip_at hx huk).trans (congrArg (fun z => some (x, z)) b40)) b45 c54
        | exact mayGo_all he hlen hi0 (hu.trans (congrArg some c27)) (by omega) hall
    ·
      clear hF0
      try simp only [decide_eq_true_eq, decide_eq_false_iff_not, Bool.not_eq_true', Bool.not_eq_false'] at b22
      rw [e0] at b22
      obtain ⟨hi0, hi1⟩ := b22
      obtain ⟨e, he⟩ : ∃ e, es[i.toNat]? = some e := ⟨_, List.getElem?_eq_getElem (by omega)⟩
      obtain ⟨u, hu⟩ : ∃ u, used[i.toNat]? = some u := ⟨_, List.getElem?_eq_getElem (by omega)⟩
      refine wl_take hF rfl rfl rfl rfl ?_
      refine wl hF rfl rfl rfl (r_move (hF.ev rfl)) ?_; clear hF a; intro a hF
      refine wl_take hF rfl rfl rfl rfl ?_
      refine wl hF rfl rfl rfl (r_move (hF.ev rfl)) ?_; clear hF a; intro a hF
      refine wl_take hF rfl rfl rfl rfl ?_
      obtain ⟨g25, o25, m25, q25, hv25, hm25, hl25, hc25⟩ := Rd.idxF (hS.rd hb) hu
      refine wl hF rfl rfl rfl (r_index sl37 ((hF.ev rfl).trans hv25) (hF.ev rfl) (by omega) (by omega)) ?_; clear hF a; intro a hF
      refine wl_take hF rfl rfl rfl rfl ?_
      refine wl hF rfl rfl rfl (r_load1 sc4 (hF.ev rfl) (hc25 0 _ rfl)) ?_; clear hF a; intro a hF
      refine wl hF rfl rfl rfl (r_pick_f (hF.ev rfl) (hF.ev rfl)) ?_; clear hF a; intro a hF
      refine wl_nil ?_
      refine hK3 _ _ ?_
      first | refine wc_dec (hF.ev rfl) (fun c27 => ?_) (fun c27 => ?_) | refine wc_ndec (hF.ev rfl) (fun c27 => ?_) (fun c27 => ?_) | refine wc_b (hF.ev rfl) (fun c27 => ?_) (fun c27 => ?_)
      ·
        refine wp_seq_k fun K6 hK6 => ?_
        refine wp_region_lit ?_
        refine wl hF rfl rfl rfl (r_assign ec) ?_; clear hF a; intro a hF
        refine wl_nil ?_
        refine hK6 _ _ ?_
        refine wp_ret ?_
        try simp only [Exit.then, Exit.inBlock, ↓reduceIte]
        refine ret1 rfl hF rfl ⟨congrArg Value.bool (Eq.symm ?_), hS.old⟩
        first
          | exact mayGo_len (fun q => b14 (by omega))
          | exact mayGo_range b22
          | exact mayGo_used (hu.trans (congrArg some c27))
          | exact mayGo_hit he ((zip_at hx huk).trans (congrArg (fun z => some (x, z)) b40)) b45 c54
          | exact mayGo_all he hlen hi0 (hu.trans (congrArg some c27)) (by omega) hall
      ·
        refine wp_skip ?_
        refine hK2 _ _ ?_
        refine wp_seq_k fun K7 hK7 => ?_
        refine wp_seq_k fun K8 hK8 => ?_
        refine wp_region_lit ?_
        refine wl hF rfl rfl rfl (r_move (hF.ev rfl)) ?_; clear hF a; intro a hF
        refine wl hF rfl rfl rfl (r_len ul40 (hF.ev rfl)) ?_; clear hF a; intro a hF
        refine wl hF rfl rfl rfl (r_move ec) ?_; clear hF a; intro a hF
        refine wl_nil ?_
        refine hK8 _ _ ?_
        refine wp_block ?_
        refine wp_loop_g (σ := Nat) (fun k a w => k ≤ es.length ∧ used.length = es.length ∧ ((es.zip used).take k).all (fun p => p.2 || !decide (0 ≤ p.1.fin) || !decide (p.1.fin < e.start)) = true ∧ Sep W [] w ∧ Fr 56 [(30, vi k), (29, vi es.length), (28, .slice A_a es.length q_a), (2, vi i), (1, .slice A_b used.length q_b), (0, .slice A_a es.length q_a)] a) (fun k => es.length - k) 0 ?_ ?_
        · exact ⟨Nat.zero_le _, by omega, by simp, hS, ((((((hF.nil.keep hF (t := 0) rfl).keep hF (t := 1) rfl).keep hF (t := 2) rfl).keep hF (t := 28) rfl).keep hF (t := 29) rfl).keep hF (t := 30) rfl)⟩
        ·
          clear hF hS a
          rintro k a w ⟨hk, hlen, hall, hS, hF⟩
          refine wp_seq_k fun K9 hK9 => ?_
          refine wp_region_lit ?_
          refine wl hF rfl rfl rfl (r_lss (hF.ev rfl) (hF.ev rfl)) ?_; clear hF a; intro a hF
          refine wl_nil ?_
          refine hK9 _ _ ?_
          refine wp_seq_k fun K10 hK10 => ?_
          first | refine wc_dec (hF.ev rfl) (fun c31 => ?_) (fun c31 => ?_) | refine wc_ndec (hF.ev rfl) (fun c31 => ?_) (fun c31 => ?_) | refine wc_b (hF.ev rfl) (fun c31 => ?_) (fun c31 => ?_)
          ·
            have hlt : k < es.length := by omega
            obtain ⟨x, hx⟩ : ∃ x, es[k]? = some x := ⟨_, List.getElem?_eq_getElem hlt⟩
            obtain ⟨uk, huk⟩ : ∃ u, used[k]? = some u := ⟨_, List.getElem?_eq_getElem (by omega)⟩
            refine wp_skip ?_
            refine hK10 _ _ ?_
            refine wp_seq_k fun K11 hK11 => ?_
            refine wp_block ?_
            refine wp_seq_k fun K12 hK12 => ?_
            refine wp_region_lit ?_
            refine wl hF rfl rfl rfl (r_move (hF.ev rfl)) ?_; clear hF a; intro a hF
            obtain ⟨g33, o33, m33, q33, hv33, hm33, hl33, hc33⟩ := Rd.idxF (hS.rd ha) hx
            refine wl hF rfl rfl rfl (r_index sl40 ((hF.ev rfl).trans hv33) (hF.ev rfl) (by omega) (by omega)) ?_; clear hF a; intro a hF
            refine wl hF rfl rfl rfl (r_loadn ag82 (hF.ev rfl) (hc33) sz82) ?_; clear hF a; intro a hF
            refine wl_alloc hF hS rfl zr82 ?_; clear hF a; intro g1 w2 a hS_ hB_ hF; replace hS := hS_; clear hS_ hB_
            refine wl hF rfl rfl rfl (r_assign (hF.ev rfl)) ?_; clear hF a; intro a hF
            refine wl_storen hF hS (i := 0) rfl (hF.ev rfl) (hF.ev rfl) sz82 rfl rfl ?_; intro w3 hS_; replace hS := hS_; clear hS_; dsimp only [List.set, List.take, List.drop, List.length, List.cons_append, List.nil_append, Nat.add_zero, Nat.zero_add, Nat.reduceAdd] at hS
            refine wl_nil ?_
            refine hK12 _ _ ?_
            refine wp_seq_k fun K13 hK13 => ?_
            refine wp_region_calm (by kernel_rfl) (by kernel_rfl) ?_
            refine wq hF rfl rfl rfl (fun w_ hB_ => r_move (hF.ev rfl)) ?_; clear hF a; intro a hF
            refine wq hF rfl rfl rfl (fun w_ hB_ => r_move (hF.ev rfl)) ?_; clear hF a; intro a hF
            obtain ⟨g37, o37, m37, q37, hv37, hm37, hl37, hc37⟩ := Rd.idxF (hS.rd hb) huk
            refine wq hF rfl rfl rfl (fun w_ hB_ => r_index sl37 ((hF.ev rfl).trans hv37) (hF.ev rfl) (by omega) (by omega)) ?_; clear hF a; intro a hF
            refine wq hF rfl rfl rfl (fun w_ hB_ => r_load1 sc4 (hF.ev rfl) (cellB hB_ (hc37 0 _ rfl))) ?_; clear hF a; intro a hF
            refine wq hF rfl rfl rfl (fun w_ hB_ => r_not (hF.ev rfl)) ?_; clear hF a; intro a hF
            refine wq hF rfl rfl rfl (fun w_ hB_ => r_move (hF.ev rfl)) ?_; clear hF a; intro a hF
            revert hF; intro hF0; refine bsplit (t := 40) hF0 rfl (fun b40 hF => ?_) (fun b40 hF => ?_)
            ·
              clear hF0
              try simp only [decide_eq_true_eq, decide_eq_false_iff_not, Bool.not_eq_true', Bool.not_eq_false'] at b40
              refine wq_take hF rfl rfl rfl rfl ?_
              refine wq hF rfl rfl rfl (fun w_ hB_ => r_field fo82_4 (hF.ev rfl)) ?_; clear hF a; intro a hF
              refine wq_take hF rfl rfl rfl rfl ?_
              refine wq hF rfl rfl rfl (fun w_ hB_ => r_load1 sc3 (hF.ev rfl) ((hS.ext hB_).box (i := 0) rfl rfl)) ?_; clear hF a; intro a hF
              refine wq_take hF rfl rfl rfl rfl ?_
              refine wq hF rfl rfl rfl (fun w_ hB_ => r_geq (hF.ev rfl) ec) ?_; clear hF a; intro a hF
              refine wq hF rfl rfl rfl (fun w_ hB_ => r_pick_t (hF.ev rfl) (hF.ev rfl)) ?_; clear hF a; intro a hF
              refine wq hF rfl rfl rfl (fun w_ hB_ => r_move (hF.ev rfl)) ?_; clear hF a; intro a hF
              revert hF; intro hF0; refine bsplit (t := 45) hF0 rfl (fun b45 hF => ?_) (fun b45 hF => ?_)
              ·
                clear hF0
                try simp only [decide_eq_true_eq, decide_eq_false_iff_not, Bool.not_eq_true', Bool.not_eq_false'] at b45
                refine wq_take hF rfl rfl rfl rfl ?_
                refine wq hF rfl rfl rfl (fun w_ hB_ => r_field fo82_4 (hF.ev rfl)) ?_; clear hF a; intro a hF
                refine wq_take hF rfl rfl rfl rfl ?_
                refine wq hF rfl rfl rfl (fun w_ hB_ => r_load1 sc3 (hF.ev rfl) ((hS.ext hB_).box (i := 0) rfl rfl)) ?_; clear hF a; intro a hF
                refine wq_take hF rfl rfl rfl rfl ?_
                refine wq hF rfl rfl rfl (fun w_ hB_ => r_move (hF.ev rfl)) ?_; clear hF a; intro a hF
                refine wq_take hF rfl rfl rfl rfl ?_
                refine wq hF rfl rfl rfl (fun w_ hB_ => r_move (hF.ev rfl)) ?_; clear hF a; intro a hF
                refine wq_take hF rfl rfl rfl rfl ?_
                obtain ⟨g50, o50, m50, q50, hv50, hm50, hl50, hc50⟩ := Rd.idxF (hS.rd ha) he
                refine wq hF rfl rfl rfl (fun w_ hB_ => r_index sl40 ((hF.ev rfl).trans hv50) (hF.ev rfl) (by omega) (by omega)) ?_; clear hF a; intro a hF
                refine wq_take hF rfl rfl rfl rfl ?_
                refine wq hF rfl rfl rfl (fun w_ hB_ => r_field fo82_3 (hF.ev rfl)) ?_; clear hF a; intro a hF
                refine wq_take hF rfl rfl rfl rfl ?_
                refine wq hF rfl rfl rfl (fun w_ hB_ => r_load1 sc3 (hF.ev rfl) (cellB hB_ (hc50 6 _ rfl))) ?_; clear hF a; intro a hF
                refine wq_take hF rfl rfl rfl rfl ?_
                refine wq hF rfl rfl rfl (fun w_ hB_ => r_lss (hF.ev rfl) (hF.ev rfl)) ?_; clear hF a; intro a hF
                refine wq hF rfl rfl rfl (fun w_ hB_ => r_pick_t (hF.ev rfl) (hF.ev rfl)) ?_; clear hF a; intro a hF
                refine wpQuiet_nil ?_; intro w4 hB_; replace hS := hS.ext hB_; clear hB_
                refine hK13 _ _ ?_
                first | refine wc_dec (hF.ev rfl) (fun c54 => ?_) (fun c54 => ?_) | refine wc_ndec (hF.ev rfl) (fun c54 => ?_) (fun c54 => ?_) | refine wc_b (hF.ev rfl) (fun c54 => ?_) (fun c54 => ?_)
                ·
                  refine wp_seq_k fun K14 hK14 => ?_
                  refine wp_region_lit ?_
                  refine wl hF rfl rfl rfl (r_assign ec) ?_; clear hF a; intro a hF
                  refine wl_nil ?_
                  refine hK14 _ _ ?_
                  refine wp_ret ?_
                  try simp only [Exit.then, Exit.inBlock, ↓reduceIte]
                  refine ret1 rfl hF rfl ⟨congrArg Value.bool (Eq.symm ?_), hS.old⟩
                  first
                    | exact mayGo_len (fun q => b14 (by omega))
                    | exact mayGo_range b22
                    | exact mayGo_used (hu.trans (congrArg some c27))
                    | exact mayGo_hit he ((zip_at hx huk).trans (congrArg (fun z => some (x, z)) b40)) b45 c54
                    | exact mayGo_all he hlen hi0 (hu.trans (congrArg some c27)) (by omega) hall
                ·
                  refine wp_skip ?_
                  simp only [Exit.then, Exit.inBlock, ↓reduceIte]
                  refine hK11 _ _ ?_
                  refine wp_region_lit ?_
                  refine wl hF rfl rfl rfl (r_add (hF.ev rfl) ec) ?_; clear hF a; intro a hF
                  refine wl hF rfl rfl rfl (r_move (hF.ev rfl)) ?_; clear hF a; intro a hF
                  refine wl_nil ?_
                  try simp only [Exit.then, Exit.inBlock, ↓reduceIte]
                  refine ⟨k + 1, ⟨by omega, hlen, all_next hall (zip_at hx huk) ?_, hS.pick [] (by decide) rfl, ((((((hF.nil.keep hF (t := 0) rfl).keep hF (t := 1) rfl).keep hF (t := 2) rfl).keep hF (t := 28) rfl).keep hF (t := 29) rfl).keepE hF (t := 30) rfl (wk (by omega)))⟩, by omega⟩
                  first | (simp_all; done) | (cases uk <;> simp_all <;> omega)
              ·
                clear hF0
                try simp only [decide_eq_true_eq, decide_eq_false_iff_not, Bool.not_eq_true', Bool.not_eq_false'] at b45
                refine wq_skip hF rfl rfl rfl rfl rfl rfl ?_; clear hF a; intro a hF
                refine wq_skip hF rfl rfl rfl rfl rfl rfl ?_; clear hF a; intro a hF
                refine wq_skip hF rfl rfl rfl rfl rfl rfl ?_; clear hF a; intro a hF
                refine wq_skip hF rfl rfl rfl rfl rfl rfl ?_; clear hF a; intro a hF
                refine wq_skip hF rfl rfl rfl rfl rfl rfl ?_; clear hF a; intro a hF
                refine wq_skip hF rfl rfl rfl rfl rfl rfl ?_; clear hF a; intro a hF
                refine wq_skip hF rfl rfl rfl rfl rfl rfl ?_; clear hF a; intro a hF
                refine wq_skip hF rfl rfl rfl rfl rfl rfl ?_; clear hF a; intro a hF
                refine wq hF rfl rfl rfl (fun w_ hB_ => r_pick_f (hF.ev rfl) ec) ?_; clear hF a; intro a hF
                refine wpQuiet_nil ?_; intro w5 hB_; replace hS := hS.ext hB_; clear hB_
                refine hK13 _ _ ?_
                refine wc_false (hF.ev rfl) ?_
                refine wp_skip ?_
                simp only [Exit.then, Exit.inBlock, ↓reduceIte]
                refine hK11 _ _ ?_
                refine wp_region_lit ?_
                refine wl hF rfl rfl rfl (r_add (hF.ev rfl) ec) ?_; clear hF a; intro a hF
                refine wl hF rfl rfl rfl (r_move (hF.ev rfl)) ?_; clear hF a; intro a hF
                refine wl_nil ?_
                try simp only [Exit.then, Exit.inBlock, ↓reduceIte]
                refine ⟨k + 1, ⟨by omega, hlen, all_next hall (zip_at hx huk) ?_, hS.pick [] (by decide) rfl, ((((((hF.nil.keep hF (t := 0) rfl).keep hF (t := 1) rfl).keep hF (t := 2) rfl).keep hF (t := 28) rfl).keep hF (t := 29) rfl).keepE hF (t := 30) rfl (wk (by omega)))⟩, by omega⟩
                first | (simp_all; done) | (cases uk <;> simp_all <;> omega)
            ·
              clear hF0
              try simp only [decide_eq_true_eq, decide_eq_false_iff_not, Bool.not_eq_true', Bool.not_eq_false'] at b40
              refine wq_skip hF rfl rfl rfl rfl rfl rfl ?_; clear hF a; intro a hF
              refine wq_skip hF rfl rfl rfl rfl rfl rfl ?_; clear hF a; intro a hF
              refine wq_skip hF rfl rfl rfl rfl rfl rfl ?_; clear hF a; intro a hF
              refine wq hF rfl rfl rfl (fun w_ hB_ => r_pick_f (hF.ev rfl) ec) ?_; clear hF a; intro a hF
              refine wq hF rfl rfl rfl (fun w_ hB_ => r_move (hF.ev rfl)) ?_; clear hF a; intro a hF
              refine wq_skip hF rfl rfl rfl rfl rfl rfl ?_; clear hF a; intro a hF
              refine wq_skip hF rfl rfl rfl rfl rfl rfl ?_; clear hF a; intro a hF
              refine wq_skip hF rfl rfl rfl rfl rfl rfl ?_; clear hF a; intro a hF
              refine wq_skip hF rfl rfl rfl rfl rfl rfl ?_; clear hF a; intro a hF
              refine wq_skip hF rfl rfl rfl rfl rfl rfl ?_; clear hF a; intro a hF
              refine wq_skip hF rfl rfl rfl rfl rfl rfl ?_; clear hF a; intro a hF
              refine wq_skip hF rfl rfl rfl rfl rfl rfl ?_; clear hF a; intro a hF
              refine wq_skip hF rfl rfl rfl rfl rfl rfl ?_; clear hF a; intro a hF
              refine wq hF rfl rfl rfl (fun w_ hB_ => r_pick_f (hF.ev rfl) ec) ?_; clear hF a; intro a hF
              refine wpQuiet_nil ?_; intro w6 hB_; replace hS := hS.ext hB_; clear hB_
              refine hK13 _ _ ?_
              refine wc_false (hF.ev rfl) ?_
              refine wp_skip ?_
              simp only [Exit.then, Exit.inBlock, ↓reduceIte]
              refine hK11 _ _ ?_
              refine wp_region_lit ?_
              refine wl hF rfl rfl rfl (r_add (hF.ev rfl) ec) ?_; clear hF a; intro a hF
              refine wl hF rfl rfl rfl (r_move (hF.ev rfl)) ?_; clear hF a; intro a hF
              refine wl_nil ?_
              try simp only [Exit.then, Exit.inBlock, ↓reduceIte]
              refine ⟨k + 1, ⟨by omega, hlen, all_next hall (zip_at hx huk) ?_, hS.pick [] (by decide) rfl, ((((((hF.nil.keep hF (t := 0) rfl).keep hF (t := 1) rfl).keep hF (t := 2) rfl).keep hF (t := 28) rfl).keep hF (t := 29) rfl).keepE hF (t := 30) rfl (wk (by omega)))⟩, by omega⟩
              first | (simp_all; done) | (cases uk <;> simp_all <;> omega)
          ·
            refine wp_exit ?_
            simp only [Exit.then, Exit.inBlock, ↓reduceIte]
            refine hK7 _ _ ?_
            refine wp_seq_k fun K15 hK15 => ?_
            refine wp_region_lit ?_
            refine wl hF rfl rfl rfl (r_assign ec) ?_; clear hF a; intro a hF
            refine wl_nil ?_
            refine hK15 _ _ ?_
            refine wp_ret ?_
            try simp only [Exit.then, Exit.inBlock, ↓reduceIte]
            refine ret1 rfl hF rfl ⟨congrArg Value.bool (Eq.symm ?_), hS.old⟩
            first
              | exact mayGo_len (fun q => b14 (by omega))
              | exact mayGo_range b22
              | exact mayGo_used (hu.trans (congrArg some c27))
              | exact mayGo_hit he ((zip_at hx huk).trans (congrArg (fun z => some (x, z)) b40)) b45 c54
              | exact mayGo_all he hlen hi0 (hu.trans (congrArg some c27)) (by omega) hall

set_option maxHeartbeats 4000000 in
set_option maxRecDepth 20000 in
theorem law_FnExactMayGoNext {W : World} {va vb : Value} {es : List Sl.Event} {used : List Bool} {i : Int} (ha : eventEK.Rd W va es) (hb : boolEK.Rd W vb used) : Calls Try.prog 5 #[va, vb, vi i] W (Ret fun v w' => v = .bool true ∧ Below W.heap.size W w') := by
  refine calls_fr Try.func5 rfl Try.ntmps5 rfl ?_
  intro a hF
  have hS := Sep.refl W
  obtain ⟨A_b, q_b, rfl, hq_b, hn_b⟩ := hb.sl; unfold maxLen at hn_b
  refine wp_seq_k fun K1 hK1 => ?_
  refine wp_region_lit ?_
  refine wl hF rfl rfl rfl (r_assign ec) ?_; clear hF a; intro a hF
  refine wl_nil ?_
  refine hK1 _ _ ?_
  refine wp_seq_k fun K2 hK2 => ?_
  refine wp_seq_k fun K3 hK3 => ?_
  refine wp_region_lit ?_
  refine wl hF rfl rfl rfl (r_move (hF.ev rfl)) ?_; clear hF a; intro a hF
  refine wl hF rfl rfl rfl (r_len ul37 (hF.ev rfl)) ?_; clear hF a; intro a hF
  refine wl hF rfl rfl rfl (r_gtr (hF.ev rfl) ec) ?_; clear hF a; intro a hF
  refine wl_nil ?_
  refine hK3 _ _ ?_
  first | refine wc_dec (hF.ev rfl) (fun c14 => ?_) (fun c14 => ?_) | refine wc_ndec (hF.ev rfl) (fun c14 => ?_) (fun c14 => ?_) | refine wc_b (hF.ev rfl) (fun c14 => ?_) (fun c14 => ?_)
  ·
    refine wp_seq_k fun K4 hK4 => ?_
    refine wp_region_lit ?_
    refine wl hF rfl rfl rfl (r_assign ec) ?_; clear hF a; intro a hF
    refine wl_nil ?_
    refine hK4 _ _ ?_
    refine wp_ret ?_
    try simp only [Exit.then, Exit.inBlock, ↓reduceIte]
    exact ret1 rfl hF rfl ⟨rfl, hS.old⟩
  ·
    refine wp_skip ?_
    refine hK2 _ _ ?_
    refine wp_seq_k fun K5 hK5 => ?_
    refine wp_region_lit ?_
    refine wl hF rfl rfl rfl (r_assign ec) ?_; clear hF a; intro a hF
    refine wl_nil ?_
    refine hK5 _ _ ?_
    refine wp_seq_k fun K6 hK6 => ?_
    refine wp_region_lit ?_
    refine wl hF rfl rfl rfl (r_move (hF.ev rfl)) ?_; clear hF a; intro a hF
    refine wl hF rfl rfl rfl (r_move (hF.ev rfl)) ?_; clear hF a; intro a hF
    refine wl_call hF rfl rfl rfl (r_call2 en26 (hF.ev rfl) (hF.ev rfl)) (szEventS_c (hS.rd ha) (by omega) (by omega)) ?_; clear hF a; rintro v w1 a ⟨⟨r17, rfl, e1_17, e2_17, e3_17⟩, hB_⟩ hF; replace hS := hS.ext hB_; clear hB_
    refine wl hF rfl rfl rfl (r_assign (hF.ev rfl)) ?_; clear hF a; intro a hF
    refine wl_nil ?_
    refine hK6 _ _ ?_
    refine wp_seq_k fun K7 hK7 => ?_
    refine wp_seq_k fun K8 hK8 => ?_
    refine wp_region_lit ?_
    refine wl hF rfl rfl rfl (r_move (hF.ev rfl)) ?_; clear hF a; intro a hF
    refine wl hF rfl rfl rfl (r_lss (hF.ev rfl) ec) ?_; clear hF a; intro a hF
    refine wl_nil ?_
    refine hK8 _ _ ?_
    first | refine wc_dec (hF.ev rfl) (fun c19 => ?_) (fun c19 => ?_) | refine wc_ndec (hF.ev rfl) (fun c19 => ?_) (fun c19 => ?_) | refine wc_b (hF.ev rfl) (fun c19 => ?_) (fun c19 => ?_)
    ·
      refine wp_seq_k fun K9 hK9 => ?_
      refine wp_region_lit ?_
      refine wl hF rfl rfl rfl (r_assign ec) ?_; clear hF a; intro a hF
      refine wl_nil ?_
      refine hK9 _ _ ?_
      refine wp_ret ?_
      try simp only [Exit.then, Exit.inBlock, ↓reduceIte]
      exact ret1 rfl hF rfl ⟨rfl, hS.old⟩
    ·
      refine wp_skip ?_
      refine hK7 _ _ ?_
      refine wp_seq_k fun K10 hK10 => ?_
      refine wp_region_lit ?_
      refine wl hF rfl rfl rfl (r_move (hF.ev rfl)) ?_; clear hF a; intro a hF
      refine wl_mk hF hS rfl rfl rfl (r_call1 en28 (hF.ev rfl)) (toEventS_c (hS.rd ha) (by omega)) ?_; clear hF a; rintro s21 w2 a hS_ hF; replace hS := hS_; clear hS_; dsimp only [List.cons_append, List.nil_append] at hS
      refine wl hF rfl rfl rfl (r_move (hF.ev rfl)) ?_; clear hF a; intro a hF
      refine wl_mk hF hS rfl rfl rfl (r_call1 en29 (hF.ev rfl)) (toBoolS_c (hS.rd hb) (by omega)) ?_; clear hF a; rintro s23 w3 a hS_ hF; replace hS := hS_; clear hS_; dsimp only [List.cons_append, List.nil_append] at hS
      refine wl hF rfl rfl rfl (r_move (hF.ev rfl)) ?_; clear hF a; intro a hF
      refine wl_call hF rfl rfl rfl (r_call3 en27 (hF.ev rfl) (hF.ev rfl) (hF.ev rfl)) (specMayGo_c (hS.own_rd (i := 1) rfl) (hS.own_rd (i := 0) rfl)) ?_; clear hF a; rintro v w4 a ⟨rfl, hB_⟩ hF; replace hS := hS.ext hB_; clear hB_
      refine wl hF rfl rfl rfl (r_assign (hF.ev rfl)) ?_; clear hF a; intro a hF
      refine wl_nil ?_
      refine hK10 _ _ ?_
      refine wp_seq_k fun K11 hK11 => ?_
      refine wp_region_lit ?_
      refine wl hF rfl rfl rfl (r_move (hF.ev rfl)) ?_; clear hF a; intro a hF
      refine wl_mk hF hS rfl rfl rfl (r_call1 en28 (hF.ev rfl)) (toEventS_c (hS.rd ha) (by omega)) ?_; clear hF a; rintro s27 w5 a hS_ hF; replace hS := hS_; clear hS_; dsimp only [List.cons_append, List.nil_append] at hS
      refine wl hF rfl rfl rfl (r_assign (hF.ev rfl)) ?_; clear hF a; intro a hF
      refine wl_nil ?_
      refine hK11 _ _ ?_
      refine wp_seq_k fun K12 hK12 => ?_
      refine wp_region_lit ?_
      refine wl hF rfl rfl rfl (r_move (hF.ev rfl)) ?_; clear hF a; intro a hF
      refine wl_mk hF hS rfl rfl rfl (r_call1 en29 (hF.ev rfl)) (toBoolS_c (hS.rd hb) (by omega)) ?_; clear hF a; rintro s29 w6 a hS_ hF; replace hS := hS_; clear hS_; dsimp only [List.cons_append, List.nil_append] at hS
      refine wl hF rfl rfl rfl (r_assign (hF.ev rfl)) ?_; clear hF a; intro a hF
      refine wl_nil ?_
      refine hK12 _ _ ?_
      refine wp_seq_k fun K13 hK13 => ?_
      refine wp_region_lit ?_
      refine wl hF rfl rfl rfl (r_move (hF.ev rfl)) ?_; clear hF a; intro a hF
      refine wl hF rfl rfl rfl (r_move (hF.ev rfl)) ?_; clear hF a; intro a hF
      refine wl hF rfl rfl rfl (r_move (hF.ev rfl)) ?_; clear hF a; intro a hF
      refine wl_call hF rfl rfl rfl (r_call3 en30 (hF.ev rfl) (hF.ev rfl) (hF.ev rfl)) (implMayGo_c (hS.own_rd (i := 1) rfl) (hS.own_rd (i := 0) rfl)) ?_; clear hF a; rintro v w7 a ⟨rfl, hB_⟩ hF; replace hS := hS.ext hB_; clear hB_
      refine wl hF rfl rfl rfl (r_assign (hF.ev rfl)) ?_; clear hF a; intro a hF
      refine wl_nil ?_
      refine hK13 _ _ ?_
      refine wp_seq_k fun K14 hK14 => ?_
      refine wp_seq_k fun K15 hK15 => ?_
      refine wp_region_lit ?_
      refine wl hF rfl rfl rfl (r_move (hF.ev rfl)) ?_; clear hF a; intro a hF
      refine wl hF rfl rfl rfl (r_move (hF.ev rfl)) ?_; clear hF a; intro a hF
      refine wl hF rfl rfl rfl (r_neqb bl4 (hF.ev rfl) (hF.ev rfl)) ?_; clear hF a; intro a hF
      refine wl_nil ?_
      refine hK15 _ _ ?_
      first | refine wc_dec (hF.ev rfl) (fun c36 => ?_) (fun c36 => ?_) | refine wc_ndec (hF.ev rfl) (fun c36 => ?_) (fun c36 => ?_) | refine wc_b (hF.ev rfl) (fun c36 => ?_) (fun c36 => ?_)
      · exfalso; first | omega | exact (c36 rfl).elim | (simp_all; done)
      refine wp_skip ?_
      refine hK14 _ _ ?_
      refine wp_seq_k fun K16 hK16 => ?_
      refine wp_seq_k fun K17 hK17 => ?_
      refine wp_region_lit ?_
      refine wl hF rfl rfl rfl (r_move (hF.ev rfl)) ?_; clear hF a; intro a hF
      refine wl hF rfl rfl rfl (r_move (hF.ev rfl)) ?_; clear hF a; intro a hF
      refine wl_mk hF hS rfl rfl rfl (r_call1 en28 (hF.ev rfl)) (toEventS_c (hS.rd ha) (by omega)) ?_; clear hF a; rintro s39 w8 a hS_ hF; replace hS := hS_; clear hS_; dsimp only [List.cons_append, List.nil_append] at hS
      refine wl_call hF rfl rfl rfl (r_call2 en31 (hF.ev rfl) (hF.ev rfl)) (eqEventS_same (hS.own_rd (i := 2) rfl) (hS.own_rd (i := 0) rfl)) ?_; clear hF a; rintro v w9 a ⟨rfl, hB_⟩ hF; replace hS := hS.ext hB_; clear hB_
      refine wl hF rfl rfl rfl (r_not (hF.ev rfl)) ?_; clear hF a; intro a hF
      refine wl_nil ?_
      refine hK17 _ _ ?_
      refine wc_false (hF.ev rfl) ?_
      refine wp_skip ?_
      refine hK16 _ _ ?_
      refine wp_seq_k fun K18 hK18 => ?_
      refine wp_seq_k fun K19 hK19 => ?_
      refine wp_region_lit ?_
      refine wl hF rfl rfl rfl (r_move (hF.ev rfl)) ?_; clear hF a; intro a hF
      refine wl hF rfl rfl rfl (r_move (hF.ev rfl)) ?_; clear hF a; intro a hF
      refine wl_mk hF hS rfl rfl rfl (r_call1 en29 (hF.ev rfl)) (toBoolS_c (hS.rd hb) (by omega)) ?_; clear hF a; rintro s44 w10 a hS_ hF; replace hS := hS_; clear hS_; dsimp only [List.cons_append, List.nil_append] at hS
      refine wl_call hF rfl rfl rfl (r_call2 en32 (hF.ev rfl) (hF.ev rfl)) (eqBoolS_same (hS.own_rd (i := 2) rfl) (hS.own_rd (i := 0) rfl)) ?_; clear hF a; rintro v w11 a ⟨rfl, hB_⟩ hF; replace hS := hS.ext hB_; clear hB_
      refine wl hF rfl rfl rfl (r_not (hF.ev rfl)) ?_; clear hF a; intro a hF
      refine wl_nil ?_
      refine hK19 _ _ ?_
      refine wc_false (hF.ev rfl) ?_
      refine wp_skip ?_
      refine hK18 _ _ ?_
      refine wp_seq_k fun K20 hK20 => ?_
      refine wp_region_lit ?_
      refine wl hF rfl rfl rfl (r_assign ec) ?_; clear hF a; intro a hF
      refine wl_nil ?_
      refine hK20 _ _ ?_
      refine wp_ret ?_
      try simp only [Exit.then, Exit.inBlock, ↓reduceIte]
      exact ret1 rfl hF rfl ⟨rfl, hS.old⟩

end Go.Proofs.Ytgilfekfplfohaa.Wk
