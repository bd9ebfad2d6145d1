/- Walks: whether all events are used. -/
import Derived.Test.YteldnoimmjihoaaChecked
import Derived.Test.YteldnoimmjihoaaWkX
import Derived.Test.YteldnoimmjihoaaWkNew
import Derived.Test.YteldnoimmjihoaaFactsC
namespace Go.Proofs.Yteldnoimmjihoaa.Wk
open Go Go.RowKit Sl
set_option linter.unusedVariables false
set_option linter.unusedSimpArgs false
set_option maxRecDepth 20000

/-- what MayGoNext answers -/
def mayGo (es : List Sl.Event) (used : List Bool) (i : Int) : Bool :=
  match es[i.toNat]? with
  | some e => decide (used.length = es.length) && decide (0 ≤ i) && (used[i.toNat]? == some false) && (es.zip used).all fun p => p.2 || !decide (0 ≤ p.1.fin) || !decide (p.1.fin < e.start)
  | none => false
section
variable {es : List Sl.Event} {used : List Bool} {i : Int} {e x : Sl.Event} {k : Nat} {u : Bool}
theorem mayGo_len (h : ¬ used.length = es.length) : mayGo es used i = false := by
  unfold mayGo; split <;> simp [h]
theorem mayGo_range (h : ¬ (0 ≤ i ∧ i ≤ (es.length : Int) - 1)) : mayGo es used i = false := by
  unfold mayGo
  split
  · rename_i e he
    have := (List.getElem?_eq_some_iff.1 he).1
    have h0 : ¬ 0 ≤ i := by omega
    simp [h0]
  · rfl
theorem mayGo_used (h : used[i.toNat]? = some true) : mayGo es used i = false := by
  unfold mayGo; split <;> simp [h]
theorem zip_at (hx : es[k]? = some x) (hu : used[k]? = some u) : (es.zip used)[k]? = some (x, u) := by
  rw [List.getElem?_zip_eq_some]; exact ⟨hx, hu⟩
theorem mayGo_hit (he : es[i.toNat]? = some e) (hz : (es.zip used)[k]? = some (x, false)) (h0 : 0 ≤ x.fin) (h1 : x.fin < e.start) : mayGo es used i = false := by
  unfold mayGo
  rw [he]
  have : (es.zip used).all (fun p => p.2 || !decide (0 ≤ p.1.fin) || !decide (p.1.fin < e.start)) = false := by
    rw [List.all_eq_false]
    exact ⟨_, List.mem_of_getElem? hz, by simp [h0, h1]⟩
  simp [this]
theorem mayGo_all (he : es[i.toNat]? = some e) (hl : used.length = es.length) (h0 : 0 ≤ i) (hu : used[i.toNat]? = some false) (hk : k = es.length) (ha : ((es.zip used).take k).all (fun p => p.2 || !decide (0 ≤ p.1.fin) || !decide (p.1.fin < e.start)) = true) : mayGo es used i = true := by
  unfold mayGo
  rw [he]
  rw [List.take_of_length_le (by simp; omega)] at ha
  simp only [hl, h0, hu, ha, decide_true, Bool.and_true, BEq.rfl]
theorem all_next {α : Type} {f : α → Bool} {zs : List α} {z : α} (h : (zs.take k).all f = true) (hz : zs[k]? = some z) (hf : f z = true) : (zs.take (k + 1)).all f = true := by
  rw [List.take_add_one, hz, List.all_append, h]; simp [hf]
end

set_option maxHeartbeats 4000000 in
set_option maxRecDepth 20000 in
theorem specMayGo_c {W : World} {va vb : Value} {es : List Sl.Event} {used : List Bool} {i : Int} (ha : eventEK.Rd W va es) (hb : boolEK.Rd W vb used) : Calls Try.prog 61 #[va, vb, vi i] W (Ret fun v w' => v = .bool (mayGo es used i) ∧ Below W.heap.size W w') := by
  refine calls_fr Try.func61 rfl Try.ntmps61 rfl ?_
  intro a hF
  have hS := Sep.refl W
  obtain ⟨A_a, q_a, rfl, hq_a, hn_a⟩ := ha.sl; unfold maxLen at hn_a
  obtain ⟨A_b, q_b, rfl, hq_b, hn_b⟩ := hb.sl; unfold maxLen at hn_b
  have e0 : IntKind.i64.wrap ((es.length : Int) - 1) = es.length - 1 := w64_id (by omega) (by omega)
  refine ws fun K1 hK1 => ?_
  refine wl_mvs (A := [_]) hF rfl ?_; clear hF a; intro a hF
  refine wl_nil (hK1 _ _ ?_)
  refine wp_seq_k fun K2 hK2 => ?_
  refine ws fun K3 hK3 => ?_
  refine wl_mvs (A := [_]) hF rfl ?_; clear hF a; intro a hF
  refine wl hF rfl rfl rfl (r_len ul84 (hF.ev rfl)) ?_; clear hF a; intro a hF
  refine wl_mvs (A := [_]) hF rfl ?_; clear hF a; intro a hF
  refine wl hF rfl rfl rfl (r_len ul52 (hF.ev rfl)) ?_; clear hF a; intro a hF
  refine wl hF rfl rfl rfl (r_neq (hF.ev rfl) (hF.ev rfl)) ?_; clear hF a; intro a hF
  refine wl_mvs (A := [_]) hF rfl ?_; clear hF a; intro a hF
  revert hF; intro hF0; refine bsplit (t := 13) hF0 rfl (fun b13 hF => ?_) (fun b13 hF => ?_)
  ·
    clear hF0
    try simp only [decide_eq_true_eq, decide_eq_false_iff_not, Bool.not_eq_true', Bool.not_eq_false'] at b13
    refine wl_mvs (A := [_, _, _, _, _, _]) hF rfl ?_; clear hF a; intro a hF
    refine wl hF rfl rfl rfl (r_pick_t (hF.ev rfl) ec) ?_; clear hF a; intro a hF
    refine wl_mvs (A := [_, _, _, _, _]) hF rfl ?_; clear hF a; intro a hF
    refine wl hF rfl rfl rfl (r_pick_t (hF.ev rfl) ec) ?_; clear hF a; intro a hF
    refine wl_nil (hK3 _ _ ?_)
    refine wc_true (hF.ev rfl) ?_
    refine ws fun K4 hK4 => ?_
    refine wl_mvs (A := [_]) hF rfl ?_; clear hF a; intro a hF
    refine wl_nil (hK4 _ _ ?_)
    refine wp_ret ?_
    try simp only [Exit.then, Exit.inBlock, ↓reduceIte]
    refine ret1 rfl hF rfl ⟨congrArg Value.bool (Eq.symm ?_), hS.old⟩
    first
      | exact mayGo_len (fun q => b13 (by omega))
      | exact mayGo_range b21
      | exact mayGo_used (hu.trans (congrArg some c26))
      | exact mayGo_hit he ((zip_at hx huk).trans (congrArg (fun z => some (x, z)) b38)) b46 c58
      | exact mayGo_all he hlen hi0 (hu.trans (congrArg some c26)) (by omega) hall
  clear hF0
  try simp only [decide_eq_true_eq, decide_eq_false_iff_not, Bool.not_eq_true', Bool.not_eq_false'] at b13
  refine wl_mvs (A := [_, _]) hF rfl ?_; clear hF a; intro a hF
  refine wl_take hF rfl rfl rfl rfl ?_
  refine wl hF rfl rfl rfl (r_len ul52 (hF.ev rfl)) ?_; clear hF a; intro a hF
  refine wl_take hF rfl rfl rfl rfl ?_
  refine wl hF rfl rfl rfl (r_sub (hF.ev rfl) ec) ?_; clear hF a; intro a hF
  refine wl_take hF rfl rfl rfl rfl ?_
  refine wl_call hF rfl rfl rfl (r_call3 en44 (hF.ev rfl) ec (hF.ev rfl)) (l1In_c _ _ _) ?_; clear hF a; rintro v w1 a ⟨rfl, hB_⟩ hF; replace hS := hS.ext hB_; clear hB_
  refine wl_take hF rfl rfl rfl rfl ?_
  refine wl hF rfl rfl rfl (r_not (hF.ev rfl)) ?_; clear hF a; intro a hF
  refine wl hF rfl rfl rfl (r_pick_f (hF.ev rfl) (hF.ev rfl)) ?_; clear hF a; intro a hF
  refine wl_mvs (A := [_]) hF rfl ?_; clear hF a; intro a hF
  revert hF; intro hF0; refine bsplit (t := 21) hF0 rfl (fun b21 hF => ?_) (fun b21 hF => ?_)
  ·
    clear hF0
    try simp only [decide_eq_true_eq, decide_eq_false_iff_not, Bool.not_eq_true', Bool.not_eq_false'] at b21
    rw [e0] at b21
    refine wl_mvs (A := [_, _, _, _]) hF rfl ?_; clear hF a; intro a hF
    refine wl hF rfl rfl rfl (r_pick_t (hF.ev rfl) ec) ?_; clear hF a; intro a hF
    refine wl_nil (hK3 _ _ ?_)
    refine wc_true (hF.ev rfl) ?_
    refine ws fun K5 hK5 => ?_
    refine wl_mvs (A := [_]) hF rfl ?_; clear hF a; intro a hF
    refine wl_nil (hK5 _ _ ?_)
    refine wp_ret ?_
    try simp only [Exit.then, Exit.inBlock, ↓reduceIte]
    refine ret1 rfl hF rfl ⟨congrArg Value.bool (Eq.symm ?_), hS.old⟩
    first
      | exact mayGo_len (fun q => b13 (by omega))
      | exact mayGo_range b21
      | exact mayGo_used (hu.trans (congrArg some c26))
      | exact mayGo_hit he ((zip_at hx huk).trans (congrArg (fun z => some (x, z)) b38)) b46 c58
      | exact mayGo_all he hlen hi0 (hu.trans (congrArg some c26)) (by omega) hall
  clear hF0
  try simp only [decide_eq_true_eq, decide_eq_false_iff_not, Bool.not_eq_true', Bool.not_eq_false'] at b21
  rw [e0] at b21
  obtain ⟨hi0, hi1⟩ := b21
  obtain ⟨e, he⟩ : ∃ e, es[i.toNat]? = some e := ⟨_, List.getElem?_eq_getElem (by omega)⟩
  obtain ⟨u, hu⟩ : ∃ u, used[i.toNat]? = some u := ⟨_, List.getElem?_eq_getElem (by omega)⟩
  refine wl_mvs (A := [_, _]) hF rfl ?_; clear hF a; intro a hF
  refine wl_take hF rfl rfl rfl rfl ?_
  obtain ⟨g24, o24, m24, q24, hv24, hm24, hl24, hc24⟩ := Rd.idxF (hS.rd hb) hu
  refine wl hF rfl rfl rfl (r_index sl84 ((hF.ev rfl).trans hv24) (hF.ev rfl) (by omega) (by omega)) ?_; clear hF a; intro a hF
  refine wl_take hF rfl rfl rfl rfl ?_
  refine wl hF rfl rfl rfl (r_load1 sc4 (hF.ev rfl) (hc24 0 _ rfl)) ?_; clear hF a; intro a hF
  refine wl hF rfl rfl rfl (r_pick_f (hF.ev rfl) (hF.ev rfl)) ?_; clear hF a; intro a hF
  refine wl_nil (hK3 _ _ ?_)
  first | refine wc_dec (hF.ev rfl) (fun c26 => ?_) (fun c26 => ?_) | refine wc_ndec (hF.ev rfl) (fun c26 => ?_) (fun c26 => ?_) | refine wc_b (hF.ev rfl) (fun c26 => ?_) (fun c26 => ?_)
  ·
    refine ws fun K6 hK6 => ?_
    refine wl_mvs (A := [_]) hF rfl ?_; clear hF a; intro a hF
    refine wl_nil (hK6 _ _ ?_)
    refine wp_ret ?_
    try simp only [Exit.then, Exit.inBlock, ↓reduceIte]
    refine ret1 rfl hF rfl ⟨congrArg Value.bool (Eq.symm ?_), hS.old⟩
    first
      | exact mayGo_len (fun q => b13 (by omega))
      | exact mayGo_range b21
      | exact mayGo_used (hu.trans (congrArg some c26))
      | exact mayGo_hit he ((zip_at hx huk).trans (congrArg (fun z => some (x, z)) b38)) b46 c58
      | exact mayGo_all he hlen hi0 (hu.trans (congrArg some c26)) (by omega) hall
  refine wp_skip ?_
  refine hK2 _ _ ?_
  refine wp_seq_k fun K7 hK7 => ?_
  refine ws fun K8 hK8 => ?_
  refine wl_mvs (A := [_]) hF rfl ?_; clear hF a; intro a hF
  refine wl_nil (hK8 _ _ ?_)
  refine wp_block ?_
  refine wp_loop_g (σ := Nat) (fun k a w => k ≤ es.length ∧ used.length = es.length ∧ ((es.zip used).take k).all (fun p => p.2 || !decide (0 ≤ p.1.fin) || !decide (p.1.fin < e.start)) = true ∧ Sep W [] w ∧ Fr 59 [(7, vi k), (2, vi i), (1, .slice A_b used.length q_b), (0, .slice A_a es.length q_a)] a) (fun k => es.length - k) 0 ?_ ?_
  · exact ⟨Nat.zero_le _, by omega, by simp, hS, ((((hF.nil.keep hF (t := 0) rfl).keep hF (t := 1) rfl).keep hF (t := 2) rfl).keep hF (t := 7) rfl)⟩
  clear hF hS a
  rintro k a w ⟨hk, hlen, hall, hS, hF⟩
  refine wp_seq_k fun K9 hK9 => ?_
  refine ws fun K10 hK10 => ?_
  refine wl_mvs (A := [_, _]) hF rfl ?_; clear hF a; intro a hF
  refine wl hF rfl rfl rfl (r_len ul52 (hF.ev rfl)) ?_; clear hF a; intro a hF
  refine wl hF rfl rfl rfl (r_lss (hF.ev rfl) (hF.ev rfl)) ?_; clear hF a; intro a hF
  refine wl_nil (hK10 _ _ ?_)
  first | refine wc_dec (hF.ev rfl) (fun c30 => ?_) (fun c30 => ?_) | refine wc_ndec (hF.ev rfl) (fun c30 => ?_) (fun c30 => ?_) | refine wc_b (hF.ev rfl) (fun c30 => ?_) (fun c30 => ?_)
  ·
    have hlt : k < es.length := by omega
    obtain ⟨x, hx⟩ : ∃ x, es[k]? = some x := ⟨_, List.getElem?_eq_getElem hlt⟩
    obtain ⟨uk, huk⟩ : ∃ u, used[k]? = some u := ⟨_, List.getElem?_eq_getElem (by omega)⟩
    refine wp_skip ?_
    refine hK9 _ _ ?_
    refine wp_seq_k fun K11 hK11 => ?_
    refine wp_block ?_
    refine wp_seq_k fun K12 hK12 => ?_
    refine wp_region_calm (by kernel_rfl) (by kernel_rfl) ?_
    refine wq_mvs (A := [_, _]) hF rfl ?_; clear hF a; intro a hF
    obtain ⟨g35, o35, m35, q35, hv35, hm35, hl35, hc35⟩ := Rd.idxF (hS.rd hb) huk
    refine wq hF rfl rfl rfl (fun w_ hB_ => r_index sl84 ((hF.ev rfl).trans hv35) (hF.ev rfl) (by omega) (by omega)) ?_; clear hF a; intro a hF
    refine wq hF rfl rfl rfl (fun w_ hB_ => r_load1 sc4 (hF.ev rfl) (cellB hB_ (hc35 0 _ rfl))) ?_; clear hF a; intro a hF
    refine wq hF rfl rfl rfl (fun w_ hB_ => r_not (hF.ev rfl)) ?_; clear hF a; intro a hF
    refine wq_mvs (A := [_]) hF rfl ?_; clear hF a; intro a hF
    revert hF; intro hF0; refine bsplit (t := 38) hF0 rfl (fun b38 hF => ?_) (fun b38 hF => ?_)
    ·
      clear hF0
      try simp only [decide_eq_true_eq, decide_eq_false_iff_not, Bool.not_eq_true', Bool.not_eq_false'] at b38
      refine wq_mvs (A := [_, _]) hF rfl ?_; clear hF a; intro a hF
      refine wq_take hF rfl rfl rfl rfl ?_
      obtain ⟨g41, o41, m41, q41, hv41, hm41, hl41, hc41⟩ := Rd.idxF (hS.rd ha) hx
      refine wq hF rfl rfl rfl (fun w_ hB_ => r_index sl52 ((hF.ev rfl).trans hv41) (hF.ev rfl) (by omega) (by omega)) ?_; clear hF a; intro a hF
      refine wq_take hF rfl rfl rfl rfl ?_
      refine wq hF rfl rfl rfl (fun w_ hB_ => r_field fo44_4 (hF.ev rfl)) ?_; clear hF a; intro a hF
      refine wq_take hF rfl rfl rfl rfl ?_
      refine wq hF rfl rfl rfl (fun w_ hB_ => r_load1 sc3 (hF.ev rfl) (cellB hB_ (hc41 7 _ rfl))) ?_; clear hF a; intro a hF
      refine wq_take hF rfl rfl rfl rfl ?_
      refine wq hF rfl rfl rfl (fun w_ hB_ => r_geq (hF.ev rfl) ec) ?_; clear hF a; intro a hF
      refine wq hF rfl rfl rfl (fun w_ hB_ => r_pick_t (hF.ev rfl) (hF.ev rfl)) ?_; clear hF a; intro a hF
      refine wq_mvs (A := [_]) hF rfl ?_; clear hF a; intro a hF
      revert hF; intro hF0; refine bsplit (t := 46) hF0 rfl (fun b46 hF => ?_) (fun b46 hF => ?_)
      ·
        clear hF0
        try simp only [decide_eq_true_eq, decide_eq_false_iff_not, Bool.not_eq_true', Bool.not_eq_false'] at b46
        refine wq_mvs (A := [_, _]) hF rfl ?_; clear hF a; intro a hF
        refine wq_take hF rfl rfl rfl rfl ?_
        obtain ⟨g49, o49, m49, q49, hv49, hm49, hl49, hc49⟩ := Rd.idxF (hS.rd ha) hx
        refine wq hF rfl rfl rfl (fun w_ hB_ => r_index sl52 ((hF.ev rfl).trans hv49) (hF.ev rfl) (by omega) (by omega)) ?_; clear hF a; intro a hF
        refine wq_take hF rfl rfl rfl rfl ?_
        refine wq hF rfl rfl rfl (fun w_ hB_ => r_field fo44_4 (hF.ev rfl)) ?_; clear hF a; intro a hF
        refine wq_take hF rfl rfl rfl rfl ?_
        refine wq hF rfl rfl rfl (fun w_ hB_ => r_load1 sc3 (hF.ev rfl) (cellB hB_ (hc49 7 _ rfl))) ?_; clear hF a; intro a hF
        refine wq_mvs (A := [_, _]) hF rfl ?_; clear hF a; intro a hF
        refine wq_take hF rfl rfl rfl rfl ?_
        obtain ⟨g54, o54, m54, q54, hv54, hm54, hl54, hc54⟩ := Rd.idxF (hS.rd ha) he
        refine wq hF rfl rfl rfl (fun w_ hB_ => r_index sl52 ((hF.ev rfl).trans hv54) (hF.ev rfl) (by omega) (by omega)) ?_; clear hF a; intro a hF
        refine wq_take hF rfl rfl rfl rfl ?_
        refine wq hF rfl rfl rfl (fun w_ hB_ => r_field fo44_3 (hF.ev rfl)) ?_; clear hF a; intro a hF
        refine wq_take hF rfl rfl rfl rfl ?_
        refine wq hF rfl rfl rfl (fun w_ hB_ => r_load1 sc3 (hF.ev rfl) (cellB hB_ (hc54 6 _ rfl))) ?_; clear hF a; intro a hF
        refine wq_take hF rfl rfl rfl rfl ?_
        refine wq hF rfl rfl rfl (fun w_ hB_ => r_lss (hF.ev rfl) (hF.ev rfl)) ?_; clear hF a; intro a hF
        refine wq hF rfl rfl rfl (fun w_ hB_ => r_pick_t (hF.ev rfl) (hF.ev rfl)) ?_; clear hF a; intro a hF
        refine wpQuiet_nil ?_; intro w2 hB_; replace hS := hS.ext hB_; clear hB_
        refine hK12 _ _ ?_
        first | refine wc_dec (hF.ev rfl) (fun c58 => ?_) (fun c58 => ?_) | refine wc_ndec (hF.ev rfl) (fun c58 => ?_) (fun c58 => ?_) | refine wc_b (hF.ev rfl) (fun c58 => ?_) (fun c58 => ?_)
        ·
          refine ws fun K13 hK13 => ?_
          refine wl_mvs (A := [_]) hF rfl ?_; clear hF a; intro a hF
          refine wl_nil (hK13 _ _ ?_)
          refine wp_ret ?_
          try simp only [Exit.then, Exit.inBlock, ↓reduceIte]
          refine ret1 rfl hF rfl ⟨congrArg Value.bool (Eq.symm ?_), hS.old⟩
          first
            | exact mayGo_len (fun q => b13 (by omega))
            | exact mayGo_range b21
            | exact mayGo_used (hu.trans (congrArg some c26))
            | exact mayGo_hit he ((zip_at hx huk).trans (congrArg (fun z => some (x, z)) b38)) b46 c58
            | exact mayGo_all he hlen hi0 (hu.trans (congrArg some c26)) (by omega) hall
        refine wp_skip ?_
        simp only [Exit.then, Exit.inBlock, ↓reduceIte]
        refine hK11 _ _ ?_
        refine wp_region_lit ?_
        refine wl_mvs (A := [_]) hF rfl ?_; clear hF a; intro a hF
        refine wl hF rfl rfl rfl (r_add (hF.ev rfl) ec) ?_; clear hF a; intro a hF
        refine wl_mvs (A := [_]) hF rfl ?_; clear hF a; intro a hF
        refine wl_nil ?_
        try simp only [Exit.then, Exit.inBlock, ↓reduceIte]
        refine ⟨k + 1, ⟨by omega, hlen, all_next hall (zip_at hx huk) ?_, hS, ((((hF.nil.keep hF (t := 0) rfl).keep hF (t := 1) rfl).keep hF (t := 2) rfl).keepE hF (t := 7) rfl (wk (by omega)))⟩, by omega⟩
        first | (simp_all; done) | (cases uk <;> simp_all <;> omega)
      clear hF0
      try simp only [decide_eq_true_eq, decide_eq_false_iff_not, Bool.not_eq_true', Bool.not_eq_false'] at b46
      refine wq_mvs (A := [_, _, _, _, _, _, _, _, _, _, _]) hF rfl ?_; clear hF a; intro a hF
      refine wq hF rfl rfl rfl (fun w_ hB_ => r_pick_f (hF.ev rfl) ec) ?_; clear hF a; intro a hF
      refine wpQuiet_nil ?_; intro w3 hB_; replace hS := hS.ext hB_; clear hB_
      refine hK12 _ _ ?_
      refine wc_false (hF.ev rfl) ?_
      refine wp_skip ?_
      simp only [Exit.then, Exit.inBlock, ↓reduceIte]
      refine hK11 _ _ ?_
      refine wp_region_lit ?_
      refine wl_mvs (A := [_]) hF rfl ?_; clear hF a; intro a hF
      refine wl hF rfl rfl rfl (r_add (hF.ev rfl) ec) ?_; clear hF a; intro a hF
      refine wl_mvs (A := [_]) hF rfl ?_; clear hF a; intro a hF
      refine wl_nil ?_
      try simp only [Exit.then, Exit.inBlock, ↓reduceIte]
      refine ⟨k + 1, ⟨by omega, hlen, all_next hall (zip_at hx huk) ?_, hS, ((((hF.nil.keep hF (t := 0) rfl).keep hF (t := 1) rfl).keep hF (t := 2) rfl).keepE hF (t := 7) rfl (wk (by omega)))⟩, by omega⟩
      first | (simp_all; done) | (cases uk <;> simp_all <;> omega)
    clear hF0
    try simp only [decide_eq_true_eq, decide_eq_false_iff_not, Bool.not_eq_true', Bool.not_eq_false'] at b38
    refine wq_mvs (A := [_, _, _, _, _, _]) hF rfl ?_; clear hF a; intro a hF
    refine wq hF rfl rfl rfl (fun w_ hB_ => r_pick_f (hF.ev rfl) ec) ?_; clear hF a; intro a hF
    refine wq_mvs (A := [_, _, _, _, _, _, _, _, _, _, _, _]) hF rfl ?_; clear hF a; intro a hF
    refine wq hF rfl rfl rfl (fun w_ hB_ => r_pick_f (hF.ev rfl) ec) ?_; clear hF a; intro a hF
    refine wpQuiet_nil ?_; intro w4 hB_; replace hS := hS.ext hB_; clear hB_
    refine hK12 _ _ ?_
    refine wc_false (hF.ev rfl) ?_
    refine wp_skip ?_
    simp only [Exit.then, Exit.inBlock, ↓reduceIte]
    refine hK11 _ _ ?_
    refine wp_region_lit ?_
    refine wl_mvs (A := [_]) hF rfl ?_; clear hF a; intro a hF
    refine wl hF rfl rfl rfl (r_add (hF.ev rfl) ec) ?_; clear hF a; intro a hF
    refine wl_mvs (A := [_]) hF rfl ?_; clear hF a; intro a hF
    refine wl_nil ?_
    try simp only [Exit.then, Exit.inBlock, ↓reduceIte]
    refine ⟨k + 1, ⟨by omega, hlen, all_next hall (zip_at hx huk) ?_, hS, ((((hF.nil.keep hF (t := 0) rfl).keep hF (t := 1) rfl).keep hF (t := 2) rfl).keepE hF (t := 7) rfl (wk (by omega)))⟩, by omega⟩
    first | (simp_all; done) | (cases uk <;> simp_all <;> omega)
  refine wp_exit ?_
  simp only [Exit.then, Exit.inBlock, ↓reduceIte]
  refine hK7 _ _ ?_
  refine ws fun K14 hK14 => ?_
  refine wl_mvs (A := [_]) hF rfl ?_; clear hF a; intro a hF
  refine wl_nil (hK14 _ _ ?_)
  refine wp_ret ?_
  try simp only [Exit.then, Exit.inBlock, ↓reduceIte]
  refine ret1 rfl hF rfl ⟨congrArg Value.bool (Eq.symm ?_), hS.old⟩
  first
    | exact mayGo_len (fun q => b13 (by omega))
    | exact mayGo_range b21
    | exact mayGo_used (hu.trans (congrArg some c26))
    | exact mayGo_hit he ((zip_at hx huk).trans (congrArg (fun z => some (x, z)) b38)) b46 c58
    | exact mayGo_all he hlen hi0 (hu.trans (congrArg some c26)) (by omega) hall

set_option maxHeartbeats 4000000 in
set_option maxRecDepth 20000 in
theorem implMayGo_c {W : World} {va vb : Value} {es : List Sl.Event} {used : List Bool} {i : Int} (ha : eventEK.Rd W va es) (hb : boolEK.Rd W vb used) : Calls Try.prog 63 #[va, vb, vi i] W (Ret fun v w' => v = .bool (mayGo es used i) ∧ Below W.heap.size W w') := by
  refine calls_fr Try.func63 rfl Try.ntmps63 rfl ?_
  intro a hF
  have hS := Sep.refl W
  obtain ⟨A_a, q_a, rfl, hq_a, hn_a⟩ := ha.sl; unfold maxLen at hn_a
  obtain ⟨A_b, q_b, rfl, hq_b, hn_b⟩ := hb.sl; unfold maxLen at hn_b
  have e0 : IntKind.i64.wrap ((es.length : Int) - 1) = es.length - 1 := w64_id (by omega) (by omega)
  refine ws fun K1 hK1 => ?_
  refine wl_mvs (A := [_]) hF rfl ?_; clear hF a; intro a hF
  refine wl_nil (hK1 _ _ ?_)
  refine wp_seq_k fun K2 hK2 => ?_
  refine ws fun K3 hK3 => ?_
  refine wl_mvs (A := [_]) hF rfl ?_; clear hF a; intro a hF
  refine wl hF rfl rfl rfl (r_len ul84 (hF.ev rfl)) ?_; clear hF a; intro a hF
  refine wl_mvs (A := [_]) hF rfl ?_; clear hF a; intro a hF
  refine wl hF rfl rfl rfl (r_len ul52 (hF.ev rfl)) ?_; clear hF a; intro a hF
  refine wl hF rfl rfl rfl (r_neq (hF.ev rfl) (hF.ev rfl)) ?_; clear hF a; intro a hF
  refine wl_mvs (A := [_]) hF rfl ?_; clear hF a; intro a hF
  revert hF; intro hF0; refine bsplit (t := 14) hF0 rfl (fun b14 hF => ?_) (fun b14 hF => ?_)
  ·
    clear hF0
    try simp only [decide_eq_true_eq, decide_eq_false_iff_not, Bool.not_eq_true', Bool.not_eq_false'] at b14
    refine wl_mvs (A := [_, _, _, _, _, _]) hF rfl ?_; clear hF a; intro a hF
    refine wl hF rfl rfl rfl (r_pick_t (hF.ev rfl) ec) ?_; clear hF a; intro a hF
    refine wl_mvs (A := [_, _, _, _, _]) hF rfl ?_; clear hF a; intro a hF
    refine wl hF rfl rfl rfl (r_pick_t (hF.ev rfl) ec) ?_; clear hF a; intro a hF
    refine wl_nil (hK3 _ _ ?_)
    refine wc_true (hF.ev rfl) ?_
    refine ws fun K4 hK4 => ?_
    refine wl_mvs (A := [_]) hF rfl ?_; clear hF a; intro a hF
    refine wl_nil (hK4 _ _ ?_)
    refine wp_ret ?_
    try simp only [Exit.then, Exit.inBlock, ↓reduceIte]
    refine ret1 rfl hF rfl ⟨congrArg Value.bool (Eq.symm ?_), hS.old⟩
    first
      | exact mayGo_len (fun q => b14 (by omega))
      | exact mayGo_range b22
      | exact mayGo_used (hu.trans (congrArg some c27))
      | exact mayGo_hit he ((zip_at hx huk).trans (congrArg (fun z => some (x, z)) b40)) b45 c54
      | exact mayGo_all he hlen hi0 (hu.trans (congrArg some c27)) (by omega) hall
  clear hF0
  try simp only [decide_eq_true_eq, decide_eq_false_iff_not, Bool.not_eq_true', Bool.not_eq_false'] at b14
  refine wl_mvs (A := [_, _]) hF rfl ?_; clear hF a; intro a hF
  refine wl_take hF rfl rfl rfl rfl ?_
  refine wl hF rfl rfl rfl (r_len ul52 (hF.ev rfl)) ?_; clear hF a; intro a hF
  refine wl_take hF rfl rfl rfl rfl ?_
  refine wl hF rfl rfl rfl (r_sub (hF.ev rfl) ec) ?_; clear hF a; intro a hF
  refine wl_take hF rfl rfl rfl rfl ?_
  refine wl_call hF rfl rfl rfl (r_call3 en49 (hF.ev rfl) ec (hF.ev rfl)) (in_c _ _ _) ?_; clear hF a; rintro v w1 a ⟨rfl, hB_⟩ hF; replace hS := hS.ext hB_; clear hB_
  refine wl_take hF rfl rfl rfl rfl ?_
  refine wl hF rfl rfl rfl (r_not (hF.ev rfl)) ?_; clear hF a; intro a hF
  refine wl hF rfl rfl rfl (r_pick_f (hF.ev rfl) (hF.ev rfl)) ?_; clear hF a; intro a hF
  refine wl_mvs (A := [_]) hF rfl ?_; clear hF a; intro a hF
  revert hF; intro hF0; refine bsplit (t := 22) hF0 rfl (fun b22 hF => ?_) (fun b22 hF => ?_)
  ·
    clear hF0
    try simp only [decide_eq_true_eq, decide_eq_false_iff_not, Bool.not_eq_true', Bool.not_eq_false'] at b22
    rw [e0] at b22
    refine wl_mvs (A := [_, _, _, _]) hF rfl ?_; clear hF a; intro a hF
    refine wl hF rfl rfl rfl (r_pick_t (hF.ev rfl) ec) ?_; clear hF a; intro a hF
    refine wl_nil (hK3 _ _ ?_)
    refine wc_true (hF.ev rfl) ?_
    refine ws fun K5 hK5 => ?_
    refine wl_mvs (A := [_]) hF rfl ?_; clear hF a; intro a hF
    refine wl_nil (hK5 _ _ ?_)
    refine wp_ret ?_
    try simp only [Exit.then, Exit.inBlock, ↓reduceIte]
    refine ret1 rfl hF rfl ⟨congrArg Value.bool (Eq.symm ?_), hS.old⟩
    first
      | exact mayGo_len (fun q => b14 (by omega))
      | exact mayGo_range b22
      | exact mayGo_used (hu.trans (congrArg some c27))
      | exact mayGo_hit he ((zip_at hx huk).trans (congrArg (fun z => some (x, z)) b40)) b45 c54
      | exact mayGo_all he hlen hi0 (hu.trans (congrArg some c27)) (by omega) hall
  clear hF0
  try simp only [decide_eq_true_eq, decide_eq_false_iff_not, Bool.not_eq_true', Bool.not_eq_false'] at b22
  rw [e0] at b22
  obtain ⟨hi0, hi1⟩ := b22
  obtain ⟨e, he⟩ : ∃ e, es[i.toNat]? = some e := ⟨_, List.getElem?_eq_getElem (by omega)⟩
  obtain ⟨u, hu⟩ : ∃ u, used[i.toNat]? = some u := ⟨_, List.getElem?_eq_getElem (by omega)⟩
  refine wl_mvs (A := [_, _]) hF rfl ?_; clear hF a; intro a hF
  refine wl_take hF rfl rfl rfl rfl ?_
  obtain ⟨g25, o25, m25, q25, hv25, hm25, hl25, hc25⟩ := Rd.idxF (hS.rd hb) hu
  refine wl hF rfl rfl rfl (r_index sl84 ((hF.ev rfl).trans hv25) (hF.ev rfl) (by omega) (by omega)) ?_; clear hF a; intro a hF
  refine wl_take hF rfl rfl rfl rfl ?_
  refine wl hF rfl rfl rfl (r_load1 sc4 (hF.ev rfl) (hc25 0 _ rfl)) ?_; clear hF a; intro a hF
  refine wl hF rfl rfl rfl (r_pick_f (hF.ev rfl) (hF.ev rfl)) ?_; clear hF a; intro a hF
  refine wl_nil (hK3 _ _ ?_)
  first | refine wc_dec (hF.ev rfl) (fun c27 => ?_) (fun c27 => ?_) | refine wc_ndec (hF.ev rfl) (fun c27 => ?_) (fun c27 => ?_) | refine wc_b (hF.ev rfl) (fun c27 => ?_) (fun c27 => ?_)
  ·
    refine ws fun K6 hK6 => ?_
    refine wl_mvs (A := [_]) hF rfl ?_; clear hF a; intro a hF
    refine wl_nil (hK6 _ _ ?_)
    refine wp_ret ?_
    try simp only [Exit.then, Exit.inBlock, ↓reduceIte]
    refine ret1 rfl hF rfl ⟨congrArg Value.bool (Eq.symm ?_), hS.old⟩
    first
      | exact mayGo_len (fun q => b14 (by omega))
      | exact mayGo_range b22
      | exact mayGo_used (hu.trans (congrArg some c27))
      | exact mayGo_hit he ((zip_at hx huk).trans (congrArg (fun z => some (x, z)) b40)) b45 c54
      | exact mayGo_all he hlen hi0 (hu.trans (congrArg some c27)) (by omega) hall
  refine wp_skip ?_
  refine hK2 _ _ ?_
  refine wp_seq_k fun K7 hK7 => ?_
  refine ws fun K8 hK8 => ?_
  refine wl_mvs (A := [_]) hF rfl ?_; clear hF a; intro a hF
  refine wl hF rfl rfl rfl (r_len ul52 (hF.ev rfl)) ?_; clear hF a; intro a hF
  refine wl_mvs (A := [_]) hF rfl ?_; clear hF a; intro a hF
  refine wl_nil (hK8 _ _ ?_)
  refine wp_block ?_
  refine wp_loop_g (σ := Nat) (fun k a w => k ≤ es.length ∧ used.length = es.length ∧ ((es.zip used).take k).all (fun p => p.2 || !decide (0 ≤ p.1.fin) || !decide (p.1.fin < e.start)) = true ∧ Sep W [] w ∧ Fr 56 [(30, vi k), (29, vi es.length), (28, .slice A_a es.length q_a), (2, vi i), (1, .slice A_b used.length q_b), (0, .slice A_a es.length q_a)] a) (fun k => es.length - k) 0 ?_ ?_
  · exact ⟨Nat.zero_le _, by omega, by simp, hS, ((((((hF.nil.keep hF (t := 0) rfl).keep hF (t := 1) rfl).keep hF (t := 2) rfl).keep hF (t := 28) rfl).keep hF (t := 29) rfl).keep hF (t := 30) rfl)⟩
  clear hF hS a
  rintro k a w ⟨hk, hlen, hall, hS, hF⟩
  refine ws fun K9 hK9 => ?_
  refine wl hF rfl rfl rfl (r_lss (hF.ev rfl) (hF.ev rfl)) ?_; clear hF a; intro a hF
  refine wl_nil (hK9 _ _ ?_)
  refine wp_seq_k fun K10 hK10 => ?_
  first | refine wc_dec (hF.ev rfl) (fun c31 => ?_) (fun c31 => ?_) | refine wc_ndec (hF.ev rfl) (fun c31 => ?_) (fun c31 => ?_) | refine wc_b (hF.ev rfl) (fun c31 => ?_) (fun c31 => ?_)
  ·
    have hlt : k < es.length := by omega
    obtain ⟨x, hx⟩ : ∃ x, es[k]? = some x := ⟨_, List.getElem?_eq_getElem hlt⟩
    obtain ⟨uk, huk⟩ : ∃ u, used[k]? = some u := ⟨_, List.getElem?_eq_getElem (by omega)⟩
    refine wp_skip ?_
    refine hK10 _ _ ?_
    refine wp_seq_k fun K11 hK11 => ?_
    refine wp_block ?_
    refine ws fun K12 hK12 => ?_
    refine wl_mvs (A := [_]) hF rfl ?_; clear hF a; intro a hF
    obtain ⟨g33, o33, m33, q33, hv33, hm33, hl33, hc33⟩ := Rd.idxF (hS.rd ha) hx
    refine wl hF rfl rfl rfl (r_index sl52 ((hF.ev rfl).trans hv33) (hF.ev rfl) (by omega) (by omega)) ?_; clear hF a; intro a hF
    refine wl hF rfl rfl rfl (r_loadn ag44 (hF.ev rfl) (hc33) sz44) ?_; clear hF a; intro a hF
    refine wl_alloc hF hS rfl zr44 ?_; clear hF a; intro g1 w2 a hS_ hB_ hF; replace hS := hS_; clear hS_ hB_
    refine wl_mvs (A := [_]) hF rfl ?_; clear hF a; intro a hF
    refine wl_storen (cs' := [_, _, _, _, _, _, _, _]) hF hS (i := 0) rfl (hF.ev rfl) (hF.ev rfl) sz44 ⟨rfl, rfl⟩ rfl rfl ?_; intro w3 hS_; replace hS := hS_; clear hS_; dsimp only [List.set] at hS
    refine wl_nil (hK12 _ _ ?_)
    refine wp_seq_k fun K13 hK13 => ?_
    refine wp_region_calm (by kernel_rfl) (by kernel_rfl) ?_
    refine wq_mvs (A := [_, _]) hF rfl ?_; clear hF a; intro a hF
    obtain ⟨g37, o37, m37, q37, hv37, hm37, hl37, hc37⟩ := Rd.idxF (hS.rd hb) huk
    refine wq hF rfl rfl rfl (fun w_ hB_ => r_index sl84 ((hF.ev rfl).trans hv37) (hF.ev rfl) (by omega) (by omega)) ?_; clear hF a; intro a hF
    refine wq hF rfl rfl rfl (fun w_ hB_ => r_load1 sc4 (hF.ev rfl) (cellB hB_ (hc37 0 _ rfl))) ?_; clear hF a; intro a hF
    refine wq hF rfl rfl rfl (fun w_ hB_ => r_not (hF.ev rfl)) ?_; clear hF a; intro a hF
    refine wq_mvs (A := [_]) hF rfl ?_; clear hF a; intro a hF
    revert hF; intro hF0; refine bsplit (t := 40) hF0 rfl (fun b40 hF => ?_) (fun b40 hF => ?_)
    ·
      clear hF0
      try simp only [decide_eq_true_eq, decide_eq_false_iff_not, Bool.not_eq_true', Bool.not_eq_false'] at b40
      refine wq_take hF rfl rfl rfl rfl ?_
      refine wq hF rfl rfl rfl (fun w_ hB_ => r_field fo44_4 (hF.ev rfl)) ?_; clear hF a; intro a hF
      refine wq_take hF rfl rfl rfl rfl ?_
      refine wq hF rfl rfl rfl (fun w_ hB_ => r_load1 sc3 (hF.ev rfl) ((hS.ext hB_).box (i := 0) rfl rfl)) ?_; clear hF a; intro a hF
      refine wq_take hF rfl rfl rfl rfl ?_
      refine wq hF rfl rfl rfl (fun w_ hB_ => r_geq (hF.ev rfl) ec) ?_; clear hF a; intro a hF
      refine wq hF rfl rfl rfl (fun w_ hB_ => r_pick_t (hF.ev rfl) (hF.ev rfl)) ?_; clear hF a; intro a hF
      refine wq_mvs (A := [_]) hF rfl ?_; clear hF a; intro a hF
      revert hF; intro hF0; refine bsplit (t := 45) hF0 rfl (fun b45 hF => ?_) (fun b45 hF => ?_)
      ·
        clear hF0
        try simp only [decide_eq_true_eq, decide_eq_false_iff_not, Bool.not_eq_true', Bool.not_eq_false'] at b45
        refine wq_take hF rfl rfl rfl rfl ?_
        refine wq hF rfl rfl rfl (fun w_ hB_ => r_field fo44_4 (hF.ev rfl)) ?_; clear hF a; intro a hF
        refine wq_take hF rfl rfl rfl rfl ?_
        refine wq hF rfl rfl rfl (fun w_ hB_ => r_load1 sc3 (hF.ev rfl) ((hS.ext hB_).box (i := 0) rfl rfl)) ?_; clear hF a; intro a hF
        refine wq_mvs (A := [_, _]) hF rfl ?_; clear hF a; intro a hF
        refine wq_take hF rfl rfl rfl rfl ?_
        obtain ⟨g50, o50, m50, q50, hv50, hm50, hl50, hc50⟩ := Rd.idxF (hS.rd ha) he
        refine wq hF rfl rfl rfl (fun w_ hB_ => r_index sl52 ((hF.ev rfl).trans hv50) (hF.ev rfl) (by omega) (by omega)) ?_; clear hF a; intro a hF
        refine wq_take hF rfl rfl rfl rfl ?_
        refine wq hF rfl rfl rfl (fun w_ hB_ => r_field fo44_3 (hF.ev rfl)) ?_; clear hF a; intro a hF
        refine wq_take hF rfl rfl rfl rfl ?_
        refine wq hF rfl rfl rfl (fun w_ hB_ => r_load1 sc3 (hF.ev rfl) (cellB hB_ (hc50 6 _ rfl))) ?_; clear hF a; intro a hF
        refine wq_take hF rfl rfl rfl rfl ?_
        refine wq hF rfl rfl rfl (fun w_ hB_ => r_lss (hF.ev rfl) (hF.ev rfl)) ?_; clear hF a; intro a hF
        refine wq hF rfl rfl rfl (fun w_ hB_ => r_pick_t (hF.ev rfl) (hF.ev rfl)) ?_; clear hF a; intro a hF
        refine wpQuiet_nil ?_; intro w4 hB_; replace hS := hS.ext hB_; clear hB_
        refine hK13 _ _ ?_
        first | refine wc_dec (hF.ev rfl) (fun c54 => ?_) (fun c54 => ?_) | refine wc_ndec (hF.ev rfl) (fun c54 => ?_) (fun c54 => ?_) | refine wc_b (hF.ev rfl) (fun c54 => ?_) (fun c54 => ?_)
        ·
          refine ws fun K14 hK14 => ?_
          refine wl_mvs (A := [_]) hF rfl ?_; clear hF a; intro a hF
          refine wl_nil (hK14 _ _ ?_)
          refine wp_ret ?_
          try simp only [Exit.then, Exit.inBlock, ↓reduceIte]
          refine ret1 rfl hF rfl ⟨congrArg Value.bool (Eq.symm ?_), hS.old⟩
          first
            | exact mayGo_len (fun q => b14 (by omega))
            | exact mayGo_range b22
            | exact mayGo_used (hu.trans (congrArg some c27))
            | exact mayGo_hit he ((zip_at hx huk).trans (congrArg (fun z => some (x, z)) b40)) b45 c54
            | exact mayGo_all he hlen hi0 (hu.trans (congrArg some c27)) (by omega) hall
        refine wp_skip ?_
        simp only [Exit.then, Exit.inBlock, ↓reduceIte]
        refine hK11 _ _ ?_
        refine wp_region_lit ?_
        refine wl hF rfl rfl rfl (r_add (hF.ev rfl) ec) ?_; clear hF a; intro a hF
        refine wl_mvs (A := [_]) hF rfl ?_; clear hF a; intro a hF
        refine wl_nil ?_
        try simp only [Exit.then, Exit.inBlock, ↓reduceIte]
        refine ⟨k + 1, ⟨by omega, hlen, all_next hall (zip_at hx huk) ?_, hS.pick [] (by decide) rfl, ((((((hF.nil.keep hF (t := 0) rfl).keep hF (t := 1) rfl).keep hF (t := 2) rfl).keep hF (t := 28) rfl).keep hF (t := 29) rfl).keepE hF (t := 30) rfl (wk (by omega)))⟩, by omega⟩
        first | (simp_all; done) | (cases uk <;> simp_all <;> omega)
      clear hF0
      try simp only [decide_eq_true_eq, decide_eq_false_iff_not, Bool.not_eq_true', Bool.not_eq_false'] at b45
      refine wq_mvs (A := [_, _, _, _, _, _, _, _]) hF rfl ?_; clear hF a; intro a hF
      refine wq hF rfl rfl rfl (fun w_ hB_ => r_pick_f (hF.ev rfl) ec) ?_; clear hF a; intro a hF
      refine wpQuiet_nil ?_; intro w5 hB_; replace hS := hS.ext hB_; clear hB_
      refine hK13 _ _ ?_
      refine wc_false (hF.ev rfl) ?_
      refine wp_skip ?_
      simp only [Exit.then, Exit.inBlock, ↓reduceIte]
      refine hK11 _ _ ?_
      refine wp_region_lit ?_
      refine wl hF rfl rfl rfl (r_add (hF.ev rfl) ec) ?_; clear hF a; intro a hF
      refine wl_mvs (A := [_]) hF rfl ?_; clear hF a; intro a hF
      refine wl_nil ?_
      try simp only [Exit.then, Exit.inBlock, ↓reduceIte]
      refine ⟨k + 1, ⟨by omega, hlen, all_next hall (zip_at hx huk) ?_, hS.pick [] (by decide) rfl, ((((((hF.nil.keep hF (t := 0) rfl).keep hF (t := 1) rfl).keep hF (t := 2) rfl).keep hF (t := 28) rfl).keep hF (t := 29) rfl).keepE hF (t := 30) rfl (wk (by omega)))⟩, by omega⟩
      first | (simp_all; done) | (cases uk <;> simp_all <;> omega)
    clear hF0
    try simp only [decide_eq_true_eq, decide_eq_false_iff_not, Bool.not_eq_true', Bool.not_eq_false'] at b40
    refine wq_mvs (A := [_, _, _]) hF rfl ?_; clear hF a; intro a hF
    refine wq hF rfl rfl rfl (fun w_ hB_ => r_pick_f (hF.ev rfl) ec) ?_; clear hF a; intro a hF
    refine wq_mvs (A := [_, _, _, _, _, _, _, _, _]) hF rfl ?_; clear hF a; intro a hF
    refine wq hF rfl rfl rfl (fun w_ hB_ => r_pick_f (hF.ev rfl) ec) ?_; clear hF a; intro a hF
    refine wpQuiet_nil ?_; intro w6 hB_; replace hS := hS.ext hB_; clear hB_
    refine hK13 _ _ ?_
    refine wc_false (hF.ev rfl) ?_
    refine wp_skip ?_
    simp only [Exit.then, Exit.inBlock, ↓reduceIte]
    refine hK11 _ _ ?_
    refine wp_region_lit ?_
    refine wl hF rfl rfl rfl (r_add (hF.ev rfl) ec) ?_; clear hF a; intro a hF
    refine wl_mvs (A := [_]) hF rfl ?_; clear hF a; intro a hF
    refine wl_nil ?_
    try simp only [Exit.then, Exit.inBlock, ↓reduceIte]
    refine ⟨k + 1, ⟨by omega, hlen, all_next hall (zip_at hx huk) ?_, hS.pick [] (by decide) rfl, ((((((hF.nil.keep hF (t := 0) rfl).keep hF (t := 1) rfl).keep hF (t := 2) rfl).keep hF (t := 28) rfl).keep hF (t := 29) rfl).keepE hF (t := 30) rfl (wk (by omega)))⟩, by omega⟩
    first | (simp_all; done) | (cases uk <;> simp_all <;> omega)
  refine wp_exit ?_
  simp only [Exit.then, Exit.inBlock, ↓reduceIte]
  refine hK7 _ _ ?_
  refine ws fun K15 hK15 => ?_
  refine wl_mvs (A := [_]) hF rfl ?_; clear hF a; intro a hF
  refine wl_nil (hK15 _ _ ?_)
  refine wp_ret ?_
  try simp only [Exit.then, Exit.inBlock, ↓reduceIte]
  refine ret1 rfl hF rfl ⟨congrArg Value.bool (Eq.symm ?_), hS.old⟩
  first
    | exact mayGo_len (fun q => b14 (by omega))
    | exact mayGo_range b22
    | exact mayGo_used (hu.trans (congrArg some c27))
    | exact mayGo_hit he ((zip_at hx huk).trans (congrArg (fun z => some (x, z)) b40)) b45 c54
    | exact mayGo_all he hlen hi0 (hu.trans (congrArg some c27)) (by omega) hall

def allUsed (es : List Sl.Event) (used : List Bool) : Bool := (List.range es.length).all fun i => decide ((at0 es (i : Int)).fin < 0) || at0 used (i : Int)
def search (c : Config) (es : List Sl.Event) : Nat → List Bool → Model → List Int → Option (List Int)
  | 0, used, _, order => if allUsed es used = true then some order else none
  | n + 1, used, m, order => if allUsed es used = true then some order else (List.range es.length).findSome? fun (i : Nat) =>
      if mayGo es used (i : Int) = true then if (explains c m (at0 es (i : Int))).2 = true then search c es n (used.set i true) (explains c m (at0 es (i : Int))).1 (order ++ [(i : Int)]) else none else none
def left (used : List Bool) : Nat := (used.filter fun b => !b).length
def linearize (c : Config) (es : List Sl.Event) : Option (List Int) := if c.ok ∧ (es.length : Int) ≤ 10 then search c es es.length (List.replicate es.length false) (newModel c) [] else none
/-- what one number leads to -/
def tryOne (c : Config) (es : List Sl.Event) (used : List Bool) (m : Model) (order : List Int) (i : Nat) : Option (List Int) :=
  if mayGo es used (i : Int) = true then if (explains c m (at0 es (i : Int))).2 = true then search c es (left (used.set i true)) (used.set i true) (explains c m (at0 es (i : Int))).1 (order ++ [(i : Int)]) else none else none
theorem range_at2 {n k : Nat} (h : k < n) : (List.range n)[k]? = some k := by simp [h]
section
variable {c : Config} {es : List Sl.Event} {used : List Bool} {m : Model} {order : List Int} {i k : Nat} {x : Sl.Event}
theorem mayGo_free (h : mayGo es used (i : Int) = true) : i < es.length ∧ used.length = es.length ∧ used[i]? = some false := by
  unfold mayGo at h
  split at h
  · rename_i e he
    rw [Int.toNat_natCast] at *
    simp only [Bool.and_eq_true, decide_eq_true_eq, beq_iff_eq] at h
    exact ⟨(List.getElem?_eq_some_iff.1 he).1, h.1.1.1, h.1.2⟩
  · cases h
theorem left_set : ∀ {used : List Bool} {i : Nat}, used[i]? = some false → left (used.set i true) + 1 = left used
  | [], i, h => by simp at h
  | b :: used, 0, h => by
    simp only [List.getElem?_cons_zero, Option.some.injEq] at h
    subst h
    simp [left]
  | b :: used, i + 1, h => by
    have ih := left_set (used := used) (i := i) (by simpa using h)
    cases b <;> simp [left] at * <;> omega
theorem left_rep (n : Nat) : left (List.replicate n false) = n := by simp [left]
theorem search_eq : search c es (left used) used m order = if allUsed es used = true then some order else (List.range es.length).findSome? (tryOne c es used m order) := by
  cases h : left used with
  | zero =>
    unfold search
    split
    · rfl
    · refine (List.findSome?_eq_none_iff.2 fun i hi => ?_).symm
      unfold tryOne
      refine if_neg fun hg => ?_
      have := left_set (mayGo_free hg).2.2
      omega
  | succ n =>
    unfold search
    split
    · rfl
    · congr 1
      funext i
      unfold tryOne
      split
      · rename_i hg
        have := left_set (mayGo_free hg).2.2
        rw [show left (used.set i true) = n by omega]
      · rfl
theorem some_next {f : Nat → Option (List Int)} {n : Nat} (h : ((List.range n).take k).findSome? f = none) (hk : k < n) (hf : f k = none) : ((List.range n).take (k + 1)).findSome? f = none := by
  rw [List.take_add_one, range_at2 hk, List.findSome?_append, h]; simp [hf]
theorem some_hit {f : Nat → Option (List Int)} {n : Nat} {r : List Int} (h : ((List.range n).take k).findSome? f = none) (hk : k < n) (hf : f k = some r) : (List.range n).findSome? f = some r := by
  have h2 : ((List.range n).take (k + 1)).findSome? f = some r := by rw [List.take_add_one, range_at2 hk, List.findSome?_append, h]; simp [hf]
  rw [← List.take_append_drop (k + 1) (List.range n), List.findSome?_append, h2]; rfl
theorem some_done {f : Nat → Option (List Int)} {n : Nat} (h : ((List.range n).take k).findSome? f = none) (hk : n ≤ k) : (List.range n).findSome? f = none := by
  rwa [List.take_of_length_le (by simpa using hk)] at h
theorem all_bad {p : Nat → Bool} {n : Nat} (h : k < n) (hp : p k = false) : (List.range n).all p = false := List.all_eq_false.2 ⟨k, by simpa using h, by simp [hp]⟩
end

set_option maxHeartbeats 4000000 in
set_option maxRecDepth 20000 in
theorem l20All_c {W : World} {va vb : Value} {es : List Sl.Event} {used : List Bool} (ha : eventEK.Rd W va es) (hb : boolEK.Rd W vb used) (hlen : used.length = es.length) : Calls Try.prog 62 #[va, vb] W (Ret fun v w' => v = .bool (allUsed es used) ∧ Below W.heap.size W w') := by
  refine calls_fr Try.func62 rfl Try.ntmps62 rfl ?_
  intro a hF
  have hS := Sep.refl W
  obtain ⟨A_a, q_a, rfl, hq_a, hn_a⟩ := ha.sl; unfold maxLen at hn_a
  obtain ⟨A_b, q_b, rfl, hq_b, hn_b⟩ := hb.sl; unfold maxLen at hn_b
  refine ws fun K1 hK1 => ?_
  refine wl_mvs (A := [_]) hF rfl ?_; clear hF a; intro a hF
  refine wl_nil (hK1 _ _ ?_)
  refine wp_seq_k fun K2 hK2 => ?_
  refine ws fun K3 hK3 => ?_
  refine wl_mvs (A := [_]) hF rfl ?_; clear hF a; intro a hF
  refine wl_nil (hK3 _ _ ?_)
  refine wp_block ?_
  have hL_ := (((hF.nil.keep hF (t := 4) rfl).keep hF (t := 1) rfl).keep hF (t := 0) rfl)
  refine wp_loop_r (σ := Nat) (fun k L_ => (5, vi k) :: L_) (fun k => (k ≤ es.length) ∧ (((List.range es.length).take k).all (fun i => decide ((at0 es (i : Int)).fin < 0) || at0 used (i : Int)) = true)) (fun k => es.length - k) 0 hS (hL_.keepE hF (t := 5) rfl rfl) ?_ ?_
  · exact ⟨Nat.zero_le _, rfl⟩
  clear hF hS hL_ a
  rintro k a w1 ⟨hk, hn⟩ hS hF; try dsimp only at hF; try dsimp only at hS
  refine wp_seq_k fun K4 hK4 => ?_
  refine ws fun K5 hK5 => ?_
  refine wl_mvs (A := [_, _]) hF rfl ?_; clear hF a; intro a hF
  refine wl hF rfl rfl rfl (r_len ul52 (hF.ev rfl)) ?_; clear hF a; intro a hF
  refine wl hF rfl rfl rfl (r_lss (hF.ev rfl) (hF.ev rfl)) ?_; clear hF a; intro a hF
  refine wl_nil (hK5 _ _ ?_)
  refine wc_fx (t := 9) hF rfl ?_ ?_ <;> clear hF <;> intro c9 hF <;> try simp only [zb1, zb2, zb3, zb4, zb5, zb6, zb7, zb8] at c9
  ·
    have hlt : k < es.length := by omega
    refine wp_skip ?_
    refine hK4 _ _ ?_
    refine wp_seq_k fun K6 hK6 => ?_
    refine wp_block ?_
    refine ws fun K7 hK7 => ?_
    refine wl_mvs (A := [_, _]) hF rfl ?_; clear hF a; intro a hF
    obtain ⟨g14, o14, m14, q14, hv14, hm14, hl14, hc14⟩ := Rd.atF (hb) (a := a) (X := .tmp 13) (hF.ev rfl) (by omega) (by omega)
    refine wl hF rfl rfl rfl (r_index sl84 ((hF.ev rfl).trans hv14) (hF.ev rfl) (by omega) (by first | omega | (simp at hm14; omega))) ?_; clear hF a; intro a hF
    refine wl hF rfl rfl rfl (r_load1 sc4 (hF.ev rfl) (cellB hS.old (hc14 0 _ rfl))) ?_; clear hF a; intro a hF
    refine wl hF rfl rfl rfl (r_not (hF.ev rfl)) ?_; clear hF a; intro a hF
    refine wl_mvs (A := [_]) hF rfl ?_; clear hF a; intro a hF
    apply wl_and (A := [_, _, _, _, _, _, _]) (pk := 24) hF hS (tc := 17) rfl
    ·
      intro hg17 a hF; try simp only [zb1, zb2, zb3, zb4, zb5, zb6, zb7, zb8] at hg17
      refine wl_mvs (A := [_, _]) hF rfl ?_; clear hF a; intro a hF
      refine wl_take hF rfl rfl rfl rfl ?_
      obtain ⟨g20, o20, m20, q20, hv20, hm20, hl20, hc20⟩ := Rd.atF (ha) (a := a) (X := .tmp 19) (hF.ev rfl) (by omega) (by omega)
      refine wl hF rfl rfl rfl (r_index sl52 ((hF.ev rfl).trans hv20) (hF.ev rfl) (by omega) (by first | omega | (simp at hm20; omega))) ?_; clear hF a; intro a hF
      refine wl_take hF rfl rfl rfl rfl ?_
      refine wl hF rfl rfl rfl (r_field fo44_4 (hF.ev rfl)) ?_; clear hF a; intro a hF
      refine wl_take hF rfl rfl rfl rfl ?_
      refine wl hF rfl rfl rfl (r_load1 sc3 (hF.ev rfl) (cellB hS.old (hc20 7 _ rfl))) ?_; clear hF a; intro a hF
      refine wl_take hF rfl rfl rfl rfl ?_
      refine wl hF rfl rfl rfl (r_geq (hF.ev rfl) ec) ?_; clear hF a; intro a hF
      refine wl hF rfl rfl rfl (r_pick_t (hF.ev rfl) (hF.ev rfl)) ?_; clear hF a; intro a hF
      exact wl_nil ⟨rfl, (Fr.pre (A := [_, _, _, _, _, _, _]) hF rfl).keep hF (t := 24) rfl, hS⟩
    ·
      intro hg17 a hF; try simp only [zb1, zb2, zb3, zb4, zb5, zb6, zb7, zb8] at hg17
      refine wl_mvs (A := [_, _, _, _, _, _]) hF rfl ?_; clear hF a; intro a hF
      refine wl hF rfl rfl rfl (r_pick_f (hF.ev rfl) ec) ?_; clear hF a; intro a hF
      exact wl_nil ⟨rfl, (Fr.pre (A := [_, _, _, _, _, _, _]) hF rfl).keep hF (t := 24) rfl, hS⟩
    clear hF a hS; intro a w2 hF hS
    refine wl_nil (hK7 _ _ ?_)
    refine wc_fx (t := 24) hF rfl ?_ ?_ <;> clear hF <;> intro c24 hF <;> try simp only [zb1, zb2, zb3, zb4, zb5, zb6, zb7, zb8] at c24
    ·
      have hbad : at0 used (k : Int) = false ∧ ¬ (at0 es (k : Int)).fin < 0 := ⟨by first | exact c24.1 | exact c24.2, by omega⟩
      refine ws fun K8 hK8 => ?_
      refine wl_mvs (A := [_]) hF rfl ?_; clear hF a; intro a hF
      refine wl_nil (hK8 _ _ ?_)
      refine wp_ret ?_
      try simp only [Exit.then, Exit.inBlock, ↓reduceIte]
      refine ret1 rfl hF rfl ⟨congrArg Value.bool (Eq.symm ?_), hS.old⟩
      unfold allUsed
      first
        | exact all_bad (k := k) (by omega) (by rw [hbad.1, Bool.or_false, decide_eq_false hbad.2])
        | exact all_end hn (by rw [List.length_range]; omega) (by rw [List.length_range]; omega)
    have hgood : (decide ((at0 es (k : Int)).fin < 0) || at0 used (k : Int)) = true := by
      simp only [zb3, zb7]
      rcases c24 with h | h
      · first | exact .inr h | exact .inl (by omega)
      · first | exact .inr h | exact .inl (by omega)
    refine wp_skip ?_
    simp only [Exit.then, Exit.inBlock, ↓reduceIte]
    refine hK6 _ _ ?_
    refine wp_region_lit ?_
    refine wl_mvs (A := [_]) hF rfl ?_; clear hF a; intro a hF
    refine wl hF rfl rfl rfl (r_add (hF.ev rfl) ec) ?_; clear hF a; intro a hF
    refine wl_mvs (A := [_]) hF rfl ?_; clear hF a; intro a hF
    refine wl_nil ?_
    try simp only [Exit.then, Exit.inBlock, ↓reduceIte]
    refine ⟨k + 1, ⟨by omega, all_gen hn (range_at2 (by omega)) hgood⟩, hS, ((((hF.nil.keep hF (t := 4) rfl).keep hF (t := 1) rfl).keep hF (t := 0) rfl).keepE hF (t := 5) rfl (wk (by omega))), by omega⟩
  refine wp_exit ?_
  simp only [Exit.then, Exit.inBlock, ↓reduceIte]
  refine hK2 _ _ ?_
  refine ws fun K9 hK9 => ?_
  refine wl_mvs (A := [_]) hF rfl ?_; clear hF a; intro a hF
  refine wl_nil (hK9 _ _ ?_)
  refine wp_ret ?_
  try simp only [Exit.then, Exit.inBlock, ↓reduceIte]
  refine ret1 rfl hF rfl ⟨congrArg Value.bool (Eq.symm ?_), hS.old⟩
  unfold allUsed
  first
    | exact all_bad (k := k) (by omega) (by rw [hbad.1, Bool.or_false, decide_eq_false hbad.2])
    | exact all_end hn (by rw [List.length_range]; omega) (by rw [List.length_range]; omega)

set_option maxHeartbeats 4000000 in
set_option maxRecDepth 20000 in
theorem complete_c {W : World} {va vb : Value} {es : List Sl.Event} {used : List Bool} (ha : eventEK.Rd W va es) (hb : boolEK.Rd W vb used) (hlen : used.length = es.length) : Calls Try.prog 64 #[va, vb] W (Ret fun v w' => v = .bool (allUsed es used) ∧ Below W.heap.size W w') := by
  refine calls_fr Try.func64 rfl Try.ntmps64 rfl ?_
  intro a hF
  have hS := Sep.refl W
  obtain ⟨A_a, q_a, rfl, hq_a, hn_a⟩ := ha.sl; unfold maxLen at hn_a
  obtain ⟨A_b, q_b, rfl, hq_b, hn_b⟩ := hb.sl; unfold maxLen at hn_b
  refine ws fun K1 hK1 => ?_
  refine wl_mvs (A := [_]) hF rfl ?_; clear hF a; intro a hF
  refine wl_nil (hK1 _ _ ?_)
  refine wp_seq_k fun K2 hK2 => ?_
  refine ws fun K3 hK3 => ?_
  refine wl_mvs (A := [_]) hF rfl ?_; clear hF a; intro a hF
  refine wl hF rfl rfl rfl (r_len ul52 (hF.ev rfl)) ?_; clear hF a; intro a hF
  refine wl_mvs (A := [_]) hF rfl ?_; clear hF a; intro a hF
  refine wl_nil (hK3 _ _ ?_)
  refine wp_block ?_
  have hL_ := ((((hF.nil.keep hF (t := 8) rfl).keep hF (t := 7) rfl).keep hF (t := 4) rfl).keep hF (t := 1) rfl)
  refine wp_loop_r (σ := Nat) (fun k L_ => (9, vi k) :: L_) (fun k => (k ≤ es.length) ∧ (((List.range es.length).take k).all (fun i => decide ((at0 es (i : Int)).fin < 0) || at0 used (i : Int)) = true)) (fun k => es.length - k) 0 hS (hL_.keepE hF (t := 9) rfl rfl) ?_ ?_
  · exact ⟨Nat.zero_le _, rfl⟩
  clear hF hS hL_ a
  rintro k a w1 ⟨hk, hn⟩ hS hF; try dsimp only at hF; try dsimp only at hS
  refine ws fun K4 hK4 => ?_
  refine wl hF rfl rfl rfl (r_lss (hF.ev rfl) (hF.ev rfl)) ?_; clear hF a; intro a hF
  refine wl_nil (hK4 _ _ ?_)
  refine wp_seq_k fun K5 hK5 => ?_
  refine wc_fx (t := 10) hF rfl ?_ ?_ <;> clear hF <;> intro c10 hF <;> try simp only [zb1, zb2, zb3, zb4, zb5, zb6, zb7, zb8] at c10
  ·
    have hlt : k < es.length := by omega
    refine wp_skip ?_
    refine hK5 _ _ ?_
    refine wp_seq_k fun K6 hK6 => ?_
    refine wp_block ?_
    refine ws fun K7 hK7 => ?_
    refine wl_mvs (A := [_]) hF rfl ?_; clear hF a; intro a hF
    obtain ⟨g12, o12, m12, q12, hv12, hm12, hl12, hc12⟩ := Rd.atF (ha) (a := a) (X := .tmp 9) (hF.ev rfl) (by omega) (by omega)
    refine wl hF rfl rfl rfl (r_index sl52 ((hF.ev rfl).trans hv12) (hF.ev rfl) (by omega) (by first | omega | (simp at hm12; omega))) ?_; clear hF a; intro a hF
    refine wl hF rfl rfl rfl (r_loadn ag44 (hF.ev rfl) (fun j_ u_ hu_ => cellB hS.old (hc12 j_ u_ hu_)) sz44) ?_; clear hF a; intro a hF
    refine wl_alloc hF hS rfl zr44 ?_; clear hF a; intro g1 w2 a hS_ hB_ hF; replace hS := hS_; clear hS_ hB_
    refine wl_mvs (A := [_]) hF rfl ?_; clear hF a; intro a hF
    refine wl_storen (cs' := [_, _, _, _, _, _, _, _]) hF hS (i := 0) rfl (hF.ev rfl) (hF.ev rfl) sz44 ⟨rfl, rfl⟩ rfl rfl ?_; intro w3 hS_; replace hS := hS_; clear hS_; dsimp only [List.set] at hS
    refine wl_nil (hK7 _ _ ?_)
    refine ws fun K8 hK8 => ?_
    refine wl hF rfl rfl rfl (r_field fo44_4 (hF.ev rfl)) ?_; clear hF a; intro a hF
    refine wl hF rfl rfl rfl (r_load1 sc3 (hF.ev rfl) (hS.box (i := 0) rfl rfl)) ?_; clear hF a; intro a hF
    refine wl hF rfl rfl rfl (r_geq (hF.ev rfl) ec) ?_; clear hF a; intro a hF
    refine wl_mvs (A := [_]) hF rfl ?_; clear hF a; intro a hF
    apply wl_and (A := [_, _, _, _, _, _]) (pk := 23) hF hS (tc := 17) rfl
    ·
      intro hg17 a hF; try simp only [zb1, zb2, zb3, zb4, zb5, zb6, zb7, zb8] at hg17
      refine wl_mvs (A := [_, _]) hF rfl ?_; clear hF a; intro a hF
      refine wl_take hF rfl rfl rfl rfl ?_
      obtain ⟨g20, o20, m20, q20, hv20, hm20, hl20, hc20⟩ := Rd.atF (hb) (a := a) (X := .tmp 19) (hF.ev rfl) (by omega) (by omega)
      refine wl hF rfl rfl rfl (r_index sl84 ((hF.ev rfl).trans hv20) (hF.ev rfl) (by omega) (by first | omega | (simp at hm20; omega))) ?_; clear hF a; intro a hF
      refine wl_take hF rfl rfl rfl rfl ?_
      refine wl hF rfl rfl rfl (r_load1 sc4 (hF.ev rfl) (cellB hS.old (hc20 0 _ rfl))) ?_; clear hF a; intro a hF
      refine wl_take hF rfl rfl rfl rfl ?_
      refine wl hF rfl rfl rfl (r_not (hF.ev rfl)) ?_; clear hF a; intro a hF
      refine wl hF rfl rfl rfl (r_pick_t (hF.ev rfl) (hF.ev rfl)) ?_; clear hF a; intro a hF
      exact wl_nil ⟨rfl, (Fr.pre (A := [_, _, _, _, _, _]) hF rfl).keep hF (t := 23) rfl, hS⟩
    ·
      intro hg17 a hF; try simp only [zb1, zb2, zb3, zb4, zb5, zb6, zb7, zb8] at hg17
      refine wl_mvs (A := [_, _, _, _, _]) hF rfl ?_; clear hF a; intro a hF
      refine wl hF rfl rfl rfl (r_pick_f (hF.ev rfl) ec) ?_; clear hF a; intro a hF
      exact wl_nil ⟨rfl, (Fr.pre (A := [_, _, _, _, _, _]) hF rfl).keep hF (t := 23) rfl, hS⟩
    clear hF a hS; intro a w4 hF hS
    refine wl_nil (hK8 _ _ ?_)
    refine wc_fx (t := 23) hF rfl ?_ ?_ <;> clear hF <;> intro c23 hF <;> try simp only [zb1, zb2, zb3, zb4, zb5, zb6, zb7, zb8] at c23
    ·
      have hbad : at0 used (k : Int) = false ∧ ¬ (at0 es (k : Int)).fin < 0 := ⟨by first | exact c23.1 | exact c23.2, by omega⟩
      refine ws fun K9 hK9 => ?_
      refine wl_mvs (A := [_]) hF rfl ?_; clear hF a; intro a hF
      refine wl_nil (hK9 _ _ ?_)
      refine wp_ret ?_
      try simp only [Exit.then, Exit.inBlock, ↓reduceIte]
      refine ret1 rfl hF rfl ⟨congrArg Value.bool (Eq.symm ?_), hS.old⟩
      unfold allUsed
      first
        | exact all_bad (k := k) (by omega) (by rw [hbad.1, Bool.or_false, decide_eq_false hbad.2])
        | exact all_end hn (by rw [List.length_range]; omega) (by rw [List.length_range]; omega)
    have hgood : (decide ((at0 es (k : Int)).fin < 0) || at0 used (k : Int)) = true := by
      simp only [zb3, zb7]
      rcases c23 with h | h
      · first | exact .inr h | exact .inl (by omega)
      · first | exact .inr h | exact .inl (by omega)
    refine wp_skip ?_
    simp only [Exit.then, Exit.inBlock, ↓reduceIte]
    refine hK6 _ _ ?_
    refine wp_region_lit ?_
    refine wl hF rfl rfl rfl (r_add (hF.ev rfl) ec) ?_; clear hF a; intro a hF
    refine wl_mvs (A := [_]) hF rfl ?_; clear hF a; intro a hF
    refine wl_nil ?_
    try simp only [Exit.then, Exit.inBlock, ↓reduceIte]
    refine ⟨k + 1, ⟨by omega, all_gen hn (range_at2 (by omega)) hgood⟩, (hS.pick [] (by decide) rfl), (((((hF.nil.keep hF (t := 8) rfl).keep hF (t := 7) rfl).keep hF (t := 4) rfl).keep hF (t := 1) rfl).keepE hF (t := 9) rfl (wk (by omega))), by omega⟩
  refine wp_exit ?_
  simp only [Exit.then, Exit.inBlock, ↓reduceIte]
  refine hK2 _ _ ?_
  refine ws fun K10 hK10 => ?_
  refine wl_mvs (A := [_]) hF rfl ?_; clear hF a; intro a hF
  refine wl_nil (hK10 _ _ ?_)
  refine wp_ret ?_
  try simp only [Exit.then, Exit.inBlock, ↓reduceIte]
  refine ret1 rfl hF rfl ⟨congrArg Value.bool (Eq.symm ?_), hS.old⟩
  unfold allUsed
  first
    | exact all_bad (k := k) (by omega) (by rw [hbad.1, Bool.or_false, decide_eq_false hbad.2])
    | exact all_end hn (by rw [List.length_range]; omega) (by rw [List.length_range]; omega)

end Go.Proofs.Yteldnoimmjihoaa.Wk
