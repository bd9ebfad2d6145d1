/- Walks: Explains, the reference's and the program's. -/
import Derived.Test.YteldnoimmjihoaaChecked
import Derived.Test.YteldnoimmjihoaaWkAp
import Derived.Test.YteldnoimmjihoaaFactsB
namespace Go.Proofs.Yteldnoimmjihoaa.Wk
open Go Go.RowKit Sl
set_option linter.unusedVariables false
set_option linter.unusedSimpArgs false
set_option maxRecDepth 20000

def refusedB (e : Sl.Event) : Bool := (decide (e.op.kind = 3) && decide (e.result.code = 2)) || (decide (e.op.kind = 1) && decide (e.result.code = 5))
def explains (c : Config) (m : Model) (e : Sl.Event) : Model × Bool :=
  if isModel c m = true ∧ e.op.ok ∧ (0 ≤ e.thread ∧ e.thread ≤ c.threads - 1) then
    if e.fin < 0 ∨ e.result = (applyModel c m e.thread e.op).2 then ((applyModel c m e.thread e.op).1, true)
    else (m, refusedB e && decide (e.result.value = 0) && decide ((applyModel c m e.thread e.op).2.code = 0))
  else (m, false)
section
variable {c : Config} {m : Model} {p : Int} {o : Sl.Op} {e : Sl.Event}
theorem apply_code : (applyModel c m p o).2.code = 0 ∨ (applyModel c m p o).2.code = 1 ∨ (applyModel c m p o).2.code = 3 ∨ (applyModel c m p o).2.code = 4 ∨ (applyModel c m p o).2.code = 6 := by
  unfold applyModel
  repeat' split
  all_goals simp
theorem ex_no (h : ¬ (isModel c m = true ∧ e.op.ok ∧ (0 ≤ e.thread ∧ e.thread ≤ c.threads - 1))) : explains c m e = (m, false) := if_neg h
theorem ex_yes (h : isModel c m = true ∧ e.op.ok ∧ (0 ≤ e.thread ∧ e.thread ≤ c.threads - 1)) (h2 : e.fin < 0 ∨ e.result = (applyModel c m e.thread e.op).2) : explains c m e = ((applyModel c m e.thread e.op).1, true) := by
  unfold explains; rw [if_pos h, if_pos h2]
theorem ex_ref (h : isModel c m = true ∧ e.op.ok ∧ (0 ≤ e.thread ∧ e.thread ≤ c.threads - 1)) (h2 : ¬ (e.fin < 0 ∨ e.result = (applyModel c m e.thread e.op).2)) : explains c m e = (m, refusedB e && decide (e.result.value = 0) && decide ((applyModel c m e.thread e.op).2.code = 0)) := by
  unfold explains; rw [if_pos h, if_neg h2]
theorem ref_ne (h : refusedB e = true) : ¬ e.result = (applyModel c m p o).2 := by
  intro e1
  have := apply_code (c := c) (m := m) (p := p) (o := o)
  unfold refusedB at h
  rw [e1] at h
  simp only [zb3, zb4, zb7] at h
  omega
theorem result_ne {x y : Sl.Result} (h : ¬ [x.code, x.value] = [y.code, y.value]) : ¬ x = y := fun e => h (by rw [e])
theorem result_eq {x y : Sl.Result} (h : [x.code, x.value] = [y.code, y.value]) : x = y := by
  cases x; cases y; simpa using h
theorem ref_form : (refusedB e && decide (e.result.value = 0)) = ((decide (e.op.kind = 3) && decide ([e.result.code, e.result.value] = [2, 0])) || (decide (e.op.kind = 1) && decide ([e.result.code, e.result.value] = [5, 0]))) := by
  unfold refusedB
  rw [Bool.eq_iff_iff]
  simp only [zb3, zb4, zb7, List.cons.injEq, and_true]
  omega
theorem explains_cnt : (explains c m e).1.cnt ≤ m.cnt + m.values.length ∧ (explains c m e).1.size ≤ m.size + m.values.length := by
  have := applyModel_cnt (c := c) (m := m) (p := e.thread) (o := e.op)
  unfold explains
  repeat' split
  all_goals (dsimp only; omega)
end

set_option maxHeartbeats 4000000 in
set_option maxRecDepth 20000 in
theorem specExplains_c {W : World} {c : Config} {m : Model} {cs : List Value} {e : Sl.Event} (hm : modelEK.K W m cs) (hz : m.size ≤ 1048576) : Calls Try.prog 9 #[.agg c.enc.toArray, .agg cs.toArray, .agg e.enc.toArray] W (Ret (Mk W (fun vs => .tuple #[.agg (modelEK.cells (explains c m e).1 vs).toArray, .bool (explains c m e).2]) (fun vs => [Part modelEK (explains c m e).1 vs]))) := by
  refine calls_fr Try.func9 rfl Try.ntmps9 rfl ?_
  intro a hF
  have hS := Sep.refl W
  obtain ⟨v0, v1, rfl, r0, r1⟩ := hm
  have hm : modelEK.K W m (m.encv v0 v1) := ⟨_, _, rfl, r0, r1⟩
  have hw : isModel c m = true → IntKind.i64.wrap (c.threads - 1) = c.threads - 1 := fun h => by obtain ⟨hok, _⟩ := isModel_thr h; unfold Config.ok at hok; exact w64_id (by omega) (by omega)
  refine ws fun K1 hK1 => ?_
  refine wl_box (cs := [_, _, _, _, _, _]) hF hS rfl (hF.ev rfl) rfl ?_; clear hF a; intro g1 w1 a hS_ hB_ hF; replace hS := hS_; clear hS_ hB_
  refine wl_box (cs := [_, _]) hF hS rfl (hF.ev rfl) rfl ?_; clear hF a; intro g2 w2 a hS_ hB_ hF; replace hS := hS_; clear hS_ hB_
  refine wl_box (cs := [_, _, _, _, _, _, _, _]) hF hS rfl (hF.ev rfl) rfl ?_; clear hF a; intro g3 w3 a hS_ hB_ hF; replace hS := hS_; clear hS_ hB_
  refine wl_alloc hF hS rfl zr35 ?_; clear hF a; intro g4 w4 a hS_ hB_ hF; replace hS := hS_; clear hS_ hB_
  refine wl_mvs (A := [_]) hF rfl ?_; clear hF a; intro a hF
  refine wl_nil (hK1 _ _ ?_)
  refine ws fun K2 hK2 => ?_
  refine wl hF rfl rfl rfl (r_loadn ag35 (hF.ev rfl) (hS.box_rd (i := 2) rfl) sz35) ?_; clear hF a; intro a hF
  refine wl_mk hF hS rfl rfl rfl (r_call1 en43 (hF.ev rfl)) (specCopyM_c (hS.k hm) (by omega)) ?_; clear hF a; rintro ⟨p13, q13⟩ w5 a hS_ hF; replace hS := hS_; clear hS_; dsimp only [List.cons_append, List.nil_append] at hS
  refine wl_alloc hF hS rfl zr35 ?_; clear hF a; intro g5 w6 a hS_ hB_ hF; replace hS := hS_; clear hS_ hB_
  refine wl_storew hF hS (i := 0) rfl (hF.ev rfl) (hF.ev rfl) sz35 rfl rfl ?_; intro w7 hS_; replace hS := hS_; clear hS_; dsimp only [List.set, Nat.reduceAdd] at hS
  refine wl_nil (hK2 _ _ ?_)
  refine wp_seq_k fun K3 hK3 => ?_
  refine ws fun K4 hK4 => ?_
  refine wl hF rfl rfl rfl (r_loadn ag38 (hF.ev rfl) (hS.box_rd (i := 6) rfl) sz38) ?_; clear hF a; intro a hF
  refine wl hF rfl rfl rfl (r_loadn ag35 (hF.ev rfl) (hS.box_rd (i := 5) rfl) sz35) ?_; clear hF a; intro a hF
  refine wl_call hF rfl rfl rfl (r_call2 en37 (hF.ev rfl) (hF.ev rfl)) (specIsModel_c (hS.k hm)) ?_; clear hF a; rintro v w8 a ⟨rfl, hB_⟩ hF; replace hS := hS.ext hB_; clear hB_
  refine wl hF rfl rfl rfl (r_not (hF.ev rfl)) ?_; clear hF a; intro a hF
  refine wl_mvs (A := [_]) hF rfl ?_; clear hF a; intro a hF
  apply wl_or (A := [_, _, _, _, _, _, _, _]) (pk := 26) hF hS (tc := 18) rfl
  ·
    intro hg18 a hF; try simp only [zb1, zb2, zb3, zb4, zb5, zb6, zb7, zb8] at hg18
    refine wl_take hF rfl rfl rfl rfl ?_
    refine wl hF rfl rfl rfl (r_field fo44_0 (hF.ev rfl)) ?_; clear hF a; intro a hF
    refine wl_take hF rfl rfl rfl rfl ?_
    refine wl hF rfl rfl rfl (r_load1 sc3 (hF.ev rfl) (hS.box (i := 4) rfl rfl)) ?_; clear hF a; intro a hF
    refine wl_take hF rfl rfl rfl rfl ?_
    refine wl hF rfl rfl rfl (r_field fo38_0 (hF.ev rfl)) ?_; clear hF a; intro a hF
    refine wl_take hF rfl rfl rfl rfl ?_
    refine wl hF rfl rfl rfl (r_load1 sc3 (hF.ev rfl) (hS.box (i := 6) rfl rfl)) ?_; clear hF a; intro a hF
    refine wl_take hF rfl rfl rfl rfl ?_
    refine wl hF rfl rfl rfl (r_sub (hF.ev rfl) ec) ?_; clear hF a; intro a hF
    refine wl_take hF rfl rfl rfl rfl ?_
    refine wl_call hF rfl rfl rfl (r_call3 en44 (hF.ev rfl) ec (hF.ev rfl)) (l1In_c _ _ _) ?_; clear hF a; rintro v w9 a ⟨rfl, hB_⟩ hF; replace hS := hS.ext hB_; clear hB_
    refine wl_take hF rfl rfl rfl rfl ?_
    refine wl hF rfl rfl rfl (r_not (hF.ev rfl)) ?_; clear hF a; intro a hF
    refine wl hF rfl rfl rfl (r_pick_f (hF.ev rfl) (hF.ev rfl)) ?_; clear hF a; intro a hF
    exact wl_nil ⟨rfl, (Fr.pre (A := [_, _, _, _, _, _, _, _]) hF rfl).keep hF (t := 26) rfl, hS⟩
  ·
    intro hg18 a hF; try simp only [zb1, zb2, zb3, zb4, zb5, zb6, zb7, zb8] at hg18
    refine wl_mvs (A := [_, _, _, _, _, _, _]) hF rfl ?_; clear hF a; intro a hF
    refine wl hF rfl rfl rfl (r_pick_t (hF.ev rfl) ec) ?_; clear hF a; intro a hF
    exact wl_nil ⟨rfl, (Fr.pre (A := [_, _, _, _, _, _, _, _]) hF rfl).keep hF (t := 26) rfl, hS⟩
  clear hF a hS; intro a w10 hF hS
  refine wl_mvs (A := [_]) hF rfl ?_; clear hF a; intro a hF
  apply wl_or (A := [_, _, _, _, _]) (pk := 32) hF hS (tc := 27) rfl
  ·
    intro hg27 a hF; try simp only [zb1, zb2, zb3, zb4, zb5, zb6, zb7, zb8] at hg27
    refine wl_take hF rfl rfl rfl rfl ?_
    refine wl hF rfl rfl rfl (r_field fo44_1 (hF.ev rfl)) ?_; clear hF a; intro a hF
    refine wl_take hF rfl rfl rfl rfl ?_
    refine wl hF rfl rfl rfl (r_loadn ag41 (hF.ev rfl) (hS.boxn (vs := [_, _, _]) (i := 4) (m := 3) rfl rfl) sz41) ?_; clear hF a; intro a hF
    refine wl_take hF rfl rfl rfl rfl ?_
    refine wl_call hF rfl rfl rfl (r_call1 en39 (hF.ev rfl)) (specIsOp_c _) ?_; clear hF a; rintro v w11 a ⟨rfl, hB_⟩ hF; replace hS := hS.ext hB_; clear hB_
    refine wl_take hF rfl rfl rfl rfl ?_
    refine wl hF rfl rfl rfl (r_not (hF.ev rfl)) ?_; clear hF a; intro a hF
    refine wl hF rfl rfl rfl (r_pick_f (hF.ev rfl) (hF.ev rfl)) ?_; clear hF a; intro a hF
    exact wl_nil ⟨rfl, (Fr.pre (A := [_, _, _, _, _]) hF rfl).keep hF (t := 32) rfl, hS⟩
  ·
    intro hg27 a hF; try simp only [zb1, zb2, zb3, zb4, zb5, zb6, zb7, zb8] at hg27
    refine wl_mvs (A := [_, _, _, _]) hF rfl ?_; clear hF a; intro a hF
    refine wl hF rfl rfl rfl (r_pick_t (hF.ev rfl) ec) ?_; clear hF a; intro a hF
    exact wl_nil ⟨rfl, (Fr.pre (A := [_, _, _, _, _]) hF rfl).keep hF (t := 32) rfl, hS⟩
  clear hF a hS; intro a w12 hF hS
  refine wl_nil (hK4 _ _ ?_)
  refine wc_fx (t := 32) hF rfl ?_ ?_ <;> clear hF <;> intro c32 hF <;> try simp only [zb1, zb2, zb3, zb4, zb5, zb6, zb7, zb8] at c32
  ·
    have hno : ¬ (isModel c m = true ∧ e.op.ok ∧ (0 ≤ e.thread ∧ e.thread ≤ c.threads - 1)) := fun h => by
      rw [hw h.1] at c32
      rcases c32 with (c | c) | c
      · rw [h.1] at c; cases c
      · exact c h.2.2
      · exact c h.2.1
    refine ws fun K5 hK5 => ?_
    refine wl hF rfl rfl rfl (r_loadn ag35 (hF.ev rfl) (hS.box_rd (i := 0) rfl) sz35) ?_; clear hF a; intro a hF
    refine wl_storew hF hS (i := 3) rfl (hF.ev rfl) (hF.ev rfl) sz35 rfl rfl ?_; intro w13 hS_; replace hS := hS_; clear hS_; dsimp only [List.set, Nat.reduceAdd] at hS
    refine wl_mvs (A := [_]) hF rfl ?_; clear hF a; intro a hF
    refine wl_nil (hK5 _ _ ?_)
    refine wp_ret ?_
    try simp only [Exit.then, Exit.inBlock, ↓reduceIte]
    have e_ : explains c m e = (m, false) := ex_no hno
    refine ret2c rfl ag35 hF hS (i := 3) rfl sz35 rfl rfl ⟨[p13, q13], ?_, ?_⟩
    · first | (rw [e_]; done) | (rw [e_]; rfl)
    · rw [e_]; exact hS.part_of [1, 2] (by decide) rfl
  rw [hw c32.1.1] at c32
  have hyes : isModel c m = true ∧ e.op.ok ∧ (0 ≤ e.thread ∧ e.thread ≤ c.threads - 1) := ⟨c32.1.1, c32.2, c32.1.2⟩
  refine wp_skip ?_
  refine hK3 _ _ ?_
  refine ws fun K6 hK6 => ?_
  refine wl hF rfl rfl rfl (r_loadn ag38 (hF.ev rfl) (hS.box_rd (i := 6) rfl) sz38) ?_; clear hF a; intro a hF
  refine wl hF rfl rfl rfl (r_loadn ag35 (hF.ev rfl) (hS.box_rd (i := 5) rfl) sz35) ?_; clear hF a; intro a hF
  refine wl hF rfl rfl rfl (r_field fo44_0 (hF.ev rfl)) ?_; clear hF a; intro a hF
  refine wl hF rfl rfl rfl (r_load1 sc3 (hF.ev rfl) (hS.box (i := 4) rfl rfl)) ?_; clear hF a; intro a hF
  refine wl hF rfl rfl rfl (r_field fo44_1 (hF.ev rfl)) ?_; clear hF a; intro a hF
  refine wl hF rfl rfl rfl (r_loadn ag41 (hF.ev rfl) (hS.boxn (vs := [_, _, _]) (i := 4) (m := 3) rfl rfl) sz41) ?_; clear hF a; intro a hF
  refine wl_mk hF hS rfl rfl rfl (r_call4 en34 (hF.ev rfl) (hF.ev rfl) (hF.ev rfl) (hF.ev rfl)) (specApplyModel_c (hS.k hm) (by omega)) ?_; clear hF a; rintro vs41 w14 a hS_ hF; replace hS := hS_; clear hS_; dsimp only [List.cons_append, List.nil_append] at hS
  refine wl_mvs (A := [_]) hF rfl ?_; clear hF a; intro a hF
  refine wl hF rfl rfl rfl (r_extract (hF.ev rfl) rfl) ?_; clear hF a; intro a hF
  refine wl hF rfl rfl rfl (r_extract (hF.ev rfl) rfl) ?_; clear hF a; intro a hF
  refine wl_alloc hF hS rfl zr35 ?_; clear hF a; intro g6 w15 a hS_ hB_ hF; replace hS := hS_; clear hS_ hB_
  refine wl_alloc hF hS rfl zr42 ?_; clear hF a; intro g7 w16 a hS_ hB_ hF; replace hS := hS_; clear hS_ hB_
  refine wl_storew hF hS (i := 1) rfl (hF.ev rfl) (hF.ev rfl) sz35 rfl rfl ?_; intro w17 hS_; replace hS := hS_; clear hS_; dsimp only [List.set, Nat.reduceAdd] at hS
  refine wl_storen (cs' := [_, _]) hF hS (i := 0) rfl (hF.ev rfl) (hF.ev rfl) sz42 ⟨rfl, rfl⟩ rfl rfl ?_; intro w18 hS_; replace hS := hS_; clear hS_; dsimp only [List.set] at hS
  refine wl_nil (hK6 _ _ ?_)
  refine ws fun K7 hK7 => ?_
  refine wl hF rfl rfl rfl (r_field fo44_1 (hF.ev rfl)) ?_; clear hF a; intro a hF
  refine wl hF rfl rfl rfl (r_field fo41_0 (hF.ev rfl)) ?_; clear hF a; intro a hF
  refine wl hF rfl rfl rfl (r_load1 sc3 (hF.ev rfl) (hS.box (i := 7) rfl rfl)) ?_; clear hF a; intro a hF
  refine wl hF rfl rfl rfl (r_eql (hF.ev rfl) ec) ?_; clear hF a; intro a hF
  refine wl_mvs (A := [_]) hF rfl ?_; clear hF a; intro a hF
  apply wl_and (A := [_, _, _, _, _]) (pk := 53) hF hS (tc := 48) rfl
  ·
    intro hg48 a hF; try simp only [zb1, zb2, zb3, zb4, zb5, zb6, zb7, zb8] at hg48
    refine wl_take hF rfl rfl rfl rfl ?_
    refine wl hF rfl rfl rfl (r_field fo44_2 (hF.ev rfl)) ?_; clear hF a; intro a hF
    refine wl_take hF rfl rfl rfl rfl ?_
    refine wl hF rfl rfl rfl (r_field fo42_0 (hF.ev rfl)) ?_; clear hF a; intro a hF
    refine wl_take hF rfl rfl rfl rfl ?_
    refine wl hF rfl rfl rfl (r_load1 sc3 (hF.ev rfl) (hS.box (i := 7) rfl rfl)) ?_; clear hF a; intro a hF
    refine wl_take hF rfl rfl rfl rfl ?_
    refine wl hF rfl rfl rfl (r_eql (hF.ev rfl) ec) ?_; clear hF a; intro a hF
    refine wl hF rfl rfl rfl (r_pick_t (hF.ev rfl) (hF.ev rfl)) ?_; clear hF a; intro a hF
    exact wl_nil ⟨rfl, (Fr.pre (A := [_, _, _, _, _]) hF rfl).keep hF (t := 53) rfl, hS⟩
  ·
    intro hg48 a hF; try simp only [zb1, zb2, zb3, zb4, zb5, zb6, zb7, zb8] at hg48
    refine wl_mvs (A := [_, _, _, _]) hF rfl ?_; clear hF a; intro a hF
    refine wl hF rfl rfl rfl (r_pick_f (hF.ev rfl) ec) ?_; clear hF a; intro a hF
    exact wl_nil ⟨rfl, (Fr.pre (A := [_, _, _, _, _]) hF rfl).keep hF (t := 53) rfl, hS⟩
  clear hF a hS; intro a w19 hF hS
  refine wl_mvs (A := [_]) hF rfl ?_; clear hF a; intro a hF
  apply wl_or (A := [_, _, _, _, _, _, _, _, _, _, _]) (pk := 65) hF hS (tc := 54) rfl
  ·
    intro hg54 a hF; try simp only [zb1, zb2, zb3, zb4, zb5, zb6, zb7, zb8] at hg54
    refine wl_take hF rfl rfl rfl rfl ?_
    refine wl hF rfl rfl rfl (r_field fo44_1 (hF.ev rfl)) ?_; clear hF a; intro a hF
    refine wl_take hF rfl rfl rfl rfl ?_
    refine wl hF rfl rfl rfl (r_field fo41_0 (hF.ev rfl)) ?_; clear hF a; intro a hF
    refine wl_take hF rfl rfl rfl rfl ?_
    refine wl hF rfl rfl rfl (r_load1 sc3 (hF.ev rfl) (hS.box (i := 7) rfl rfl)) ?_; clear hF a; intro a hF
    refine wl_take hF rfl rfl rfl rfl ?_
    refine wl hF rfl rfl rfl (r_eql (hF.ev rfl) ec) ?_; clear hF a; intro a hF
    refine wl_mvs (A := [_]) hF rfl ?_; clear hF a; intro a hF
    apply wl_and (A := [_, _, _, _, _]) (pk := 64) hF hS (tc := 59) rfl
    ·
      intro hg59 a hF; try simp only [zb1, zb2, zb3, zb4, zb5, zb6, zb7, zb8] at hg59
      refine wl_take hF rfl rfl rfl rfl ?_
      refine wl hF rfl rfl rfl (r_field fo44_2 (hF.ev rfl)) ?_; clear hF a; intro a hF
      refine wl_take hF rfl rfl rfl rfl ?_
      refine wl hF rfl rfl rfl (r_field fo42_0 (hF.ev rfl)) ?_; clear hF a; intro a hF
      refine wl_take hF rfl rfl rfl rfl ?_
      refine wl hF rfl rfl rfl (r_load1 sc3 (hF.ev rfl) (hS.box (i := 7) rfl rfl)) ?_; clear hF a; intro a hF
      refine wl_take hF rfl rfl rfl rfl ?_
      refine wl hF rfl rfl rfl (r_eql (hF.ev rfl) ec) ?_; clear hF a; intro a hF
      refine wl_take hF rfl rfl rfl rfl ?_
      refine wl hF rfl rfl rfl (r_pick_t (hF.ev rfl) (hF.ev rfl)) ?_; clear hF a; intro a hF
      exact wl_nil ⟨rfl, (Fr.pre (A := [_, _, _, _, _]) hF rfl).keep hF (t := 64) rfl, hS⟩
    ·
      intro hg59 a hF; try simp only [zb1, zb2, zb3, zb4, zb5, zb6, zb7, zb8] at hg59
      refine wl_mvs (A := [_, _, _, _]) hF rfl ?_; clear hF a; intro a hF
      refine wl_take hF rfl rfl rfl rfl ?_
      refine wl hF rfl rfl rfl (r_pick_f (hF.ev rfl) ec) ?_; clear hF a; intro a hF
      exact wl_nil ⟨rfl, (Fr.pre (A := [_, _, _, _, _]) hF rfl).keep hF (t := 64) rfl, hS⟩
    intro a w20 hF hS
    refine wl hF rfl rfl rfl (r_pick_f (hF.ev rfl) (hF.ev rfl)) ?_; clear hF a; intro a hF
    exact wl_nil ⟨rfl, (Fr.pre (A := [_, _, _, _, _, _, _]) hF rfl).keep hF (t := 65) rfl, hS⟩
  ·
    intro hg54 a hF; try simp only [zb1, zb2, zb3, zb4, zb5, zb6, zb7, zb8] at hg54
    refine wl_mvs (A := [_, _, _, _, _, _, _, _, _, _]) hF rfl ?_; clear hF a; intro a hF
    refine wl hF rfl rfl rfl (r_pick_t (hF.ev rfl) ec) ?_; clear hF a; intro a hF
    exact wl_nil ⟨rfl, (Fr.pre (A := [_, _, _, _, _, _, _, _, _, _, _]) hF rfl).keep hF (t := 65) rfl, hS⟩
  clear hF a hS; intro a w21 hF hS
  refine wl_mvs (A := [_]) hF rfl ?_; clear hF a; intro a hF
  refine wl_nil (hK7 _ _ ?_)
  refine wp_seq_k fun K8 hK8 => ?_
  refine ws fun K9 hK9 => ?_
  refine wl hF rfl rfl rfl (r_field fo44_4 (hF.ev rfl)) ?_; clear hF a; intro a hF
  refine wl hF rfl rfl rfl (r_load1 sc3 (hF.ev rfl) (hS.box (i := 7) rfl rfl)) ?_; clear hF a; intro a hF
  refine wl hF rfl rfl rfl (r_geq (hF.ev rfl) ec) ?_; clear hF a; intro a hF
  refine wl_mvs (A := [_]) hF rfl ?_; clear hF a; intro a hF
  apply wl_and (A := [_, _]) (pk := 71) hF hS (tc := 69) rfl
  ·
    intro hg69 a hF; try simp only [zb1, zb2, zb3, zb4, zb5, zb6, zb7, zb8] at hg69
    refine wl_mvs (A := [_]) hF rfl ?_; clear hF a; intro a hF
    refine wl hF rfl rfl rfl (r_pick_t (hF.ev rfl) (hF.ev rfl)) ?_; clear hF a; intro a hF
    exact wl_nil ⟨rfl, (Fr.pre (A := [_, _]) hF rfl).keep hF (t := 71) rfl, hS⟩
  ·
    intro hg69 a hF; try simp only [zb1, zb2, zb3, zb4, zb5, zb6, zb7, zb8] at hg69
    refine wl_mvs (A := [_]) hF rfl ?_; clear hF a; intro a hF
    refine wl hF rfl rfl rfl (r_pick_f (hF.ev rfl) ec) ?_; clear hF a; intro a hF
    exact wl_nil ⟨rfl, (Fr.pre (A := [_, _]) hF rfl).keep hF (t := 71) rfl, hS⟩
  clear hF a hS; intro a w22 hF hS
  refine wl_mvs (A := [_]) hF rfl ?_; clear hF a; intro a hF
  apply wl_and (A := [_, _, _, _, _]) (pk := 77) hF hS (tc := 72) rfl
  ·
    intro hg72 a hF; try simp only [zb1, zb2, zb3, zb4, zb5, zb6, zb7, zb8] at hg72
    refine wl_take hF rfl rfl rfl rfl ?_
    refine wl hF rfl rfl rfl (r_field fo44_2 (hF.ev rfl)) ?_; clear hF a; intro a hF
    refine wl_take hF rfl rfl rfl rfl ?_
    refine wl hF rfl rfl rfl (r_field fo42_1 (hF.ev rfl)) ?_; clear hF a; intro a hF
    refine wl_take hF rfl rfl rfl rfl ?_
    refine wl hF rfl rfl rfl (r_load1 sc3 (hF.ev rfl) (hS.box (i := 7) rfl rfl)) ?_; clear hF a; intro a hF
    refine wl_take hF rfl rfl rfl rfl ?_
    refine wl hF rfl rfl rfl (r_eql (hF.ev rfl) ec) ?_; clear hF a; intro a hF
    refine wl hF rfl rfl rfl (r_pick_t (hF.ev rfl) (hF.ev rfl)) ?_; clear hF a; intro a hF
    exact wl_nil ⟨rfl, (Fr.pre (A := [_, _, _, _, _]) hF rfl).keep hF (t := 77) rfl, hS⟩
  ·
    intro hg72 a hF; try simp only [zb1, zb2, zb3, zb4, zb5, zb6, zb7, zb8] at hg72
    refine wl_mvs (A := [_, _, _, _]) hF rfl ?_; clear hF a; intro a hF
    refine wl hF rfl rfl rfl (r_pick_f (hF.ev rfl) ec) ?_; clear hF a; intro a hF
    exact wl_nil ⟨rfl, (Fr.pre (A := [_, _, _, _, _]) hF rfl).keep hF (t := 77) rfl, hS⟩
  clear hF a hS; intro a w23 hF hS
  refine wl_nil (hK9 _ _ ?_)
  refine wc_fx (t := 77) hF rfl ?_ ?_ <;> clear hF <;> intro c77 hF <;> try simp only [zb1, zb2, zb3, zb4, zb5, zb6, zb7, zb8] at c77
  ·
    have hrf : refusedB e = true := by unfold refusedB; simp only [zb3, zb4, zb7]; exact c77.1.2
    have hres := ex_ref hyes (fun h => h.elim (by omega) (ref_ne hrf))
    rw [hrf, decide_eq_true c77.2, Bool.true_and, Bool.true_and] at hres
    refine wp_seq_k fun K10 hK10 => ?_
    refine wp_region_todo (is := [0, 1, 2, 3, 4, 5]) [] [4, 5] (by kernel_rfl) hF hS ⟨trivial, by decide, by decide, by decide⟩ (by kernel_rfl) ?_; clear hF; intro hl_ wd hSd
    refine todo_load [4, 5] hl_ (by kernel_rfl) rfl (gw0 rfl) rfl rfl rfl (fun a w_ hF hB_ => r_loadn ag35 (hF.ev rfl) ((hSd.ext hB_).box_rd (i := 3) rfl) sz35) ?_
    refine todo_pure hl_ (by kernel_rfl) rfl (gw0 rfl) rfl rfl rfl (fun a w_ hF => r_field fo42_0 (hF.ev rfl)) ?_
    refine todo_fork [(2, [3, 4, 5]), (4, [2, 3, 5])] hl_ rfl (by kernel_rfl) (List.forall_mem_cons.2 ⟨?_, List.forall_mem_cons.2 ⟨?_, fun _ h_ => nomatch h_⟩⟩)
    ·
      refine op_ld rfl rfl (gw0 rfl) rfl rfl rfl (fun a w_ hF hS => r_load1 sc3 (hF.ev rfl) (hS.box (i := 0) rfl rfl)) ?_
      refine todo_pure hl_ (by kernel_rfl) rfl (gw0 rfl) rfl rfl rfl (fun a w_ hF => r_eql (hF.ev rfl) ec) ?_
      refine todo_fin hl_ rfl (by kernel_rfl) (tl := [_, _]) rfl ?_; clear hS a; intro a w24 hF hA_
      have hS := hA_.sep; clear hA_
      clear hl_; try clear hSd
      try dsimp only [List.cons_append, List.nil_append, List.set] at hS
      try clear wd
      refine wl_storew hF hS (i := 6) rfl (hF.ev rfl) (hF.ev rfl) sz35 rfl rfl ?_; intro w25 hS_; replace hS := hS_; clear hS_; dsimp only [List.set, Nat.reduceAdd] at hS
      refine wl_mvs (A := [_]) hF rfl ?_; clear hF a; intro a hF
      refine wl_nil ⟨rfl, ?_⟩
      refine hK10 _ _ ?_
      refine wp_ret ?_
      try simp only [Exit.then, Exit.inBlock, ↓reduceIte]
      have e_ : explains c m e = (m, (decide ((applyModel c m e.thread e.op).2.code = 0))) := hres
      refine ret2c rfl ag35 hF hS (i := 6) rfl sz35 rfl rfl ⟨[p13, q13], ?_, ?_⟩
      · first | (rw [e_]; done) | (rw [e_]; rfl)
      · rw [e_]; exact hS.part_of [4, 5] (by decide) rfl
    ·
      refine op_st (j := 6) (m' := [5]) rfl rfl (by kernel_rfl) rfl (fun a hF => (hF.ev rfl)) (fun a hF => (hF.ev rfl)) sz35 rfl rfl ?_; try clear hSd; try clear wd; intro wd hSd; try dsimp only [List.set] at hSd
      refine todo_load [3, 5] hl_ (by kernel_rfl) rfl (gw0 rfl) rfl rfl rfl (fun a w_ hF hB_ => r_load1 sc3 (hF.ev rfl) ((hSd.ext hB_).box (i := 0) rfl rfl)) ?_
      refine todo_pure hl_ (by kernel_rfl) rfl (gw0 rfl) rfl rfl rfl (fun a w_ hF => r_eql (hF.ev rfl) ec) ?_
      refine todo_fin hl_ rfl (by kernel_rfl) (tl := [_]) rfl ?_; clear hS a; intro a w26 hF hA_
      have hS := hA_.sep; clear hA_
      clear hl_; try clear hSd
      try dsimp only [List.cons_append, List.nil_append, List.set] at hS
      try clear wd
      refine wl_mvs (A := [_]) hF rfl ?_; clear hF a; intro a hF
      refine wl_nil ⟨rfl, ?_⟩
      refine hK10 _ _ ?_
      refine wp_ret ?_
      try simp only [Exit.then, Exit.inBlock, ↓reduceIte]
      have e_ : explains c m e = (m, (decide ((applyModel c m e.thread e.op).2.code = 0))) := hres
      refine ret2c rfl ag35 hF hS (i := 6) rfl sz35 rfl rfl ⟨[p13, q13], ?_, ?_⟩
      · first | (rw [e_]; done) | (rw [e_]; rfl)
      · rw [e_]; exact hS.part_of [4, 5] (by decide) rfl
  refine wp_skip ?_
  refine hK8 _ _ ?_
  refine wp_seq_k fun K11 hK11 => ?_
  refine ws fun K12 hK12 => ?_
  refine wl hF rfl rfl rfl (r_field fo44_4 (hF.ev rfl)) ?_; clear hF a; intro a hF
  refine wl hF rfl rfl rfl (r_load1 sc3 (hF.ev rfl) (hS.box (i := 7) rfl rfl)) ?_; clear hF a; intro a hF
  refine wl hF rfl rfl rfl (r_geq (hF.ev rfl) ec) ?_; clear hF a; intro a hF
  refine wl_mvs (A := [_]) hF rfl ?_; clear hF a; intro a hF
  apply wl_and (A := [_, _, _, _, _]) (pk := 90) hF hS (tc := 85) rfl
  ·
    intro hg85 a hF; try simp only [zb1, zb2, zb3, zb4, zb5, zb6, zb7, zb8] at hg85
    refine wl_take hF rfl rfl rfl rfl ?_
    refine wl hF rfl rfl rfl (r_field fo44_2 (hF.ev rfl)) ?_; clear hF a; intro a hF
    refine wl_take hF rfl rfl rfl rfl ?_
    refine wl hF rfl rfl rfl (r_loadn ag42 (hF.ev rfl) (hS.boxn (vs := [_, _]) (i := 7) (m := 2) rfl rfl) sz42) ?_; clear hF a; intro a hF
    refine wl_take hF rfl rfl rfl rfl ?_
    refine wl hF rfl rfl rfl (r_loadn ag42 (hF.ev rfl) (hS.box_rd (i := 0) rfl) sz42) ?_; clear hF a; intro a hF
    refine wl_take hF rfl rfl rfl rfl ?_
    refine wl hF rfl rfl rfl (r_neqF [_, _] [_, _] fl42 ag42 eg42 rfl rfl ((hF.ev rfl).trans rfl) ((hF.ev rfl).trans rfl)) ?_; clear hF a; intro a hF
    refine wl hF rfl rfl rfl (r_pick_t (hF.ev rfl) (hF.ev rfl)) ?_; clear hF a; intro a hF
    exact wl_nil ⟨rfl, (Fr.pre (A := [_, _, _, _, _]) hF rfl).keep hF (t := 90) rfl, hS⟩
  ·
    intro hg85 a hF; try simp only [zb1, zb2, zb3, zb4, zb5, zb6, zb7, zb8] at hg85
    refine wl_mvs (A := [_, _, _, _]) hF rfl ?_; clear hF a; intro a hF
    refine wl hF rfl rfl rfl (r_pick_f (hF.ev rfl) ec) ?_; clear hF a; intro a hF
    exact wl_nil ⟨rfl, (Fr.pre (A := [_, _, _, _, _]) hF rfl).keep hF (t := 90) rfl, hS⟩
  clear hF a hS; intro a w27 hF hS
  refine wl_nil (hK12 _ _ ?_)
  refine wc_fx (t := 90) hF rfl ?_ ?_ <;> clear hF <;> intro c90 hF <;> try simp only [zb1, zb2, zb3, zb4, zb5, zb6, zb7, zb8] at c90
  ·
    have hne : ¬ (e.fin < 0 ∨ e.result = (applyModel c m e.thread e.op).2) := fun h => h.elim (by omega) (result_ne c90.2)
    have hres2 := ex_ref hyes hne
    have hrv : (refusedB e && decide (e.result.value = 0)) = false := by unfold refusedB; simp only [zb3, zb4, zb5, zb6, zb7, zb8]; omega
    rw [hrv, Bool.false_and] at hres2
    refine ws fun K13 hK13 => ?_
    refine wl hF rfl rfl rfl (r_loadn ag35 (hF.ev rfl) (hS.box_rd (i := 3) rfl) sz35) ?_; clear hF a; intro a hF
    refine wl_storew hF hS (i := 6) rfl (hF.ev rfl) (hF.ev rfl) sz35 rfl rfl ?_; intro w28 hS_; replace hS := hS_; clear hS_; dsimp only [List.set, Nat.reduceAdd] at hS
    refine wl_mvs (A := [_]) hF rfl ?_; clear hF a; intro a hF
    refine wl_nil (hK13 _ _ ?_)
    refine wp_ret ?_
    try simp only [Exit.then, Exit.inBlock, ↓reduceIte]
    have e_ : explains c m e = (m, false) := hres2
    refine ret2c rfl ag35 hF hS (i := 6) rfl sz35 rfl rfl ⟨[p13, q13], ?_, ?_⟩
    · first | (rw [e_]; done) | (rw [e_]; rfl)
    · rw [e_]; exact hS.part_of [4, 5] (by decide) rfl
  have hres3 : explains c m e = ((applyModel c m e.thread e.op).1, true) := ex_yes hyes (c90.elim (fun h => .inl (by omega)) (fun h => .inr (result_eq h)))
  refine wp_skip ?_
  refine hK11 _ _ ?_
  refine ws fun K14 hK14 => ?_
  refine wl hF rfl rfl rfl (r_loadn ag35 (hF.ev rfl) (hS.box_rd (i := 1) rfl) sz35) ?_; clear hF a; intro a hF
  refine wl_storew hF hS (i := 6) rfl (hF.ev rfl) (hF.ev rfl) sz35 rfl rfl ?_; intro w29 hS_; replace hS := hS_; clear hS_; dsimp only [List.set, Nat.reduceAdd] at hS
  refine wl_mvs (A := [_]) hF rfl ?_; clear hF a; intro a hF
  refine wl_nil (hK14 _ _ ?_)
  refine wp_ret ?_
  try simp only [Exit.then, Exit.inBlock, ↓reduceIte]
  have e_ : explains c m e = ((applyModel c m e.thread e.op).1, true) := hres3
  refine ret2c rfl ag35 hF hS (i := 6) rfl sz35 rfl rfl ⟨vs41, ?_, ?_⟩
  · first | (rw [e_]; done) | (rw [e_]; rfl)
  · rw [e_]; exact hS.pick [2] (by decide) rfl

set_option maxHeartbeats 4000000 in
set_option maxRecDepth 20000 in
theorem implExplains_c {W : World} {c : Config} {m : Model} {cs : List Value} {e : Sl.Event} (hm : modelEK.K W m cs) (hz : m.size ≤ 1048576) : Calls Try.prog 13 #[.agg c.enc.toArray, .agg cs.toArray, .agg e.enc.toArray] W (Ret (Mk W (fun vs => .tuple #[.agg (modelEK.cells (explains c m e).1 vs).toArray, .bool (explains c m e).2]) (fun vs => [Part modelEK (explains c m e).1 vs]))) := by
  refine calls_fr Try.func13 rfl Try.ntmps13 rfl ?_
  intro a hF
  have hS := Sep.refl W
  obtain ⟨v0, v1, rfl, r0, r1⟩ := hm
  have hm : modelEK.K W m (m.encv v0 v1) := ⟨_, _, rfl, r0, r1⟩
  have hw : isModel c m = true → IntKind.i64.wrap (c.threads - 1) = c.threads - 1 := fun h => by obtain ⟨hok, _⟩ := isModel_thr h; unfold Config.ok at hok; exact w64_id (by omega) (by omega)
  refine ws fun K1 hK1 => ?_
  refine wl_box (cs := [_, _, _, _, _, _]) hF hS rfl (hF.ev rfl) rfl ?_; clear hF a; intro g1 w1 a hS_ hB_ hF; replace hS := hS_; clear hS_ hB_
  refine wl_box (cs := [_, _]) hF hS rfl (hF.ev rfl) rfl ?_; clear hF a; intro g2 w2 a hS_ hB_ hF; replace hS := hS_; clear hS_ hB_
  refine wl_box (cs := [_, _, _, _, _, _, _, _]) hF hS rfl (hF.ev rfl) rfl ?_; clear hF a; intro g3 w3 a hS_ hB_ hF; replace hS := hS_; clear hS_ hB_
  refine wl_alloc hF hS rfl zr35 ?_; clear hF a; intro g4 w4 a hS_ hB_ hF; replace hS := hS_; clear hS_ hB_
  refine wl_mvs (A := [_]) hF rfl ?_; clear hF a; intro a hF
  refine wl_nil (hK1 _ _ ?_)
  refine wp_seq_k fun K2 hK2 => ?_
  refine ws fun K3 hK3 => ?_
  refine wl hF rfl rfl rfl (r_loadn ag38 (hF.ev rfl) (hS.box_rd (i := 3) rfl) sz38) ?_; clear hF a; intro a hF
  refine wl hF rfl rfl rfl (r_loadn ag35 (hF.ev rfl) (hS.box_rd (i := 2) rfl) sz35) ?_; clear hF a; intro a hF
  refine wl_call hF rfl rfl rfl (r_call2 en36 (hF.ev rfl) (hF.ev rfl)) (implIsModel_c (hS.k hm)) ?_; clear hF a; rintro v w5 a ⟨rfl, hB_⟩ hF; replace hS := hS.ext hB_; clear hB_
  refine wl hF rfl rfl rfl (r_not (hF.ev rfl)) ?_; clear hF a; intro a hF
  refine wl_mvs (A := [_]) hF rfl ?_; clear hF a; intro a hF
  apply wl_or (A := [_, _, _, _, _]) (pk := 20) hF hS (tc := 15) rfl
  ·
    intro hg15 a hF; try simp only [zb1, zb2, zb3, zb4, zb5, zb6, zb7, zb8] at hg15
    refine wl_take hF rfl rfl rfl rfl ?_
    refine wl hF rfl rfl rfl (r_field fo44_1 (hF.ev rfl)) ?_; clear hF a; intro a hF
    refine wl_take hF rfl rfl rfl rfl ?_
    refine wl hF rfl rfl rfl (r_loadn ag41 (hF.ev rfl) (hS.boxn (vs := [_, _, _]) (i := 1) (m := 3) rfl rfl) sz41) ?_; clear hF a; intro a hF
    refine wl_take hF rfl rfl rfl rfl ?_
    refine wl_call hF rfl rfl rfl (r_call1 en48 (hF.ev rfl)) (implIsOp_c _) ?_; clear hF a; rintro v w6 a ⟨rfl, hB_⟩ hF; replace hS := hS.ext hB_; clear hB_
    refine wl_take hF rfl rfl rfl rfl ?_
    refine wl hF rfl rfl rfl (r_not (hF.ev rfl)) ?_; clear hF a; intro a hF
    refine wl hF rfl rfl rfl (r_pick_f (hF.ev rfl) (hF.ev rfl)) ?_; clear hF a; intro a hF
    exact wl_nil ⟨rfl, (Fr.pre (A := [_, _, _, _, _]) hF rfl).keep hF (t := 20) rfl, hS⟩
  ·
    intro hg15 a hF; try simp only [zb1, zb2, zb3, zb4, zb5, zb6, zb7, zb8] at hg15
    refine wl_mvs (A := [_, _, _, _]) hF rfl ?_; clear hF a; intro a hF
    refine wl hF rfl rfl rfl (r_pick_t (hF.ev rfl) ec) ?_; clear hF a; intro a hF
    exact wl_nil ⟨rfl, (Fr.pre (A := [_, _, _, _, _]) hF rfl).keep hF (t := 20) rfl, hS⟩
  clear hF a hS; intro a w7 hF hS
  refine wl_mvs (A := [_]) hF rfl ?_; clear hF a; intro a hF
  apply wl_or (A := [_, _, _, _, _, _, _, _]) (pk := 29) hF hS (tc := 21) rfl
  ·
    intro hg21 a hF; try simp only [zb1, zb2, zb3, zb4, zb5, zb6, zb7, zb8] at hg21
    refine wl_take hF rfl rfl rfl rfl ?_
    refine wl hF rfl rfl rfl (r_field fo44_0 (hF.ev rfl)) ?_; clear hF a; intro a hF
    refine wl_take hF rfl rfl rfl rfl ?_
    refine wl hF rfl rfl rfl (r_load1 sc3 (hF.ev rfl) (hS.box (i := 1) rfl rfl)) ?_; clear hF a; intro a hF
    refine wl_take hF rfl rfl rfl rfl ?_
    refine wl hF rfl rfl rfl (r_field fo38_0 (hF.ev rfl)) ?_; clear hF a; intro a hF
    refine wl_take hF rfl rfl rfl rfl ?_
    refine wl hF rfl rfl rfl (r_load1 sc3 (hF.ev rfl) (hS.box (i := 3) rfl rfl)) ?_; clear hF a; intro a hF
    refine wl_take hF rfl rfl rfl rfl ?_
    refine wl hF rfl rfl rfl (r_sub (hF.ev rfl) ec) ?_; clear hF a; intro a hF
    refine wl_take hF rfl rfl rfl rfl ?_
    refine wl_call hF rfl rfl rfl (r_call3 en49 (hF.ev rfl) ec (hF.ev rfl)) (in_c _ _ _) ?_; clear hF a; rintro v w8 a ⟨rfl, hB_⟩ hF; replace hS := hS.ext hB_; clear hB_
    refine wl_take hF rfl rfl rfl rfl ?_
    refine wl hF rfl rfl rfl (r_not (hF.ev rfl)) ?_; clear hF a; intro a hF
    refine wl hF rfl rfl rfl (r_pick_f (hF.ev rfl) (hF.ev rfl)) ?_; clear hF a; intro a hF
    exact wl_nil ⟨rfl, (Fr.pre (A := [_, _, _, _, _, _, _, _]) hF rfl).keep hF (t := 29) rfl, hS⟩
  ·
    intro hg21 a hF; try simp only [zb1, zb2, zb3, zb4, zb5, zb6, zb7, zb8] at hg21
    refine wl_mvs (A := [_, _, _, _, _, _, _]) hF rfl ?_; clear hF a; intro a hF
    refine wl hF rfl rfl rfl (r_pick_t (hF.ev rfl) ec) ?_; clear hF a; intro a hF
    exact wl_nil ⟨rfl, (Fr.pre (A := [_, _, _, _, _, _, _, _]) hF rfl).keep hF (t := 29) rfl, hS⟩
  clear hF a hS; intro a w9 hF hS
  refine wl_nil (hK3 _ _ ?_)
  refine wc_fx (t := 29) hF rfl ?_ ?_ <;> clear hF <;> intro c29 hF <;> try simp only [zb1, zb2, zb3, zb4, zb5, zb6, zb7, zb8] at c29
  ·
    have hno : ¬ (isModel c m = true ∧ e.op.ok ∧ (0 ≤ e.thread ∧ e.thread ≤ c.threads - 1)) := fun h => by
      rw [hw h.1] at c29
      rcases c29 with (c | c) | c
      · rw [h.1] at c; cases c
      · exact c h.2.1
      · exact c h.2.2
    refine ws fun K4 hK4 => ?_
    refine wl hF rfl rfl rfl (r_loadn ag35 (hF.ev rfl) (hS.box_rd (i := 2) rfl) sz35) ?_; clear hF a; intro a hF
    refine wl_mk hF hS rfl rfl rfl (r_call1 en50 (hF.ev rfl)) (implCopyM_c (hS.k hm) (by omega)) ?_; clear hF a; rintro ⟨p31, q31⟩ w10 a hS_ hF; replace hS := hS_; clear hS_; dsimp only [List.cons_append, List.nil_append] at hS
    refine wl_storew hF hS (i := 2) rfl (hF.ev rfl) (hF.ev rfl) sz35 rfl rfl ?_; intro w11 hS_; replace hS := hS_; clear hS_; dsimp only [List.set, Nat.reduceAdd] at hS
    refine wl_mvs (A := [_]) hF rfl ?_; clear hF a; intro a hF
    refine wl_nil (hK4 _ _ ?_)
    refine wp_ret ?_
    try simp only [Exit.then, Exit.inBlock, ↓reduceIte]
    have e_ : explains c m e = (m, false) := ex_no hno
    refine ret2c rfl ag35 hF hS (i := 2) rfl sz35 rfl rfl ⟨[p31, q31], ?_, ?_⟩
    · first | (rw [e_]; done) | (rw [e_]; rfl)
    · rw [e_]; exact hS.part_of [0, 1] (by decide) rfl
  rw [hw c29.1.1] at c29
  have hyes : isModel c m = true ∧ e.op.ok ∧ (0 ≤ e.thread ∧ e.thread ≤ c.threads - 1) := ⟨c29.1.1, c29.1.2, c29.2⟩
  refine wp_skip ?_
  refine hK2 _ _ ?_
  refine ws fun K5 hK5 => ?_
  refine wl hF rfl rfl rfl (r_loadn ag38 (hF.ev rfl) (hS.box_rd (i := 3) rfl) sz38) ?_; clear hF a; intro a hF
  refine wl hF rfl rfl rfl (r_loadn ag35 (hF.ev rfl) (hS.box_rd (i := 2) rfl) sz35) ?_; clear hF a; intro a hF
  refine wl hF rfl rfl rfl (r_field fo44_0 (hF.ev rfl)) ?_; clear hF a; intro a hF
  refine wl hF rfl rfl rfl (r_load1 sc3 (hF.ev rfl) (hS.box (i := 1) rfl rfl)) ?_; clear hF a; intro a hF
  refine wl hF rfl rfl rfl (r_field fo44_1 (hF.ev rfl)) ?_; clear hF a; intro a hF
  refine wl hF rfl rfl rfl (r_loadn ag41 (hF.ev rfl) (hS.boxn (vs := [_, _, _]) (i := 1) (m := 3) rfl rfl) sz41) ?_; clear hF a; intro a hF
  refine wl_mk hF hS rfl rfl rfl (r_call4 en33 (hF.ev rfl) (hF.ev rfl) (hF.ev rfl) (hF.ev rfl)) (implApplyModel_c (hS.k hm) (by omega)) ?_; clear hF a; rintro vs39 w12 a hS_ hF; replace hS := hS_; clear hS_; dsimp only [List.cons_append, List.nil_append] at hS
  refine wl_mvs (A := [_]) hF rfl ?_; clear hF a; intro a hF
  refine wl hF rfl rfl rfl (r_extract (hF.ev rfl) rfl) ?_; clear hF a; intro a hF
  refine wl hF rfl rfl rfl (r_extract (hF.ev rfl) rfl) ?_; clear hF a; intro a hF
  refine wl_alloc hF hS rfl zr35 ?_; clear hF a; intro g5 w13 a hS_ hB_ hF; replace hS := hS_; clear hS_ hB_
  refine wl_alloc hF hS rfl zr42 ?_; clear hF a; intro g6 w14 a hS_ hB_ hF; replace hS := hS_; clear hS_ hB_
  refine wl_storew hF hS (i := 1) rfl (hF.ev rfl) (hF.ev rfl) sz35 rfl rfl ?_; intro w15 hS_; replace hS := hS_; clear hS_; dsimp only [List.set, Nat.reduceAdd] at hS
  refine wl_storen (cs' := [_, _]) hF hS (i := 0) rfl (hF.ev rfl) (hF.ev rfl) sz42 ⟨rfl, rfl⟩ rfl rfl ?_; intro w16 hS_; replace hS := hS_; clear hS_; dsimp only [List.set] at hS
  refine wl_nil (hK5 _ _ ?_)
  refine wp_seq_k fun K6 hK6 => ?_
  refine ws fun K7 hK7 => ?_
  refine wl hF rfl rfl rfl (r_field fo44_4 (hF.ev rfl)) ?_; clear hF a; intro a hF
  refine wl hF rfl rfl rfl (r_load1 sc3 (hF.ev rfl) (hS.box (i := 4) rfl rfl)) ?_; clear hF a; intro a hF
  refine wl hF rfl rfl rfl (r_lss (hF.ev rfl) ec) ?_; clear hF a; intro a hF
  refine wl_mvs (A := [_]) hF rfl ?_; clear hF a; intro a hF
  apply wl_or (A := [_, _, _, _, _]) (pk := 50) hF hS (tc := 45) rfl
  ·
    intro hg45 a hF; try simp only [zb1, zb2, zb3, zb4, zb5, zb6, zb7, zb8] at hg45
    refine wl_take hF rfl rfl rfl rfl ?_
    refine wl hF rfl rfl rfl (r_field fo44_2 (hF.ev rfl)) ?_; clear hF a; intro a hF
    refine wl_take hF rfl rfl rfl rfl ?_
    refine wl hF rfl rfl rfl (r_loadn ag42 (hF.ev rfl) (hS.boxn (vs := [_, _]) (i := 4) (m := 2) rfl rfl) sz42) ?_; clear hF a; intro a hF
    refine wl_take hF rfl rfl rfl rfl ?_
    refine wl hF rfl rfl rfl (r_loadn ag42 (hF.ev rfl) (hS.box_rd (i := 0) rfl) sz42) ?_; clear hF a; intro a hF
    refine wl_take hF rfl rfl rfl rfl ?_
    refine wl hF rfl rfl rfl (r_eqlF [_, _] [_, _] fl42 ag42 eg42 rfl rfl ((hF.ev rfl).trans rfl) ((hF.ev rfl).trans rfl)) ?_; clear hF a; intro a hF
    refine wl hF rfl rfl rfl (r_pick_f (hF.ev rfl) (hF.ev rfl)) ?_; clear hF a; intro a hF
    exact wl_nil ⟨rfl, (Fr.pre (A := [_, _, _, _, _]) hF rfl).keep hF (t := 50) rfl, hS⟩
  ·
    intro hg45 a hF; try simp only [zb1, zb2, zb3, zb4, zb5, zb6, zb7, zb8] at hg45
    refine wl_mvs (A := [_, _, _, _]) hF rfl ?_; clear hF a; intro a hF
    refine wl hF rfl rfl rfl (r_pick_t (hF.ev rfl) ec) ?_; clear hF a; intro a hF
    exact wl_nil ⟨rfl, (Fr.pre (A := [_, _, _, _, _]) hF rfl).keep hF (t := 50) rfl, hS⟩
  clear hF a hS; intro a w17 hF hS
  refine wl_nil (hK7 _ _ ?_)
  refine wc_fx (t := 50) hF rfl ?_ ?_ <;> clear hF <;> intro c50 hF <;> try simp only [zb1, zb2, zb3, zb4, zb5, zb6, zb7, zb8] at c50
  ·
    replace c50 := c50.imp_right result_eq
    refine ws fun K8 hK8 => ?_
    refine wl hF rfl rfl rfl (r_loadn ag35 (hF.ev rfl) (hS.box_rd (i := 1) rfl) sz35) ?_; clear hF a; intro a hF
    refine wl_storew hF hS (i := 3) rfl (hF.ev rfl) (hF.ev rfl) sz35 rfl rfl ?_; intro w18 hS_; replace hS := hS_; clear hS_; dsimp only [List.set, Nat.reduceAdd] at hS
    refine wl_mvs (A := [_]) hF rfl ?_; clear hF a; intro a hF
    refine wl_nil (hK8 _ _ ?_)
    refine wp_ret ?_
    try simp only [Exit.then, Exit.inBlock, ↓reduceIte]
    have e_ : explains c m e = ((applyModel c m e.thread e.op).1, true) := ex_yes hyes c50
    refine ret2c rfl ag35 hF hS (i := 3) rfl sz35 rfl rfl ⟨vs39, ?_, ?_⟩
    · first | (rw [e_]; done) | (rw [e_]; rfl)
    · rw [e_]; exact hS.pick [2] (by decide) rfl
  replace c50 : ¬ (e.fin < 0 ∨ e.result = (applyModel c m e.thread e.op).2) := fun h => h.elim c50.1 (result_ne c50.2)
  refine wp_skip ?_
  refine hK6 _ _ ?_
  refine ws fun K9 hK9 => ?_
  refine wl hF rfl rfl rfl (r_field fo44_1 (hF.ev rfl)) ?_; clear hF a; intro a hF
  refine wl hF rfl rfl rfl (r_field fo41_0 (hF.ev rfl)) ?_; clear hF a; intro a hF
  refine wl hF rfl rfl rfl (r_load1 sc3 (hF.ev rfl) (hS.box (i := 4) rfl rfl)) ?_; clear hF a; intro a hF
  refine wl hF rfl rfl rfl (r_eql (hF.ev rfl) ec) ?_; clear hF a; intro a hF
  refine wl_mvs (A := [_]) hF rfl ?_; clear hF a; intro a hF
  apply wl_and (A := [_, _, _, _, _]) (pk := 61) hF hS (tc := 56) rfl
  ·
    intro hg56 a hF; try simp only [zb1, zb2, zb3, zb4, zb5, zb6, zb7, zb8] at hg56
    refine wl_take hF rfl rfl rfl rfl ?_
    refine wl hF rfl rfl rfl (r_field fo44_2 (hF.ev rfl)) ?_; clear hF a; intro a hF
    refine wl_take hF rfl rfl rfl rfl ?_
    refine wl hF rfl rfl rfl (r_loadn ag42 (hF.ev rfl) (hS.boxn (vs := [_, _]) (i := 4) (m := 2) rfl rfl) sz42) ?_; clear hF a; intro a hF
    refine wl_take hF rfl rfl rfl rfl ?_
    refine wl hF rfl rfl rfl (r_build (bd42_0 _) ⟨rfl, ec, trivial⟩) ?_; clear hF a; intro a hF
    refine wl_take hF rfl rfl rfl rfl ?_
    refine wl hF rfl rfl rfl (r_eqlF [_, _] [_, _] fl42 ag42 eg42 rfl rfl ((hF.ev rfl).trans rfl) ((hF.ev rfl).trans rfl)) ?_; clear hF a; intro a hF
    refine wl hF rfl rfl rfl (r_pick_t (hF.ev rfl) (hF.ev rfl)) ?_; clear hF a; intro a hF
    exact wl_nil ⟨rfl, (Fr.pre (A := [_, _, _, _, _]) hF rfl).keep hF (t := 61) rfl, hS⟩
  ·
    intro hg56 a hF; try simp only [zb1, zb2, zb3, zb4, zb5, zb6, zb7, zb8] at hg56
    refine wl_mvs (A := [_, _, _, _]) hF rfl ?_; clear hF a; intro a hF
    refine wl hF rfl rfl rfl (r_pick_f (hF.ev rfl) ec) ?_; clear hF a; intro a hF
    exact wl_nil ⟨rfl, (Fr.pre (A := [_, _, _, _, _]) hF rfl).keep hF (t := 61) rfl, hS⟩
  clear hF a hS; intro a w19 hF hS
  refine wl_mvs (A := [_]) hF rfl ?_; clear hF a; intro a hF
  apply wl_or (A := [_, _, _, _, _, _, _, _, _, _, _]) (pk := 73) hF hS (tc := 62) rfl
  ·
    intro hg62 a hF; try simp only [zb1, zb2, zb3, zb4, zb5, zb6, zb7, zb8] at hg62
    refine wl_take hF rfl rfl rfl rfl ?_
    refine wl hF rfl rfl rfl (r_field fo44_1 (hF.ev rfl)) ?_; clear hF a; intro a hF
    refine wl_take hF rfl rfl rfl rfl ?_
    refine wl hF rfl rfl rfl (r_field fo41_0 (hF.ev rfl)) ?_; clear hF a; intro a hF
    refine wl_take hF rfl rfl rfl rfl ?_
    refine wl hF rfl rfl rfl (r_load1 sc3 (hF.ev rfl) (hS.box (i := 4) rfl rfl)) ?_; clear hF a; intro a hF
    refine wl_take hF rfl rfl rfl rfl ?_
    refine wl hF rfl rfl rfl (r_eql (hF.ev rfl) ec) ?_; clear hF a; intro a hF
    refine wl_mvs (A := [_]) hF rfl ?_; clear hF a; intro a hF
    apply wl_and (A := [_, _, _, _, _]) (pk := 72) hF hS (tc := 67) rfl
    ·
      intro hg67 a hF; try simp only [zb1, zb2, zb3, zb4, zb5, zb6, zb7, zb8] at hg67
      refine wl_take hF rfl rfl rfl rfl ?_
      refine wl hF rfl rfl rfl (r_field fo44_2 (hF.ev rfl)) ?_; clear hF a; intro a hF
      refine wl_take hF rfl rfl rfl rfl ?_
      refine wl hF rfl rfl rfl (r_loadn ag42 (hF.ev rfl) (hS.boxn (vs := [_, _]) (i := 4) (m := 2) rfl rfl) sz42) ?_; clear hF a; intro a hF
      refine wl_take hF rfl rfl rfl rfl ?_
      refine wl hF rfl rfl rfl (r_build (bd42_0 _) ⟨rfl, ec, trivial⟩) ?_; clear hF a; intro a hF
      refine wl_take hF rfl rfl rfl rfl ?_
      refine wl hF rfl rfl rfl (r_eqlF [_, _] [_, _] fl42 ag42 eg42 rfl rfl ((hF.ev rfl).trans rfl) ((hF.ev rfl).trans rfl)) ?_; clear hF a; intro a hF
      refine wl_take hF rfl rfl rfl rfl ?_
      refine wl hF rfl rfl rfl (r_pick_t (hF.ev rfl) (hF.ev rfl)) ?_; clear hF a; intro a hF
      exact wl_nil ⟨rfl, (Fr.pre (A := [_, _, _, _, _]) hF rfl).keep hF (t := 72) rfl, hS⟩
    ·
      intro hg67 a hF; try simp only [zb1, zb2, zb3, zb4, zb5, zb6, zb7, zb8] at hg67
      refine wl_mvs (A := [_, _, _, _]) hF rfl ?_; clear hF a; intro a hF
      refine wl_take hF rfl rfl rfl rfl ?_
      refine wl hF rfl rfl rfl (r_pick_f (hF.ev rfl) ec) ?_; clear hF a; intro a hF
      exact wl_nil ⟨rfl, (Fr.pre (A := [_, _, _, _, _]) hF rfl).keep hF (t := 72) rfl, hS⟩
    intro a w20 hF hS
    refine wl hF rfl rfl rfl (r_pick_f (hF.ev rfl) (hF.ev rfl)) ?_; clear hF a; intro a hF
    exact wl_nil ⟨rfl, (Fr.pre (A := [_, _, _, _, _, _, _]) hF rfl).keep hF (t := 73) rfl, hS⟩
  ·
    intro hg62 a hF; try simp only [zb1, zb2, zb3, zb4, zb5, zb6, zb7, zb8] at hg62
    refine wl_mvs (A := [_, _, _, _, _, _, _, _, _, _]) hF rfl ?_; clear hF a; intro a hF
    refine wl hF rfl rfl rfl (r_pick_t (hF.ev rfl) ec) ?_; clear hF a; intro a hF
    exact wl_nil ⟨rfl, (Fr.pre (A := [_, _, _, _, _, _, _, _, _, _, _]) hF rfl).keep hF (t := 73) rfl, hS⟩
  clear hF a hS; intro a w21 hF hS
  refine wl_mvs (A := [_]) hF rfl ?_; clear hF a; intro a hF
  refine wl_nil (hK9 _ _ ?_)
  refine wp_seq_k fun K10 hK10 => ?_
  revert hF; intro hF0; refine bsplit (t := 10) hF0 rfl (fun b10 hF => ?_) (fun b10 hF => ?_) <;> clear hF0
  ·
    refine wp_region_todo (is := [0, 2, 1, 3, 4, 5, 6, 7, 8, 9]) [] [8, 9] (by kernel_rfl) hF hS ⟨trivial, by decide, by decide, by decide⟩ (by kernel_rfl) ?_; clear hF; intro hl_ wd hSd
    refine todo_load [1, 3, 4, 5, 6, 7, 8, 9] hl_ (by kernel_rfl) rfl (gw0 rfl) rfl rfl rfl (fun a w_ hF hB_ => r_loadn ag35 (hF.ev rfl) ((hSd.ext hB_).box_rd (i := 5) rfl) sz35) ?_
    refine todo_pure hl_ (by kernel_rfl) rfl (gw0 rfl) rfl rfl rfl (fun a w_ hF => r_move (hF.ev rfl)) ?_
    refine todo_mk hl_ rfl (by kernel_rfl) rfl rfl rfl rfl rfl (fun a w_ hF => r_call1 en50 (hF.ev rfl)) (fun w_ hS => implCopyM_c (hS.k hm) (by omega)) ?_; rintro ⟨p75, q75⟩
    refine todo_pure hl_ (by kernel_rfl) rfl (gw0 rfl) rfl rfl rfl (fun a w_ hF => r_move (hF.ev rfl)) ?_
    refine todo_pure hl_ (by kernel_rfl) rfl (gw1 rfl rfl rfl rfl) rfl rfl rfl (fun a w_ hF => r_field fo42_0 (hF.ev rfl)) ?_
    refine todo_fork [(5, [6, 7, 8, 9]), (8, [5, 6, 7, 9])] hl_ rfl (by kernel_rfl) (List.forall_mem_cons.2 ⟨?_, List.forall_mem_cons.2 ⟨?_, fun _ h_ => nomatch h_⟩⟩)
    ·
      refine op_ld rfl rfl (gw1 rfl rfl rfl rfl) rfl rfl rfl (fun a w_ hF hS => r_load1 sc3 (hF.ev rfl) (hS.box (i := 2) rfl rfl)) ?_
      refine todo_pure hl_ (by kernel_rfl) rfl (gw1 rfl rfl rfl rfl) rfl rfl rfl (fun a w_ hF => r_eql (hF.ev rfl) ec) ?_
      refine todo_pure hl_ (by kernel_rfl) rfl (gw0 rfl) rfl rfl rfl (fun a w_ hF => r_pick_t (hF.ev rfl) (hF.ev rfl)) ?_
      refine todo_fin hl_ rfl (by kernel_rfl) (tl := [_, _]) rfl ?_; clear hS a; intro a w22 hF hA_
      have hS := hA_.sep; clear hA_
      clear hl_; try clear hSd
      try dsimp only [List.cons_append, List.nil_append, List.set] at hS
      try clear wd
      refine wl_storew hF hS (i := 5) rfl (hF.ev rfl) (hF.ev rfl) sz35 rfl rfl ?_; intro w23 hS_; replace hS := hS_; clear hS_; dsimp only [List.set, Nat.reduceAdd] at hS
      refine wl_mvs (A := [_]) hF rfl ?_; clear hF a; intro a hF
      refine wl_nil ⟨rfl, ?_⟩
      refine hK10 _ _ ?_
      refine wp_ret ?_
      try simp only [Exit.then, Exit.inBlock, ↓reduceIte]
      have e_ : explains c m e = (m, (refusedB e && decide (e.result.value = 0) && decide ((applyModel c m e.thread e.op).2.code = 0))) := ex_ref hyes c50
      refine ret2c rfl ag35 hF hS (i := 5) rfl sz35 rfl rfl ⟨[p75, q75], ?_, ?_⟩
      · rw [e_, ref_form]; first | (rw [b10]; done) | (rw [b10]; rfl)
      · rw [e_]; exact hS.part_of [0, 1] (by decide) rfl
    ·
      refine op_st (j := 5) (m' := [9]) rfl rfl (by kernel_rfl) rfl (fun a hF => (hF.ev rfl)) (fun a hF => (hF.ev rfl)) sz35 rfl rfl ?_; try clear hSd; try clear wd; intro wd hSd; try dsimp only [List.set] at hSd
      refine todo_load [6, 7, 9] hl_ (by kernel_rfl) rfl (gw1 rfl rfl rfl rfl) rfl rfl rfl (fun a w_ hF hB_ => r_load1 sc3 (hF.ev rfl) ((hSd.ext hB_).box (i := 2) rfl rfl)) ?_
      refine todo_pure hl_ (by kernel_rfl) rfl (gw1 rfl rfl rfl rfl) rfl rfl rfl (fun a w_ hF => r_eql (hF.ev rfl) ec) ?_
      refine todo_pure hl_ (by kernel_rfl) rfl (gw0 rfl) rfl rfl rfl (fun a w_ hF => r_pick_t (hF.ev rfl) (hF.ev rfl)) ?_
      refine todo_fin hl_ rfl (by kernel_rfl) (tl := [_]) rfl ?_; clear hS a; intro a w24 hF hA_
      have hS := hA_.sep; clear hA_
      clear hl_; try clear hSd
      try dsimp only [List.cons_append, List.nil_append, List.set] at hS
      try clear wd
      refine wl_mvs (A := [_]) hF rfl ?_; clear hF a; intro a hF
      refine wl_nil ⟨rfl, ?_⟩
      refine hK10 _ _ ?_
      refine wp_ret ?_
      try simp only [Exit.then, Exit.inBlock, ↓reduceIte]
      have e_ : explains c m e = (m, (refusedB e && decide (e.result.value = 0) && decide ((applyModel c m e.thread e.op).2.code = 0))) := ex_ref hyes c50
      refine ret2c rfl ag35 hF hS (i := 5) rfl sz35 rfl rfl ⟨[p75, q75], ?_, ?_⟩
      · rw [e_, ref_form]; first | (rw [b10]; done) | (rw [b10]; rfl)
      · rw [e_]; exact hS.part_of [0, 1] (by decide) rfl
  ·
    refine wp_region_todo (is := [0, 2, 1, 3, 4, 5, 6, 7, 8, 9]) [] [8, 9] (by kernel_rfl) hF hS ⟨trivial, by decide, by decide, by decide⟩ (by kernel_rfl) ?_; clear hF; intro hl_ wd hSd
    refine todo_load [1, 3, 4, 5, 6, 7, 8, 9] hl_ (by kernel_rfl) rfl (gw0 rfl) rfl rfl rfl (fun a w_ hF hB_ => r_loadn ag35 (hF.ev rfl) ((hSd.ext hB_).box_rd (i := 5) rfl) sz35) ?_
    refine todo_pure hl_ (by kernel_rfl) rfl (gw0 rfl) rfl rfl rfl (fun a w_ hF => r_move (hF.ev rfl)) ?_
    refine todo_mk hl_ rfl (by kernel_rfl) rfl rfl rfl rfl rfl (fun a w_ hF => r_call1 en50 (hF.ev rfl)) (fun w_ hS => implCopyM_c (hS.k hm) (by omega)) ?_; rintro ⟨p75, q75⟩
    refine todo_pure hl_ (by kernel_rfl) rfl (gw0 rfl) rfl rfl rfl (fun a w_ hF => r_move (hF.ev rfl)) ?_
    refine todo_skipP hl_ (by kernel_rfl) rfl rfl rfl rfl rfl rfl rfl rfl ?_
    refine todo_skipP hl_ (by kernel_rfl) rfl rfl rfl rfl rfl rfl rfl rfl ?_
    refine todo_skipP hl_ (by kernel_rfl) rfl rfl rfl rfl rfl rfl rfl rfl ?_
    refine todo_pure hl_ (by kernel_rfl) rfl (gw0 rfl) rfl rfl rfl (fun a w_ hF => r_pick_f (hF.ev rfl) ec) ?_
    refine todo_fin hl_ rfl (by kernel_rfl) (tl := [_, _]) rfl ?_; clear hS a; intro a w25 hF hA_
    have hS := hA_.sep; clear hA_
    clear hl_; try clear hSd
    try dsimp only [List.cons_append, List.nil_append, List.set] at hS
    try clear wd
    refine wl_storew hF hS (i := 5) rfl (hF.ev rfl) (hF.ev rfl) sz35 rfl rfl ?_; intro w26 hS_; replace hS := hS_; clear hS_; dsimp only [List.set, Nat.reduceAdd] at hS
    refine wl_mvs (A := [_]) hF rfl ?_; clear hF a; intro a hF
    refine wl_nil ⟨rfl, ?_⟩
    refine hK10 _ _ ?_
    refine wp_ret ?_
    try simp only [Exit.then, Exit.inBlock, ↓reduceIte]
    have e_ : explains c m e = (m, (refusedB e && decide (e.result.value = 0) && decide ((applyModel c m e.thread e.op).2.code = 0))) := ex_ref hyes c50
    refine ret2c rfl ag35 hF hS (i := 5) rfl sz35 rfl rfl ⟨[p75, q75], ?_, ?_⟩
    · rw [e_, ref_form]; first | (rw [b10]; done) | (rw [b10]; rfl)
    · rw [e_]; exact hS.part_of [0, 1] (by decide) rfl

end Go.Proofs.Yteldnoimmjihoaa.Wk
