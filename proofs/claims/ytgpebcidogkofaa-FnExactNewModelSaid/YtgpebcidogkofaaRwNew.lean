/- FnExactNewModel, for every configuration: the program's NewModel returns what the reference's returns; the results share no memory. No condition. -/
import Derived.Test.YtgpebcidogkofaaChecked
import Derived.Test.YtgpebcidogkofaaRows
import Derived.Test.YtgpebcidogkofaaWkNew
import Derived.Test.YtgpebcidogkofaaOpen
namespace Go.Proofs.Ytgpebcidogkofaa
open Go Go.RowKit Sl Wk
set_option linter.unusedVariables false
set_option linter.unusedSimpArgs false
set_option maxRecDepth 20000

theorem op3 : Opens Try.prog 3 1 (fun _ n cs => cs = [vi n]) int64 := opens_int (by kernel_rfl) (by kernel_rfl)
theorem fd23_0 : fldB Try.prog 23 0 = some (3, 0) := by kernel_rfl
theorem fd23_1 : fldB Try.prog 23 1 = some (3, 1) := by kernel_rfl
theorem fd23_2 : fldB Try.prog 23 2 = some (3, 2) := by kernel_rfl
theorem fd23_3 : fldB Try.prog 23 3 = some (3, 3) := by kernel_rfl
theorem fd23_4 : fldB Try.prog 23 4 = some (3, 4) := by kernel_rfl
theorem fd23_5 : fldB Try.prog 23 5 = some (3, 5) := by kernel_rfl
theorem op23 : Opens Try.prog 23 6 (fun _ x cs => cs = Config.enc x) Config.wf := by
  refine ⟨by kernel_rfl, fun H enc W sp fuel cs y h => ?_⟩
  have hl : cs.length = 6 := (trod_len fd23_0 h).trans (by kernel_rfl)
  have e6 : cs.drop 6 = [] := List.drop_eq_nil_of_le (by omega)
  obtain ⟨x0, k0, w0⟩ := Opens.field op3 fd23_0 h
  obtain ⟨x1, k1, w1⟩ := Opens.field op3 fd23_1 h
  obtain ⟨x2, k2, w2⟩ := Opens.field op3 fd23_2 h
  obtain ⟨x3, k3, w3⟩ := Opens.field op3 fd23_3 h
  obtain ⟨x4, k4, w4⟩ := Opens.field op3 fd23_4 h
  obtain ⟨x5, k5, w5⟩ := Opens.field op3 fd23_5 h
  have e5 : cs.drop 5 = [vi x5] ++ [] := by rw [drop_split cs 5 1, e6]; exact congrArg (· ++ _) k5
  have e4 : cs.drop 4 = [vi x4] ++ ([vi x5] ++ []) := by rw [drop_split cs 4 1, e5]; exact congrArg (· ++ _) k4
  have e3 : cs.drop 3 = [vi x3] ++ ([vi x4] ++ ([vi x5] ++ [])) := by rw [drop_split cs 3 1, e4]; exact congrArg (· ++ _) k3
  have e2 : cs.drop 2 = [vi x2] ++ ([vi x3] ++ ([vi x4] ++ ([vi x5] ++ []))) := by rw [drop_split cs 2 1, e3]; exact congrArg (· ++ _) k2
  have e1 : cs.drop 1 = [vi x1] ++ ([vi x2] ++ ([vi x3] ++ ([vi x4] ++ ([vi x5] ++ [])))) := by rw [drop_split cs 1 1, e2]; exact congrArg (· ++ _) k1
  have e0 : cs.drop 0 = [vi x0] ++ ([vi x1] ++ ([vi x2] ++ ([vi x3] ++ ([vi x4] ++ ([vi x5] ++ []))))) := by rw [drop_split cs 0 1, e1]; exact congrArg (· ++ _) k0
  exact ⟨⟨x0, x1, x2, x3, x4, x5⟩, (List.drop_zero (l := cs)).symm.trans e0, hl, w0, w1, w2, w3, w4, w5⟩
namespace fnExactNewModel
open Go.ChangeShapes Go.WideShapes Go.ChangeAt Go.RowKit
theorem laidOut : laidOutB Try.prog = true := by kernel_rfl
theorem own : ownKnob Try.prog.godebug = none := by kernel_rfl
set_option maxRecDepth 100000 in
theorem lifted (os : Os) (started : os.Started) (H : Type) (enc : TypeId × Value → H) :
    ReturnsInHanded {} Try.checked os 3 .any (Rows.fnExactNewModelSpec.pre6 enc Try.prog Try.f3 Rows.fnExactNewModelRow.domain false) (Rows.fnExactNewModelSpec.post enc Try.prog Try.f3 false true false false) := by
  refine returnsInHanded_of_change_sized (C := Try.checked) own started (by kernel_rfl) Try.func3
    (ChangeSpec.witness6 (enc := enc) (C := Try.checked) false ⟨#[], #[.agg #[.int .i64 0, .int .i64 0, .int .i64 0, .int .i64 0, .int .i64 0, .int .i64 0]], []⟩ 8 (by kernel_rfl) (by kernel_rfl) (by kernel_rfl) (by kernel_rfl)) ?_
  intro W base args ds gs before hval0 hW hcnd hsz0 _
  have hval : ∀ (j : Nat) t v, Try.f3.params[j]? = some t → args[j]? = some v → Value.okWide Try.prog W .any base t v := hval0
  have hW' := hW
  obtain ⟨p, q, hA0, hV, rfl, hfz, hnd⟩ := hW
  have hA : DataW.TrodAll enc Try.prog W 0 (fun _ => true) true Try.f3.params.toList args.toList ds p := hA0
  rw [Try.params3] at hA hval
  obtain ⟨v0, vs0, d0, ds0, p0, q0, hargs, rfl, rfl, h0, r0⟩ := trodAll_cons hA
  obtain ⟨rfl, rfl, rfl⟩ := trodAll_nil r0
  obtain rfl : args = #[v0] := by cases args; simp_all
  obtain ⟨rfl, rfl⟩ := trodVars_none hV
  have kk0 := h0
  have lt0 : ∀ x ∈ p0, x.block < W.heap.size := by obtain ⟨m, hm⟩ := kk0; exact DataW.trod_lt m _ _ _ hm
  obtain ⟨c0, rfl⟩ := okWide_struct fd23_0 (hval 0 23 v0 rfl rfl)
  obtain ⟨m0, hm0⟩ := h0; rw [agg_cells] at hm0
  obtain ⟨x0, k0, _, ok0⟩ := (op23).2 _ _ _ _ _ _ _ hm0; clear hm0
  obtain rfl := k0
  clear hA0 hval0
  refine (law_FnExactNewModel x0).mono ?_
  rintro e W' ⟨v, rfl, rfl, bel⟩
  exact ⟨_, rfl, _, _, _, [], _, [], hW', trodAll_mk1 (shut_bool (by kernel_rfl : Try.prog.underlying 4 = some .bool) _), (trodAll_cons_mk (Below.trod laidOut (by kernel_rfl) (of_decide_eq_true (by kernel_rfl)) kk0 bel lt0) trodAll_mk0), rfl, bel.frame _, fun h => by cases h⟩
theorem over : Rows.fnExactNewModelRow.holds Try.pinned (OpenSpec.ofChange Rows.fnExactNewModelSpec) :=
  OpenClaim.holds_of_wide 3 Try.f3 rfl rfl rfl rfl rfl rfl rfl ⟨rfl, rfl, rfl, rfl, rfl⟩ rfl rfl rfl rfl rfl (by kernel_rfl) Try.func3 (by kernel_rfl)
    (of_decide_eq_true (by kernel_rfl)) (by unfold Func.isWrapper; first | (rw [if_pos (by decide +kernel)]; kernel_rfl) | (rw [if_neg (by decide +kernel)]; exact ⟨rfl, rfl⟩))
    (fun os started H enc _ => lifted os started H enc)
theorem proved : Rows.FnExactNewModelSaid := over
end fnExactNewModel
/-- The row, under a short name. -/
theorem fnExactNewModel_holds : Rows.FnExactNewModelSaid := fnExactNewModel.proved
end Go.Proofs.Ytgpebcidogkofaa
