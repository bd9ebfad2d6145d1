/- FnExactMayGoNext, for all events, marks and numbers: the program's MayGoNext returns what the reference's returns, and the arguments stay as they were. Condition: the law's own guard on size. -/
import Derived.Test.YtgilfekfplfohaaChecked
import Derived.Test.YtgilfekfplfohaaRows
import Derived.Test.YtgilfekfplfohaaWkGo
import Derived.Test.YtgilfekfplfohaaOpen
namespace Go.Proofs.Ytgilfekfplfohaa
open Go Go.RowKit Sl Wk
set_option linter.unusedVariables false
set_option linter.unusedSimpArgs false
set_option maxRecDepth 20000

theorem op3 : Opens Try.prog 3 1 (fun _ n cs => cs = [vi n]) int64 := opens_int (by kernel_rfl) (by kernel_rfl)
theorem fd56_0 : fldB Try.prog 56 0 = some (3, 0) := by kernel_rfl
theorem fd56_1 : fldB Try.prog 56 1 = some (3, 1) := by kernel_rfl
theorem fd56_2 : fldB Try.prog 56 2 = some (3, 2) := by kernel_rfl
theorem op56 : Opens Try.prog 56 3 (fun _ x cs => cs = Op.enc x) Op.wf := by
  refine ⟨by kernel_rfl, fun H enc W sp fuel cs y h => ?_⟩
  have hl : cs.length = 3 := (trod_len fd56_0 h).trans (by kernel_rfl)
  have e3 : cs.drop 3 = [] := List.drop_eq_nil_of_le (by omega)
  obtain ⟨x0, k0, w0⟩ := Opens.field op3 fd56_0 h
  obtain ⟨x1, k1, w1⟩ := Opens.field op3 fd56_1 h
  obtain ⟨x2, k2, w2⟩ := Opens.field op3 fd56_2 h
  have e2 : cs.drop 2 = [vi x2] ++ [] := by rw [drop_split cs 2 1, e3]; exact congrArg (· ++ _) k2
  have e1 : cs.drop 1 = [vi x1] ++ ([vi x2] ++ []) := by rw [drop_split cs 1 1, e2]; exact congrArg (· ++ _) k1
  have e0 : cs.drop 0 = [vi x0] ++ ([vi x1] ++ ([vi x2] ++ [])) := by rw [drop_split cs 0 1, e1]; exact congrArg (· ++ _) k0
  exact ⟨⟨x0, x1, x2⟩, (List.drop_zero (l := cs)).symm.trans e0, hl, w0, w1, w2⟩
theorem fd58_0 : fldB Try.prog 58 0 = some (3, 0) := by kernel_rfl
theorem fd58_1 : fldB Try.prog 58 1 = some (3, 1) := by kernel_rfl
theorem op58 : Opens Try.prog 58 2 (fun _ x cs => cs = Result.enc x) Result.wf := by
  refine ⟨by kernel_rfl, fun H enc W sp fuel cs y h => ?_⟩
  have hl : cs.length = 2 := (trod_len fd58_0 h).trans (by kernel_rfl)
  have e2 : cs.drop 2 = [] := List.drop_eq_nil_of_le (by omega)
  obtain ⟨x0, k0, w0⟩ := Opens.field op3 fd58_0 h
  obtain ⟨x1, k1, w1⟩ := Opens.field op3 fd58_1 h
  have e1 : cs.drop 1 = [vi x1] ++ [] := by rw [drop_split cs 1 1, e2]; exact congrArg (· ++ _) k1
  have e0 : cs.drop 0 = [vi x0] ++ ([vi x1] ++ []) := by rw [drop_split cs 0 1, e1]; exact congrArg (· ++ _) k0
  exact ⟨⟨x0, x1⟩, (List.drop_zero (l := cs)).symm.trans e0, hl, w0, w1⟩
theorem fd89_0 : fldB Try.prog 89 0 = some (3, 0) := by kernel_rfl
theorem fd89_1 : fldB Try.prog 89 1 = some (56, 1) := by kernel_rfl
theorem fd89_2 : fldB Try.prog 89 2 = some (58, 4) := by kernel_rfl
theorem fd89_3 : fldB Try.prog 89 3 = some (3, 6) := by kernel_rfl
theorem fd89_4 : fldB Try.prog 89 4 = some (3, 7) := by kernel_rfl
theorem op89 : Opens Try.prog 89 8 (fun _ x cs => cs = Event.enc x) Event.wf := by
  refine ⟨by kernel_rfl, fun H enc W sp fuel cs y h => ?_⟩
  have hl : cs.length = 8 := (trod_len fd89_0 h).trans (by kernel_rfl)
  have e8 : cs.drop 8 = [] := List.drop_eq_nil_of_le (by omega)
  obtain ⟨x0, k0, w0⟩ := Opens.field op3 fd89_0 h
  obtain ⟨x1, k1, w1⟩ := Opens.field op56 fd89_1 h
  obtain ⟨x2, k2, w2⟩ := Opens.field op58 fd89_2 h
  obtain ⟨x3, k3, w3⟩ := Opens.field op3 fd89_3 h
  obtain ⟨x4, k4, w4⟩ := Opens.field op3 fd89_4 h
  have e7 : cs.drop 7 = [vi x4] ++ [] := by rw [drop_split cs 7 1, e8]; exact congrArg (· ++ _) k4
  have e6 : cs.drop 6 = [vi x3] ++ ([vi x4] ++ []) := by rw [drop_split cs 6 1, e7]; exact congrArg (· ++ _) k3
  have e4 : cs.drop 4 = Result.enc x2 ++ ([vi x3] ++ ([vi x4] ++ [])) := by rw [drop_split cs 4 2, e6]; exact congrArg (· ++ _) k2
  have e1 : cs.drop 1 = Op.enc x1 ++ (Result.enc x2 ++ ([vi x3] ++ ([vi x4] ++ []))) := by rw [drop_split cs 1 3, e4]; exact congrArg (· ++ _) k1
  have e0 : cs.drop 0 = [vi x0] ++ (Op.enc x1 ++ (Result.enc x2 ++ ([vi x3] ++ ([vi x4] ++ [])))) := by rw [drop_split cs 0 1, e1]; exact congrArg (· ++ _) k0
  exact ⟨⟨x0, x1, x2, x3, x4⟩, (List.drop_zero (l := cs)).symm.trans e0, hl, w0, w1, w2, w3, w4⟩
theorem op36 : Opens Try.prog 36 1 (fun W xs cs => ∃ v, cs = [v] ∧ eventEK.Rd W v xs) (fun xs => ∀ x ∈ xs, Event.wf x) := opens_slice op89 (by decide) (by kernel_rfl) (by kernel_rfl)
theorem op4 : Opens Try.prog 4 1 (fun _ b cs => cs = [.bool b]) (fun _ => True) := opens_bool (by kernel_rfl) (by kernel_rfl)
theorem op37 : Opens Try.prog 37 1 (fun W xs cs => ∃ v, cs = [v] ∧ boolEK.Rd W v xs) (fun xs => ∀ x ∈ xs, (fun _ => True) x) := opens_slice op4 (by decide) (by kernel_rfl) (by kernel_rfl)
namespace fnExactMayGoNext
open Go.ChangeShapes Go.WideShapes Go.ChangeAt Go.RowKit
theorem laidOut : laidOutB Try.prog = true := by kernel_rfl
theorem own : ownKnob Try.prog.godebug = none := by kernel_rfl
set_option maxRecDepth 100000 in
theorem lifted (os : Os) (started : os.Started) (H : Type) (enc : TypeId × Value → H) :
    ReturnsInHanded {} Try.checked os 5 .any (Rows.fnExactMayGoNextSpec.pre6 enc Try.prog Try.f5 Rows.fnExactMayGoNextRow.domain false) (Rows.fnExactMayGoNextSpec.post enc Try.prog Try.f5 false true false false) := by
  refine returnsInHanded_of_change_sized (C := Try.checked) own started (by kernel_rfl) Try.func5
    (ChangeSpec.witness6 (enc := enc) (C := Try.checked) false ⟨#[], #[.slice none 0 0, .slice none 0 0, .int .i64 0], []⟩ 8 (by kernel_rfl) (by kernel_rfl) (by kernel_rfl) (by kernel_rfl)) ?_
  intro W base args ds gs before hval0 hW hcnd hsz0 _
  have hval : ∀ (j : Nat) t v, Try.f5.params[j]? = some t → args[j]? = some v → Value.okWide Try.prog W .any base t v := hval0
  have hW' := hW
  obtain ⟨p, q, hA0, hV, rfl, hfz, hnd⟩ := hW
  have hA : DataW.TrodAll enc Try.prog W 0 (fun _ => true) true Try.f5.params.toList args.toList ds p := hA0
  rw [Try.params5] at hA hval
  obtain ⟨v0, vs0, d0, ds0, p0, q0, hargs, rfl, rfl, h0, r0⟩ := trodAll_cons hA
  obtain ⟨v1, vs1, d1, ds1, p1, q1, rfl, rfl, rfl, h1, r1⟩ := trodAll_cons r0
  obtain ⟨v2, vs2, d2, ds2, p2, q2, rfl, rfl, rfl, h2, r2⟩ := trodAll_cons r1
  obtain ⟨rfl, rfl, rfl⟩ := trodAll_nil r2
  obtain rfl : args = #[v0, v1, v2] := by cases args; simp_all
  obtain ⟨rfl, rfl⟩ := trodVars_none hV
  have kk0 := h0
  have lt0 : ∀ x ∈ p0, x.block < W.heap.size := by obtain ⟨m, hm⟩ := kk0; exact DataW.trod_lt m _ _ _ hm
  obtain ⟨sa0, sl0, sc0, rfl⟩ := okWide_slice (by kernel_rfl : Try.prog.underlying 36 = some (.slice 89)) (hval 0 36 v0 rfl rfl)
  obtain ⟨m0, hm0⟩ := h0
  obtain ⟨x0, ⟨u0_0, e0, hr0⟩, _, ok0⟩ := (op36).2 _ _ _ _ _ _ _ hm0; clear hm0
  obtain rfl : Value.slice sa0 sl0 sc0 = u0_0 := by simpa [Value.cells] using e0
  have kk1 := h1
  have lt1 : ∀ x ∈ p1, x.block < W.heap.size := by obtain ⟨m, hm⟩ := kk1; exact DataW.trod_lt m _ _ _ hm
  obtain ⟨sa1, sl1, sc1, rfl⟩ := okWide_slice (by kernel_rfl : Try.prog.underlying 37 = some (.slice 4)) (hval 1 37 v1 rfl rfl)
  obtain ⟨m1, hm1⟩ := h1
  obtain ⟨x1, ⟨u1_0, e1, hr1⟩, _, ok1⟩ := (op37).2 _ _ _ _ _ _ _ hm1; clear hm1
  obtain rfl : Value.slice sa1 sl1 sc1 = u1_0 := by simpa [Value.cells] using e1
  have kk2 := h2
  have lt2 : ∀ x ∈ p2, x.block < W.heap.size := by obtain ⟨m, hm⟩ := kk2; exact DataW.trod_lt m _ _ _ hm
  obtain ⟨x2, rfl, _, _, ok2⟩ := open_int (by kernel_rfl : Try.prog.underlying 3 = some (.int .i64)) (hval 2 3 v2 rfl rfl) h2; replace ok2 := wf_i64 ok2
  clear hA0 hval0
  refine (law_FnExactMayGoNext hr0 hr1).mono ?_
  rintro e W' ⟨v, rfl, rfl, bel⟩
  exact ⟨_, rfl, _, _, _, [], _, [], hW', trodAll_mk1 (shut_bool (by kernel_rfl : Try.prog.underlying 4 = some .bool) _), (trodAll_cons_mk (Below.trod laidOut (by kernel_rfl) (of_decide_eq_true (by kernel_rfl)) kk0 bel lt0) (trodAll_cons_mk (Below.trod laidOut (by kernel_rfl) (of_decide_eq_true (by kernel_rfl)) kk1 bel lt1) (trodAll_cons_mk (Below.trod laidOut (by kernel_rfl) (of_decide_eq_true (by kernel_rfl)) kk2 bel lt2) trodAll_mk0))), rfl, bel.frame _, fun h => by cases h⟩
theorem over : Rows.fnExactMayGoNextRow.holds Try.pinned (OpenSpec.ofChange Rows.fnExactMayGoNextSpec) :=
  OpenClaim.holds_of_wide 5 Try.f5 rfl rfl rfl rfl rfl rfl rfl ⟨rfl, rfl, rfl, rfl, rfl⟩ rfl rfl rfl rfl rfl (by kernel_rfl) Try.func5 (by kernel_rfl)
    (of_decide_eq_true (by kernel_rfl)) (by unfold Func.isWrapper; first | (rw [if_pos (by decide +kernel)]; kernel_rfl) | (rw [if_neg (by decide +kernel)]; exact ⟨rfl, rfl⟩))
    (fun os started H enc _ => lifted os started H enc)
theorem proved : Rows.FnExactMayGoNextSaid := over
end fnExactMayGoNext
/-- The row, under a short name. -/
theorem fnExactMayGoNext_holds : Rows.FnExactMayGoNextSaid := fnExactMayGoNext.proved
end Go.Proofs.Ytgilfekfplfohaa
