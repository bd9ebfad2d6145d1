/- FnExactStepEnd, for all arguments: the program's StepEnd returns what the reference's returns, and the arguments stay as they were. Condition: the law's own guard on size. -/
import Derived.Test.YtjmohafpcjbajaaGreatChecked
import Derived.Test.YtjmohafpcjbajaaGreatRows
import Derived.Test.YtjmohafpcjbajaaGreatWkLe
import Derived.Test.YtjmohafpcjbajaaGreatOpen
import Derived.Test.YtjmohafpcjbajaaGreatDoor
import Derived.Test.YtjmohafpcjbajaaGreatFactsC
namespace Go.Proofs.YtjmohafpcjbajaaGreat
open Go Go.RowKit Sl Wk
set_option linter.unusedVariables false
set_option linter.unusedSimpArgs false
set_option maxRecDepth 20000

theorem op3 : Opens Tryz.prog 3 1 (fun _ n cs => cs = [vi n]) int64 := opens_int (by kernel_rfl) (by kernel_rfl)
theorem fd23_0 : fldB Tryz.prog 23 0 = some (3, 0) := by kernel_rfl
theorem fd23_1 : fldB Tryz.prog 23 1 = some (3, 1) := by kernel_rfl
theorem fd23_2 : fldB Tryz.prog 23 2 = some (3, 2) := by kernel_rfl
theorem fd23_3 : fldB Tryz.prog 23 3 = some (3, 3) := by kernel_rfl
theorem fd23_4 : fldB Tryz.prog 23 4 = some (3, 4) := by kernel_rfl
theorem fd23_5 : fldB Tryz.prog 23 5 = some (3, 5) := by kernel_rfl
theorem op23 : Opens Tryz.prog 23 6 (fun _ x cs => cs = Config.enc x) Config.wf := by
  refine ⟨by kernel_rfl, fun H enc W sp fuel cs y h => ?_⟩
  have hl : cs.length = 6 := (trod_len fd23_0 h).trans (by kernel_rfl)
  have e6 : cs.drop 6 = [] := List.drop_eq_nil_of_le (by omega)
  obtain ⟨x0, k0, w0⟩ := Opens.field op3 fd23_0 h
  obtain ⟨x1, k1, w1⟩ := Opens.field op3 fd23_1 h
  obtain ⟨x2, k2, w2⟩ := Opens.field op3 fd23_2 h
  obtain ⟨x3, k3, w3⟩ := Opens.field op3 fd23_3 h
  obtain ⟨x4, k4, w4⟩ := Opens.field op3 fd23_4 h
  obtain ⟨x5, k5, w5⟩ := Opens.field op3 fd23_5 h
  have e5 : cs.drop 5 = [vi x5] ++ [] := by rw [drop_split cs 5 1, e6]; exact congrArg (· ++ _) k5
  have e4 : cs.drop 4 = [vi x4] ++ ([vi x5] ++ []) := by rw [drop_split cs 4 1, e5]; exact congrArg (· ++ _) k4
  have e3 : cs.drop 3 = [vi x3] ++ ([vi x4] ++ ([vi x5] ++ [])) := by rw [drop_split cs 3 1, e4]; exact congrArg (· ++ _) k3
  have e2 : cs.drop 2 = [vi x2] ++ ([vi x3] ++ ([vi x4] ++ ([vi x5] ++ []))) := by rw [drop_split cs 2 1, e3]; exact congrArg (· ++ _) k2
  have e1 : cs.drop 1 = [vi x1] ++ ([vi x2] ++ ([vi x3] ++ ([vi x4] ++ ([vi x5] ++ [])))) := by rw [drop_split cs 1 1, e2]; exact congrArg (· ++ _) k1
  have e0 : cs.drop 0 = [vi x0] ++ ([vi x1] ++ ([vi x2] ++ ([vi x3] ++ ([vi x4] ++ ([vi x5] ++ []))))) := by rw [drop_split cs 0 1, e1]; exact congrArg (· ++ _) k0
  exact ⟨⟨x0, x1, x2, x3, x4, x5⟩, (List.drop_zero (l := cs)).symm.trans e0, hl, w0, w1, w2, w3, w4, w5⟩
theorem op24 : Opens Tryz.prog 24 1 (fun W xs cs => ∃ v, cs = [v] ∧ intEK.Rd W v xs) (fun xs => ∀ x ∈ xs, int64 x) := opens_slice op3 (by decide) (by kernel_rfl) (by kernel_rfl)
theorem fd71_0 : fldB Tryz.prog 71 0 = some (3, 0) := by kernel_rfl
theorem fd71_1 : fldB Tryz.prog 71 1 = some (3, 1) := by kernel_rfl
theorem fd71_2 : fldB Tryz.prog 71 2 = some (3, 2) := by kernel_rfl
theorem op71 : Opens Tryz.prog 71 3 (fun _ x cs => cs = Op.enc x) Op.wf := by
  refine ⟨by kernel_rfl, fun H enc W sp fuel cs y h => ?_⟩
  have hl : cs.length = 3 := (trod_len fd71_0 h).trans (by kernel_rfl)
  have e3 : cs.drop 3 = [] := List.drop_eq_nil_of_le (by omega)
  obtain ⟨x0, k0, w0⟩ := Opens.field op3 fd71_0 h
  obtain ⟨x1, k1, w1⟩ := Opens.field op3 fd71_1 h
  obtain ⟨x2, k2, w2⟩ := Opens.field op3 fd71_2 h
  have e2 : cs.drop 2 = [vi x2] ++ [] := by rw [drop_split cs 2 1, e3]; exact congrArg (· ++ _) k2
  have e1 : cs.drop 1 = [vi x1] ++ ([vi x2] ++ []) := by rw [drop_split cs 1 1, e2]; exact congrArg (· ++ _) k1
  have e0 : cs.drop 0 = [vi x0] ++ ([vi x1] ++ ([vi x2] ++ [])) := by rw [drop_split cs 0 1, e1]; exact congrArg (· ++ _) k0
  exact ⟨⟨x0, x1, x2⟩, (List.drop_zero (l := cs)).symm.trans e0, hl, w0, w1, w2⟩
theorem fd72_0 : fldB Tryz.prog 72 0 = some (3, 0) := by kernel_rfl
theorem fd72_1 : fldB Tryz.prog 72 1 = some (3, 1) := by kernel_rfl
theorem op72 : Opens Tryz.prog 72 2 (fun _ x cs => cs = Result.enc x) Result.wf := by
  refine ⟨by kernel_rfl, fun H enc W sp fuel cs y h => ?_⟩
  have hl : cs.length = 2 := (trod_len fd72_0 h).trans (by kernel_rfl)
  have e2 : cs.drop 2 = [] := List.drop_eq_nil_of_le (by omega)
  obtain ⟨x0, k0, w0⟩ := Opens.field op3 fd72_0 h
  obtain ⟨x1, k1, w1⟩ := Opens.field op3 fd72_1 h
  have e1 : cs.drop 1 = [vi x1] ++ [] := by rw [drop_split cs 1 1, e2]; exact congrArg (· ++ _) k1
  have e0 : cs.drop 0 = [vi x0] ++ ([vi x1] ++ []) := by rw [drop_split cs 0 1, e1]; exact congrArg (· ++ _) k0
  exact ⟨⟨x0, x1⟩, (List.drop_zero (l := cs)).symm.trans e0, hl, w0, w1⟩
theorem fd114_0 : fldB Tryz.prog 114 0 = some (3, 0) := by kernel_rfl
theorem fd114_1 : fldB Tryz.prog 114 1 = some (3, 1) := by kernel_rfl
theorem fd114_2 : fldB Tryz.prog 114 2 = some (3, 2) := by kernel_rfl
theorem fd114_3 : fldB Tryz.prog 114 3 = some (3, 3) := by kernel_rfl
theorem op114 : Opens Tryz.prog 114 4 (fun _ x cs => cs = Entry.enc x) Entry.wf := by
  refine ⟨by kernel_rfl, fun H enc W sp fuel cs y h => ?_⟩
  have hl : cs.length = 4 := (trod_len fd114_0 h).trans (by kernel_rfl)
  have e4 : cs.drop 4 = [] := List.drop_eq_nil_of_le (by omega)
  obtain ⟨x0, k0, w0⟩ := Opens.field op3 fd114_0 h
  obtain ⟨x1, k1, w1⟩ := Opens.field op3 fd114_1 h
  obtain ⟨x2, k2, w2⟩ := Opens.field op3 fd114_2 h
  obtain ⟨x3, k3, w3⟩ := Opens.field op3 fd114_3 h
  have e3 : cs.drop 3 = [vi x3] ++ [] := by rw [drop_split cs 3 1, e4]; exact congrArg (· ++ _) k3
  have e2 : cs.drop 2 = [vi x2] ++ ([vi x3] ++ []) := by rw [drop_split cs 2 1, e3]; exact congrArg (· ++ _) k2
  have e1 : cs.drop 1 = [vi x1] ++ ([vi x2] ++ ([vi x3] ++ [])) := by rw [drop_split cs 1 1, e2]; exact congrArg (· ++ _) k1
  have e0 : cs.drop 0 = [vi x0] ++ ([vi x1] ++ ([vi x2] ++ ([vi x3] ++ []))) := by rw [drop_split cs 0 1, e1]; exact congrArg (· ++ _) k0
  exact ⟨⟨x0, x1, x2, x3⟩, (List.drop_zero (l := cs)).symm.trans e0, hl, w0, w1, w2, w3⟩
theorem op73 : Opens Tryz.prog 73 1 (fun W xs cs => ∃ v, cs = [v] ∧ entryEK.Rd W v xs) (fun xs => ∀ x ∈ xs, Entry.wf x) := opens_slice op114 (by decide) (by kernel_rfl) (by kernel_rfl)
theorem fd75_0 : fldB Tryz.prog 75 0 = some (3, 0) := by kernel_rfl
theorem fd75_1 : fldB Tryz.prog 75 1 = some (71, 1) := by kernel_rfl
theorem fd75_2 : fldB Tryz.prog 75 2 = some (72, 4) := by kernel_rfl
theorem fd75_3 : fldB Tryz.prog 75 3 = some (3, 6) := by kernel_rfl
theorem fd75_4 : fldB Tryz.prog 75 4 = some (3, 7) := by kernel_rfl
theorem fd75_5 : fldB Tryz.prog 75 5 = some (3, 8) := by kernel_rfl
theorem fd75_6 : fldB Tryz.prog 75 6 = some (3, 9) := by kernel_rfl
theorem fd75_7 : fldB Tryz.prog 75 7 = some (3, 10) := by kernel_rfl
theorem fd75_8 : fldB Tryz.prog 75 8 = some (3, 11) := by kernel_rfl
theorem fd75_9 : fldB Tryz.prog 75 9 = some (3, 12) := by kernel_rfl
theorem fd75_10 : fldB Tryz.prog 75 10 = some (3, 13) := by kernel_rfl
theorem fd75_11 : fldB Tryz.prog 75 11 = some (24, 14) := by kernel_rfl
theorem fd75_12 : fldB Tryz.prog 75 12 = some (24, 15) := by kernel_rfl
theorem fd75_13 : fldB Tryz.prog 75 13 = some (73, 16) := by kernel_rfl
theorem fd75_14 : fldB Tryz.prog 75 14 = some (73, 17) := by kernel_rfl
theorem fd75_15 : fldB Tryz.prog 75 15 = some (24, 18) := by kernel_rfl
theorem op75 : Opens Tryz.prog 75 19 Thread.K Thread.wf := by
  refine ⟨by kernel_rfl, fun H enc W sp fuel cs y h => ?_⟩
  have hl : cs.length = 19 := (trod_len fd75_0 h).trans (by kernel_rfl)
  have e19 : cs.drop 19 = [] := List.drop_eq_nil_of_le (by omega)
  obtain ⟨x0, k0, w0⟩ := Opens.field op3 fd75_0 h
  obtain ⟨x1, k1, w1⟩ := Opens.field op71 fd75_1 h
  obtain ⟨x2, k2, w2⟩ := Opens.field op72 fd75_2 h
  obtain ⟨x3, k3, w3⟩ := Opens.field op3 fd75_3 h
  obtain ⟨x4, k4, w4⟩ := Opens.field op3 fd75_4 h
  obtain ⟨x5, k5, w5⟩ := Opens.field op3 fd75_5 h
  obtain ⟨x6, k6, w6⟩ := Opens.field op3 fd75_6 h
  obtain ⟨x7, k7, w7⟩ := Opens.field op3 fd75_7 h
  obtain ⟨x8, k8, w8⟩ := Opens.field op3 fd75_8 h
  obtain ⟨x9, k9, w9⟩ := Opens.field op3 fd75_9 h
  obtain ⟨x10, k10, w10⟩ := Opens.field op3 fd75_10 h
  obtain ⟨x11, ⟨v11, k11, r11⟩, w11⟩ := Opens.field op24 fd75_11 h
  obtain ⟨x12, ⟨v12, k12, r12⟩, w12⟩ := Opens.field op24 fd75_12 h
  obtain ⟨x13, ⟨v13, k13, r13⟩, w13⟩ := Opens.field op73 fd75_13 h
  obtain ⟨x14, ⟨v14, k14, r14⟩, w14⟩ := Opens.field op73 fd75_14 h
  obtain ⟨x15, ⟨v15, k15, r15⟩, w15⟩ := Opens.field op24 fd75_15 h
  have e18 : cs.drop 18 = [v15] ++ [] := by rw [drop_split cs 18 1, e19]; exact congrArg (· ++ _) k15
  have e17 : cs.drop 17 = [v14] ++ ([v15] ++ []) := by rw [drop_split cs 17 1, e18]; exact congrArg (· ++ _) k14
  have e16 : cs.drop 16 = [v13] ++ ([v14] ++ ([v15] ++ [])) := by rw [drop_split cs 16 1, e17]; exact congrArg (· ++ _) k13
  have e15 : cs.drop 15 = [v12] ++ ([v13] ++ ([v14] ++ ([v15] ++ []))) := by rw [drop_split cs 15 1, e16]; exact congrArg (· ++ _) k12
  have e14 : cs.drop 14 = [v11] ++ ([v12] ++ ([v13] ++ ([v14] ++ ([v15] ++ [])))) := by rw [drop_split cs 14 1, e15]; exact congrArg (· ++ _) k11
  have e13 : cs.drop 13 = [vi x10] ++ ([v11] ++ ([v12] ++ ([v13] ++ ([v14] ++ ([v15] ++ []))))) := by rw [drop_split cs 13 1, e14]; exact congrArg (· ++ _) k10
  have e12 : cs.drop 12 = [vi x9] ++ ([vi x10] ++ ([v11] ++ ([v12] ++ ([v13] ++ ([v14] ++ ([v15] ++ [])))))) := by rw [drop_split cs 12 1, e13]; exact congrArg (· ++ _) k9
  have e11 : cs.drop 11 = [vi x8] ++ ([vi x9] ++ ([vi x10] ++ ([v11] ++ ([v12] ++ ([v13] ++ ([v14] ++ ([v15] ++ []))))))) := by rw [drop_split cs 11 1, e12]; exact congrArg (· ++ _) k8
  have e10 : cs.drop 10 = [vi x7] ++ ([vi x8] ++ ([vi x9] ++ ([vi x10] ++ ([v11] ++ ([v12] ++ ([v13] ++ ([v14] ++ ([v15] ++ [])))))))) := by rw [drop_split cs 10 1, e11]; exact congrArg (· ++ _) k7
  have e9 : cs.drop 9 = [vi x6] ++ ([vi x7] ++ ([vi x8] ++ ([vi x9] ++ ([vi x10] ++ ([v11] ++ ([v12] ++ ([v13] ++ ([v14] ++ ([v15] ++ []))))))))) := by rw [drop_split cs 9 1, e10]; exact congrArg (· ++ _) k6
  have e8 : cs.drop 8 = [vi x5] ++ ([vi x6] ++ ([vi x7] ++ ([vi x8] ++ ([vi x9] ++ ([vi x10] ++ ([v11] ++ ([v12] ++ ([v13] ++ ([v14] ++ ([v15] ++ [])))))))))) := by rw [drop_split cs 8 1, e9]; exact congrArg (· ++ _) k5
  have e7 : cs.drop 7 = [vi x4] ++ ([vi x5] ++ ([vi x6] ++ ([vi x7] ++ ([vi x8] ++ ([vi x9] ++ ([vi x10] ++ ([v11] ++ ([v12] ++ ([v13] ++ ([v14] ++ ([v15] ++ []))))))))))) := by rw [drop_split cs 7 1, e8]; exact congrArg (· ++ _) k4
  have e6 : cs.drop 6 = [vi x3] ++ ([vi x4] ++ ([vi x5] ++ ([vi x6] ++ ([vi x7] ++ ([vi x8] ++ ([vi x9] ++ ([vi x10] ++ ([v11] ++ ([v12] ++ ([v13] ++ ([v14] ++ ([v15] ++ [])))))))))))) := by rw [drop_split cs 6 1, e7]; exact congrArg (· ++ _) k3
  have e4 : cs.drop 4 = Result.enc x2 ++ ([vi x3] ++ ([vi x4] ++ ([vi x5] ++ ([vi x6] ++ ([vi x7] ++ ([vi x8] ++ ([vi x9] ++ ([vi x10] ++ ([v11] ++ ([v12] ++ ([v13] ++ ([v14] ++ ([v15] ++ []))))))))))))) := by rw [drop_split cs 4 2, e6]; exact congrArg (· ++ _) k2
  have e1 : cs.drop 1 = Op.enc x1 ++ (Result.enc x2 ++ ([vi x3] ++ ([vi x4] ++ ([vi x5] ++ ([vi x6] ++ ([vi x7] ++ ([vi x8] ++ ([vi x9] ++ ([vi x10] ++ ([v11] ++ ([v12] ++ ([v13] ++ ([v14] ++ ([v15] ++ [])))))))))))))) := by rw [drop_split cs 1 3, e4]; exact congrArg (· ++ _) k1
  have e0 : cs.drop 0 = [vi x0] ++ (Op.enc x1 ++ (Result.enc x2 ++ ([vi x3] ++ ([vi x4] ++ ([vi x5] ++ ([vi x6] ++ ([vi x7] ++ ([vi x8] ++ ([vi x9] ++ ([vi x10] ++ ([v11] ++ ([v12] ++ ([v13] ++ ([v14] ++ ([v15] ++ []))))))))))))))) := by rw [drop_split cs 0 1, e1]; exact congrArg (· ++ _) k0
  exact ⟨⟨x0, x1, x2, x3, x4, x5, x6, x7, x8, x9, x10, x11, x12, x13, x14, x15⟩, ⟨v11, v12, v13, v14, v15, (List.drop_zero (l := cs)).symm.trans e0, r11, r12, r13, r14, r15⟩, hl, w0, w1, w2, w3, w4, w5, w6, w7, w8, w9, w10, w11, w12, w13, w14, w15⟩
theorem op25 : Opens Tryz.prog 25 1 (fun W xs cs => ∃ v, cs = [v] ∧ threadEK.Rd W v xs) (fun xs => ∀ x ∈ xs, Thread.wf x) := opens_slice op75 (by decide) (by kernel_rfl) (by kernel_rfl)
theorem fd27_0 : fldB Tryz.prog 27 0 = some (23, 0) := by kernel_rfl
theorem fd27_1 : fldB Tryz.prog 27 1 = some (24, 6) := by kernel_rfl
theorem fd27_2 : fldB Tryz.prog 27 2 = some (24, 7) := by kernel_rfl
theorem fd27_3 : fldB Tryz.prog 27 3 = some (25, 8) := by kernel_rfl
theorem fd27_4 : fldB Tryz.prog 27 4 = some (3, 9) := by kernel_rfl
theorem fd27_5 : fldB Tryz.prog 27 5 = some (3, 10) := by kernel_rfl
theorem fd27_6 : fldB Tryz.prog 27 6 = some (3, 11) := by kernel_rfl
theorem fd27_7 : fldB Tryz.prog 27 7 = some (3, 12) := by kernel_rfl
theorem op27 : Opens Tryz.prog 27 13 State.K State.wf := by
  refine ⟨by kernel_rfl, fun H enc W sp fuel cs y h => ?_⟩
  have hl : cs.length = 13 := (trod_len fd27_0 h).trans (by kernel_rfl)
  have e13 : cs.drop 13 = [] := List.drop_eq_nil_of_le (by omega)
  obtain ⟨x0, k0, w0⟩ := Opens.field op23 fd27_0 h
  obtain ⟨x1, ⟨v1, k1, r1⟩, w1⟩ := Opens.field op24 fd27_1 h
  obtain ⟨x2, ⟨v2, k2, r2⟩, w2⟩ := Opens.field op24 fd27_2 h
  obtain ⟨x3, ⟨v3, k3, r3⟩, w3⟩ := Opens.field op25 fd27_3 h
  obtain ⟨x4, k4, w4⟩ := Opens.field op3 fd27_4 h
  obtain ⟨x5, k5, w5⟩ := Opens.field op3 fd27_5 h
  obtain ⟨x6, k6, w6⟩ := Opens.field op3 fd27_6 h
  obtain ⟨x7, k7, w7⟩ := Opens.field op3 fd27_7 h
  have e12 : cs.drop 12 = [vi x7] ++ [] := by rw [drop_split cs 12 1, e13]; exact congrArg (· ++ _) k7
  have e11 : cs.drop 11 = [vi x6] ++ ([vi x7] ++ []) := by rw [drop_split cs 11 1, e12]; exact congrArg (· ++ _) k6
  have e10 : cs.drop 10 = [vi x5] ++ ([vi x6] ++ ([vi x7] ++ [])) := by rw [drop_split cs 10 1, e11]; exact congrArg (· ++ _) k5
  have e9 : cs.drop 9 = [vi x4] ++ ([vi x5] ++ ([vi x6] ++ ([vi x7] ++ []))) := by rw [drop_split cs 9 1, e10]; exact congrArg (· ++ _) k4
  have e8 : cs.drop 8 = [v3] ++ ([vi x4] ++ ([vi x5] ++ ([vi x6] ++ ([vi x7] ++ [])))) := by rw [drop_split cs 8 1, e9]; exact congrArg (· ++ _) k3
  have e7 : cs.drop 7 = [v2] ++ ([v3] ++ ([vi x4] ++ ([vi x5] ++ ([vi x6] ++ ([vi x7] ++ []))))) := by rw [drop_split cs 7 1, e8]; exact congrArg (· ++ _) k2
  have e6 : cs.drop 6 = [v1] ++ ([v2] ++ ([v3] ++ ([vi x4] ++ ([vi x5] ++ ([vi x6] ++ ([vi x7] ++ [])))))) := by rw [drop_split cs 6 1, e7]; exact congrArg (· ++ _) k1
  have e0 : cs.drop 0 = Config.enc x0 ++ ([v1] ++ ([v2] ++ ([v3] ++ ([vi x4] ++ ([vi x5] ++ ([vi x6] ++ ([vi x7] ++ []))))))) := by rw [drop_split cs 0 6, e6]; exact congrArg (· ++ _) k0
  exact ⟨⟨x0, x1, x2, x3, x4, x5, x6, x7⟩, ⟨v1, v2, v3, (List.drop_zero (l := cs)).symm.trans e0, r1, r2, r3⟩, hl, w0, w1, w2, w3, w4, w5, w6, w7⟩
namespace fnExactStepEnd
open Go.ChangeShapes Go.WideShapes Go.ChangeAt Go.RowKit
theorem laidOut : laidOutB Tryz.prog = true := by kernel_rfl
theorem own : ownKnob Tryz.prog.godebug = none := by kernel_rfl
set_option maxRecDepth 100000 in
theorem lifted (os : Os) (started : os.Started) (H : Type) (enc : TypeId × Value → H) :
    ReturnsInHanded {} Tryz.checked os 3 .any (Rows.fnExactStepEndSpec.pre6 enc Tryz.prog Tryz.f3 Rows.fnExactStepEndRow.domain false) (Rows.fnExactStepEndSpec.post enc Tryz.prog Tryz.f3 false true false false) := by
  refine returnsInHanded_of_change_sized (C := Tryz.checked) own started (by kernel_rfl) Tryz.func3
    (ChangeSpec.witness6 (enc := enc) (C := Tryz.checked) false ⟨#[], #[.agg #[.int .i64 0, .int .i64 0, .int .i64 0, .int .i64 0, .int .i64 0, .int .i64 0, .slice none 0 0, .slice none 0 0, .slice none 0 0, .int .i64 0, .int .i64 0, .int .i64 0, .int .i64 0], .int .i64 0], []⟩ 8 (by kernel_rfl) (by kernel_rfl) (by kernel_rfl) (by kernel_rfl)) ?_
  intro W base args ds gs before hval0 hW hcnd hsz0 _
  have hval : ∀ (j : Nat) t v, Tryz.f3.params[j]? = some t → args[j]? = some v → Value.okWide Tryz.prog W .any base t v := hval0
  have hW' := hW
  obtain ⟨p, q, hA0, hV, rfl, hfz, hnd⟩ := hW
  have hA : DataW.TrodAll enc Tryz.prog W 0 (fun _ => true) true Tryz.f3.params.toList args.toList ds p := hA0
  rw [Tryz.params3] at hA hval
  obtain ⟨v0, vs0, d0, ds0, p0, q0, hargs, rfl, rfl, h0, r0⟩ := trodAll_cons hA
  obtain ⟨v1, vs1, d1, ds1, p1, q1, rfl, rfl, rfl, h1, r1⟩ := trodAll_cons r0
  obtain ⟨rfl, rfl, rfl⟩ := trodAll_nil r1
  obtain rfl : args = #[v0, v1] := by cases args; simp_all
  obtain ⟨rfl, rfl⟩ := trodVars_none hV
  have kk0 := h0
  have lt0 : ∀ x ∈ p0, x.block < W.heap.size := by obtain ⟨m, hm⟩ := kk0; exact DataW.trod_lt m _ _ _ hm
  obtain ⟨c0, rfl⟩ := okWide_struct fd27_0 (hval 0 27 v0 rfl rfl)
  obtain ⟨m0, hm0⟩ := h0; rw [agg_cells] at hm0
  obtain ⟨x0, k0, _, ok0⟩ := (op27).2 _ _ _ _ _ _ _ hm0; clear hm0
  have kk1 := h1
  have lt1 : ∀ x ∈ p1, x.block < W.heap.size := by obtain ⟨m, hm⟩ := kk1; exact DataW.trod_lt m _ _ _ hm
  obtain ⟨x1, rfl, _, _, ok1⟩ := open_int (by kernel_rfl : Tryz.prog.underlying 3 = some (.int .i64)) (hval 1 3 v1 rfl rfl) h1; replace ok1 := wf_i64 ok1
  clear hA0 hval0
  refine (law_FnExactStepEnd k0 ok0 ok1).mono ?_
  rintro e W' ⟨v, rfl, rfl, bel⟩
  exact ⟨_, rfl, _, _, _, [], _, [], hW', trodAll_mk1 (shut_bool (by kernel_rfl : Tryz.prog.underlying 4 = some .bool) _), (trodAll_cons_mk (Below.trod laidOut (by kernel_rfl) (of_decide_eq_true (by kernel_rfl)) kk0 bel lt0) (trodAll_cons_mk (Below.trod laidOut (by kernel_rfl) (of_decide_eq_true (by kernel_rfl)) kk1 bel lt1) trodAll_mk0)), rfl, bel.frame _, fun h => by cases h⟩
def restSigns : List Char := Sl.ch [97, 116, 32, 108, 111, 111, 112, 46, 101, 120, 97, 109, 112, 108, 101, 47, 103, 48, 49, 54, 50, 56, 47, 108, 97, 119, 115, 46, 70, 110, 69, 120, 97, 99, 116, 83, 116, 101, 112, 69, 110, 100, 32, 108, 111, 111, 112, 46, 101, 120, 97, 109, 112, 108, 101, 47, 103, 48, 49, 54, 50, 56, 47, 108, 97, 119, 115, 46, 70, 110, 69, 120, 97, 99, 116, 83, 116, 101, 112, 66, 101, 103, 105, 110, 32, 108, 111, 111, 112, 46, 101, 120, 97, 109, 112, 108, 101, 47, 103, 48, 49, 54, 50, 56, 47, 108, 97, 119, 115, 46, 70, 110, 69, 120, 97, 99, 116, 83, 116, 101, 112, 87, 97, 108, 107, 32, 108, 111, 111, 112, 46, 101, 120, 97, 109, 112, 108, 101, 47, 103, 48, 49, 54, 50, 56, 47, 108, 97, 119, 115, 46, 70, 110, 69, 120, 97, 99, 116, 83, 116, 101, 112, 82, 101, 97, 100]
theorem order : Tryz.pinned.checked.prog.initOrder = String.ofList (Sl.ch [104, 97, 114, 110, 101, 115, 115] ++ Sl.sp :: (Sl.ch [101, 56, 49, 102, 49, 48, 57, 51, 56, 49, 99, 54, 102, 56, 50, 54, 56, 100, 56, 57, 53, 49, 56, 54, 56, 49, 99, 101, 54, 99, 50, 54, 102, 101, 99, 99, 98, 99, 52, 53, 48, 50, 51, 54, 51, 102, 52, 48, 52, 49, 97, 98, 102, 57, 99, 97, 53, 48, 100, 100, 98, 56, 98, 102] ++ Sl.sp :: (Sl.ch [99, 117, 116] ++ Sl.sp :: restSigns))) := by kernel_rfl
theorem behind (X : List (List Char)) : behindMainWord (Sl.ch [104, 97, 114, 110, 101, 115, 115] :: Sl.ch [101, 56, 49, 102, 49, 48, 57, 51, 56, 49, 99, 54, 102, 56, 50, 54, 56, 100, 56, 57, 53, 49, 56, 54, 56, 49, 99, 101, 54, 99, 50, 54, 102, 101, 99, 99, 98, 99, 52, 53, 48, 50, 51, 54, 51, 102, 52, 48, 52, 49, 97, 98, 102, 57, 99, 97, 53, 48, 100, 100, 98, 56, 98, 102] :: Sl.ch [99, 117, 116] :: X) = "cut".toList :: X := by kernel_rfl
theorem heads : behindMainWord (wordsSigns Tryz.pinned.checked.prog.initOrder.toList) = "cut".toList :: wordsSigns restSigns := by
  rw [order, String.toList_ofList, Sl.words_sp _ _ (by decide), Sl.words_sp _ _ (by decide), Sl.words_sp _ _ (by decide)]; exact behind _
theorem facts : joinedFacts Tryz.pinned.checked.prog 3 Tryz.f3 Rows.fnExactStepEndSpec Rows.fnExactStepEndRow = true := by
  unfold joinedFacts; rw [Sl.enter_of heads (by kernel_rfl) (by kernel_rfl) (by kernel_rfl), Sl.final_of heads, Sl.made_of heads]; kernel_rfl
theorem over : Rows.fnExactStepEndRow.holds Tryz.pinned (OpenSpec.ofChange Rows.fnExactStepEndSpec) :=
  OpenClaim.holds_of_wide 3 Tryz.f3 rfl rfl rfl rfl rfl rfl rfl ⟨rfl, rfl, rfl, rfl, rfl⟩ rfl rfl rfl rfl rfl (by kernel_rfl) Tryz.func3 facts
    (of_decide_eq_true (by kernel_rfl)) (by unfold Func.isWrapper; first | (rw [if_pos (by decide +kernel)]; kernel_rfl) | (rw [if_neg (by decide +kernel)]; exact ⟨rfl, rfl⟩))
    (fun os started H enc _ => lifted os started H enc)
theorem proved : Rows.FnExactStepEndSaid := over
end fnExactStepEnd
/-- The row, under a short name. -/
theorem fnExactStepEnd_holds : Rows.FnExactStepEndSaid := fnExactStepEnd.proved
end Go.Proofs.YtjmohafpcjbajaaGreat
