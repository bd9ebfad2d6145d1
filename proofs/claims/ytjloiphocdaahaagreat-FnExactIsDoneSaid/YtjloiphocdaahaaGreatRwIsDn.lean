/- FnExactIsDone, for all arguments: the program's IsDone returns what the reference's returns, and the arguments stay as they were. Condition: the law's own guard on size. -/
import Derived.Test.YtjloiphocdaahaaGreatChecked
import Derived.Test.YtjloiphocdaahaaGreatRows
import Derived.Test.YtjloiphocdaahaaGreatWkL8
import Derived.Test.YtjloiphocdaahaaGreatOpen
import Derived.Test.YtjloiphocdaahaaGreatDoor
import Derived.Test.YtjloiphocdaahaaGreatFactsB
namespace Go.Proofs.YtjloiphocdaahaaGreat
open Go Go.RowKit Sl Wk
set_option linter.unusedVariables false
set_option linter.unusedSimpArgs false
set_option maxRecDepth 20000

theorem op3 : Opens Tryz.prog 3 1 (fun _ n cs => cs = [vi n]) int64 := opens_int (by kernel_rfl) (by kernel_rfl)
theorem fd23_0 : fldB Tryz.prog 23 0 = some (3, 0) := by kernel_rfl
theorem fd23_1 : fldB Tryz.prog 23 1 = some (3, 1) := by kernel_rfl
theorem fd23_2 : fldB Tryz.prog 23 2 = some (3, 2) := by kernel_rfl
theorem fd23_3 : fldB Tryz.prog 23 3 = some (3, 3) := by kernel_rfl
theorem fd23_4 : fldB Tryz.prog 23 4 = some (3, 4) := by kernel_rfl
theorem fd23_5 : fldB Tryz.prog 23 5 = some (3, 5) := by kernel_rfl
theorem op23 : Opens Tryz.prog 23 6 (fun _ x cs => cs = Config.enc x) Config.wf := by
  refine ⟨by kernel_rfl, fun H enc W sp fuel cs y h => ?_⟩
  have hl : cs.length = 6 := (trod_len fd23_0 h).trans (by kernel_rfl)
  have e6 : cs.drop 6 = [] := List.drop_eq_nil_of_le (by omega)
  obtain ⟨x0, k0, w0⟩ := Opens.field op3 fd23_0 h
  obtain ⟨x1, k1, w1⟩ := Opens.field op3 fd23_1 h
  obtain ⟨x2, k2, w2⟩ := Opens.field op3 fd23_2 h
  obtain ⟨x3, k3, w3⟩ := Opens.field op3 fd23_3 h
  obtain ⟨x4, k4, w4⟩ := Opens.field op3 fd23_4 h
  obtain ⟨x5, k5, w5⟩ := Opens.field op3 fd23_5 h
  have e5 : cs.drop 5 = [vi x5] ++ [] := by rw [drop_split cs 5 1, e6]; exact congrArg (· ++ _) k5
  have e4 : cs.drop 4 = [vi x4] ++ ([vi x5] ++ []) := by rw [drop_split cs 4 1, e5]; exact congrArg (· ++ _) k4
  have e3 : cs.drop 3 = [vi x3] ++ ([vi x4] ++ ([vi x5] ++ [])) := by rw [drop_split cs 3 1, e4]; exact congrArg (· ++ _) k3
  have e2 : cs.drop 2 = [vi x2] ++ ([vi x3] ++ ([vi x4] ++ ([vi x5] ++ []))) := by rw [drop_split cs 2 1, e3]; exact congrArg (· ++ _) k2
  have e1 : cs.drop 1 = [vi x1] ++ ([vi x2] ++ ([vi x3] ++ ([vi x4] ++ ([vi x5] ++ [])))) := by rw [drop_split cs 1 1, e2]; exact congrArg (· ++ _) k1
  have e0 : cs.drop 0 = [vi x0] ++ ([vi x1] ++ ([vi x2] ++ ([vi x3] ++ ([vi x4] ++ ([vi x5] ++ []))))) := by rw [drop_split cs 0 1, e1]; exact congrArg (· ++ _) k0
  exact ⟨⟨x0, x1, x2, x3, x4, x5⟩, (List.drop_zero (l := cs)).symm.trans e0, hl, w0, w1, w2, w3, w4, w5⟩
theorem op24 : Opens Tryz.prog 24 1 (fun W xs cs => ∃ v, cs = [v] ∧ intEK.Rd W v xs) (fun xs => ∀ x ∈ xs, int64 x) := opens_slice op3 (by decide) (by kernel_rfl) (by kernel_rfl)
theorem fd78_0 : fldB Tryz.prog 78 0 = some (3, 0) := by kernel_rfl
theorem fd78_1 : fldB Tryz.prog 78 1 = some (3, 1) := by kernel_rfl
theorem fd78_2 : fldB Tryz.prog 78 2 = some (3, 2) := by kernel_rfl
theorem op78 : Opens Tryz.prog 78 3 (fun _ x cs => cs = Op.enc x) Op.wf := by
  refine ⟨by kernel_rfl, fun H enc W sp fuel cs y h => ?_⟩
  have hl : cs.length = 3 := (trod_len fd78_0 h).trans (by kernel_rfl)
  have e3 : cs.drop 3 = [] := List.drop_eq_nil_of_le (by omega)
  obtain ⟨x0, k0, w0⟩ := Opens.field op3 fd78_0 h
  obtain ⟨x1, k1, w1⟩ := Opens.field op3 fd78_1 h
  obtain ⟨x2, k2, w2⟩ := Opens.field op3 fd78_2 h
  have e2 : cs.drop 2 = [vi x2] ++ [] := by rw [drop_split cs 2 1, e3]; exact congrArg (· ++ _) k2
  have e1 : cs.drop 1 = [vi x1] ++ ([vi x2] ++ []) := by rw [drop_split cs 1 1, e2]; exact congrArg (· ++ _) k1
  have e0 : cs.drop 0 = [vi x0] ++ ([vi x1] ++ ([vi x2] ++ [])) := by rw [drop_split cs 0 1, e1]; exact congrArg (· ++ _) k0
  exact ⟨⟨x0, x1, x2⟩, (List.drop_zero (l := cs)).symm.trans e0, hl, w0, w1, w2⟩
theorem fd79_0 : fldB Tryz.prog 79 0 = some (3, 0) := by kernel_rfl
theorem fd79_1 : fldB Tryz.prog 79 1 = some (3, 1) := by kernel_rfl
theorem op79 : Opens Tryz.prog 79 2 (fun _ x cs => cs = Result.enc x) Result.wf := by
  refine ⟨by kernel_rfl, fun H enc W sp fuel cs y h => ?_⟩
  have hl : cs.length = 2 := (trod_len fd79_0 h).trans (by kernel_rfl)
  have e2 : cs.drop 2 = [] := List.drop_eq_nil_of_le (by omega)
  obtain ⟨x0, k0, w0⟩ := Opens.field op3 fd79_0 h
  obtain ⟨x1, k1, w1⟩ := Opens.field op3 fd79_1 h
  have e1 : cs.drop 1 = [vi x1] ++ [] := by rw [drop_split cs 1 1, e2]; exact congrArg (· ++ _) k1
  have e0 : cs.drop 0 = [vi x0] ++ ([vi x1] ++ []) := by rw [drop_split cs 0 1, e1]; exact congrArg (· ++ _) k0
  exact ⟨⟨x0, x1⟩, (List.drop_zero (l := cs)).symm.trans e0, hl, w0, w1⟩
theorem fd126_0 : fldB Tryz.prog 126 0 = some (3, 0) := by kernel_rfl
theorem fd126_1 : fldB Tryz.prog 126 1 = some (3, 1) := by kernel_rfl
theorem fd126_2 : fldB Tryz.prog 126 2 = some (3, 2) := by kernel_rfl
theorem fd126_3 : fldB Tryz.prog 126 3 = some (3, 3) := by kernel_rfl
theorem op126 : Opens Tryz.prog 126 4 (fun _ x cs => cs = Entry.enc x) Entry.wf := by
  refine ⟨by kernel_rfl, fun H enc W sp fuel cs y h => ?_⟩
  have hl : cs.length = 4 := (trod_len fd126_0 h).trans (by kernel_rfl)
  have e4 : cs.drop 4 = [] := List.drop_eq_nil_of_le (by omega)
  obtain ⟨x0, k0, w0⟩ := Opens.field op3 fd126_0 h
  obtain ⟨x1, k1, w1⟩ := Opens.field op3 fd126_1 h
  obtain ⟨x2, k2, w2⟩ := Opens.field op3 fd126_2 h
  obtain ⟨x3, k3, w3⟩ := Opens.field op3 fd126_3 h
  have e3 : cs.drop 3 = [vi x3] ++ [] := by rw [drop_split cs 3 1, e4]; exact congrArg (· ++ _) k3
  have e2 : cs.drop 2 = [vi x2] ++ ([vi x3] ++ []) := by rw [drop_split cs 2 1, e3]; exact congrArg (· ++ _) k2
  have e1 : cs.drop 1 = [vi x1] ++ ([vi x2] ++ ([vi x3] ++ [])) := by rw [drop_split cs 1 1, e2]; exact congrArg (· ++ _) k1
  have e0 : cs.drop 0 = [vi x0] ++ ([vi x1] ++ ([vi x2] ++ ([vi x3] ++ []))) := by rw [drop_split cs 0 1, e1]; exact congrArg (· ++ _) k0
  exact ⟨⟨x0, x1, x2, x3⟩, (List.drop_zero (l := cs)).symm.trans e0, hl, w0, w1, w2, w3⟩
theorem op93 : Opens Tryz.prog 93 1 (fun W xs cs => ∃ v, cs = [v] ∧ entryEK.Rd W v xs) (fun xs => ∀ x ∈ xs, Entry.wf x) := opens_slice op126 (by decide) (by kernel_rfl) (by kernel_rfl)
theorem fd95_0 : fldB Tryz.prog 95 0 = some (3, 0) := by kernel_rfl
theorem fd95_1 : fldB Tryz.prog 95 1 = some (78, 1) := by kernel_rfl
theorem fd95_2 : fldB Tryz.prog 95 2 = some (79, 4) := by kernel_rfl
theorem fd95_3 : fldB Tryz.prog 95 3 = some (3, 6) := by kernel_rfl
theorem fd95_4 : fldB Tryz.prog 95 4 = some (3, 7) := by kernel_rfl
theorem fd95_5 : fldB Tryz.prog 95 5 = some (3, 8) := by kernel_rfl
theorem fd95_6 : fldB Tryz.prog 95 6 = some (3, 9) := by kernel_rfl
theorem fd95_7 : fldB Tryz.prog 95 7 = some (3, 10) := by kernel_rfl
theorem fd95_8 : fldB Tryz.prog 95 8 = some (3, 11) := by kernel_rfl
theorem fd95_9 : fldB Tryz.prog 95 9 = some (3, 12) := by kernel_rfl
theorem fd95_10 : fldB Tryz.prog 95 10 = some (3, 13) := by kernel_rfl
theorem fd95_11 : fldB Tryz.prog 95 11 = some (24, 14) := by kernel_rfl
theorem fd95_12 : fldB Tryz.prog 95 12 = some (24, 15) := by kernel_rfl
theorem fd95_13 : fldB Tryz.prog 95 13 = some (93, 16) := by kernel_rfl
theorem fd95_14 : fldB Tryz.prog 95 14 = some (93, 17) := by kernel_rfl
theorem fd95_15 : fldB Tryz.prog 95 15 = some (24, 18) := by kernel_rfl
theorem op95 : Opens Tryz.prog 95 19 Thread.K Thread.wf := by
  refine ⟨by kernel_rfl, fun H enc W sp fuel cs y h => ?_⟩
  have hl : cs.length = 19 := (trod_len fd95_0 h).trans (by kernel_rfl)
  have e19 : cs.drop 19 = [] := List.drop_eq_nil_of_le (by omega)
  obtain ⟨x0, k0, w0⟩ := Opens.field op3 fd95_0 h
  obtain ⟨x1, k1, w1⟩ := Opens.field op78 fd95_1 h
  obtain ⟨x2, k2, w2⟩ := Opens.field op79 fd95_2 h
  obtain ⟨x3, k3, w3⟩ := Opens.field op3 fd95_3 h
  obtain ⟨x4, k4, w4⟩ := Opens.field op3 fd95_4 h
  obtain ⟨x5, k5, w5⟩ := Opens.field op3 fd95_5 h
  obtain ⟨x6, k6, w6⟩ := Opens.field op3 fd95_6 h
  obtain ⟨x7, k7, w7⟩ := Opens.field op3 fd95_7 h
  obtain ⟨x8, k8, w8⟩ := Opens.field op3 fd95_8 h
  obtain ⟨x9, k9, w9⟩ := Opens.field op3 fd95_9 h
  obtain ⟨x10, k10, w10⟩ := Opens.field op3 fd95_10 h
  obtain ⟨x11, ⟨v11, k11, r11⟩, w11⟩ := Opens.field op24 fd95_11 h
  obtain ⟨x12, ⟨v12, k12, r12⟩, w12⟩ := Opens.field op24 fd95_12 h
  obtain ⟨x13, ⟨v13, k13, r13⟩, w13⟩ := Opens.field op93 fd95_13 h
  obtain ⟨x14, ⟨v14, k14, r14⟩, w14⟩ := Opens.field op93 fd95_14 h
  obtain ⟨x15, ⟨v15, k15, r15⟩, w15⟩ := Opens.field op24 fd95_15 h
  have e18 : cs.drop 18 = [v15] ++ [] := by rw [drop_split cs 18 1, e19]; exact congrArg (· ++ _) k15
  have e17 : cs.drop 17 = [v14] ++ ([v15] ++ []) := by rw [drop_split cs 17 1, e18]; exact congrArg (· ++ _) k14
  have e16 : cs.drop 16 = [v13] ++ ([v14] ++ ([v15] ++ [])) := by rw [drop_split cs 16 1, e17]; exact congrArg (· ++ _) k13
  have e15 : cs.drop 15 = [v12] ++ ([v13] ++ ([v14] ++ ([v15] ++ []))) := by rw [drop_split cs 15 1, e16]; exact congrArg (· ++ _) k12
  have e14 : cs.drop 14 = [v11] ++ ([v12] ++ ([v13] ++ ([v14] ++ ([v15] ++ [])))) := by rw [drop_split cs 14 1, e15]; exact congrArg (· ++ _) k11
  have e13 : cs.drop 13 = [vi x10] ++ ([v11] ++ ([v12] ++ ([v13] ++ ([v14] ++ ([v15] ++ []))))) := by rw [drop_split cs 13 1, e14]; exact congrArg (· ++ _) k10
  have e12 : cs.drop 12 = [vi x9] ++ ([vi x10] ++ ([v11] ++ ([v12] ++ ([v13] ++ ([v14] ++ ([v15] ++ [])))))) := by rw [drop_split cs 12 1, e13]; exact congrArg (· ++ _) k9
  have e11 : cs.drop 11 = [vi x8] ++ ([vi x9] ++ ([vi x10] ++ ([v11] ++ ([v12] ++ ([v13] ++ ([v14] ++ ([v15] ++ []))))))) := by rw [drop_split cs 11 1, e12]; exact congrArg (· ++ _) k8
  have e10 : cs.drop 10 = [vi x7] ++ ([vi x8] ++ ([vi x9] ++ ([vi x10] ++ ([v11] ++ ([v12] ++ ([v13] ++ ([v14] ++ ([v15] ++ [])))))))) := by rw [drop_split cs 10 1, e11]; exact congrArg (· ++ _) k7
  have e9 : cs.drop 9 = [vi x6] ++ ([vi x7] ++ ([vi x8] ++ ([vi x9] ++ ([vi x10] ++ ([v11] ++ ([v12] ++ ([v13] ++ ([v14] ++ ([v15] ++ []))))))))) := by rw [drop_split cs 9 1, e10]; exact congrArg (· ++ _) k6
  have e8 : cs.drop 8 = [vi x5] ++ ([vi x6] ++ ([vi x7] ++ ([vi x8] ++ ([vi x9] ++ ([vi x10] ++ ([v11] ++ ([v12] ++ ([v13] ++ ([v14] ++ ([v15] ++ [])))))))))) := by rw [drop_split cs 8 1, e9]; exact congrArg (· ++ _) k5
  have e7 : cs.drop 7 = [vi x4] ++ ([vi x5] ++ ([vi x6] ++ ([vi x7] ++ ([vi x8] ++ ([vi x9] ++ ([vi x10] ++ ([v11] ++ ([v12] ++ ([v13] ++ ([v14] ++ ([v15] ++ []))))))))))) := by rw [drop_split cs 7 1, e8]; exact congrArg (· ++ _) k4
  have e6 : cs.drop 6 = [vi x3] ++ ([vi x4] ++ ([vi x5] ++ ([vi x6] ++ ([vi x7] ++ ([vi x8] ++ ([vi x9] ++ ([vi x10] ++ ([v11] ++ ([v12] ++ ([v13] ++ ([v14] ++ ([v15] ++ [])))))))))))) := by rw [drop_split cs 6 1, e7]; exact congrArg (· ++ _) k3
  have e4 : cs.drop 4 = Result.enc x2 ++ ([vi x3] ++ ([vi x4] ++ ([vi x5] ++ ([vi x6] ++ ([vi x7] ++ ([vi x8] ++ ([vi x9] ++ ([vi x10] ++ ([v11] ++ ([v12] ++ ([v13] ++ ([v14] ++ ([v15] ++ []))))))))))))) := by rw [drop_split cs 4 2, e6]; exact congrArg (· ++ _) k2
  have e1 : cs.drop 1 = Op.enc x1 ++ (Result.enc x2 ++ ([vi x3] ++ ([vi x4] ++ ([vi x5] ++ ([vi x6] ++ ([vi x7] ++ ([vi x8] ++ ([vi x9] ++ ([vi x10] ++ ([v11] ++ ([v12] ++ ([v13] ++ ([v14] ++ ([v15] ++ [])))))))))))))) := by rw [drop_split cs 1 3, e4]; exact congrArg (· ++ _) k1
  have e0 : cs.drop 0 = [vi x0] ++ (Op.enc x1 ++ (Result.enc x2 ++ ([vi x3] ++ ([vi x4] ++ ([vi x5] ++ ([vi x6] ++ ([vi x7] ++ ([vi x8] ++ ([vi x9] ++ ([vi x10] ++ ([v11] ++ ([v12] ++ ([v13] ++ ([v14] ++ ([v15] ++ []))))))))))))))) := by rw [drop_split cs 0 1, e1]; exact congrArg (· ++ _) k0
  exact ⟨⟨x0, x1, x2, x3, x4, x5, x6, x7, x8, x9, x10, x11, x12, x13, x14, x15⟩, ⟨v11, v12, v13, v14, v15, (List.drop_zero (l := cs)).symm.trans e0, r11, r12, r13, r14, r15⟩, hl, w0, w1, w2, w3, w4, w5, w6, w7, w8, w9, w10, w11, w12, w13, w14, w15⟩
theorem op25 : Opens Tryz.prog 25 1 (fun W xs cs => ∃ v, cs = [v] ∧ threadEK.Rd W v xs) (fun xs => ∀ x ∈ xs, Thread.wf x) := opens_slice op95 (by decide) (by kernel_rfl) (by kernel_rfl)
theorem fd27_0 : fldB Tryz.prog 27 0 = some (23, 0) := by kernel_rfl
theorem fd27_1 : fldB Tryz.prog 27 1 = some (24, 6) := by kernel_rfl
theorem fd27_2 : fldB Tryz.prog 27 2 = some (24, 7) := by kernel_rfl
theorem fd27_3 : fldB Tryz.prog 27 3 = some (25, 8) := by kernel_rfl
theorem fd27_4 : fldB Tryz.prog 27 4 = some (3, 9) := by kernel_rfl
theorem fd27_5 : fldB Tryz.prog 27 5 = some (3, 10) := by kernel_rfl
theorem fd27_6 : fldB Tryz.prog 27 6 = some (3, 11) := by kernel_rfl
theorem fd27_7 : fldB Tryz.prog 27 7 = some (3, 12) := by kernel_rfl
theorem op27 : Opens Tryz.prog 27 13 State.K State.wf := by
  refine ⟨by kernel_rfl, fun H enc W sp fuel cs y h => ?_⟩
  have hl : cs.length = 13 := (trod_len fd27_0 h).trans (by kernel_rfl)
  have e13 : cs.drop 13 = [] := List.drop_eq_nil_of_le (by omega)
  obtain ⟨x0, k0, w0⟩ := Opens.field op23 fd27_0 h
  obtain ⟨x1, ⟨v1, k1, r1⟩, w1⟩ := Opens.field op24 fd27_1 h
  obtain ⟨x2, ⟨v2, k2, r2⟩, w2⟩ := Opens.field op24 fd27_2 h
  obtain ⟨x3, ⟨v3, k3, r3⟩, w3⟩ := Opens.field op25 fd27_3 h
  obtain ⟨x4, k4, w4⟩ := Opens.field op3 fd27_4 h
  obtain ⟨x5, k5, w5⟩ := Opens.field op3 fd27_5 h
  obtain ⟨x6, k6, w6⟩ := Opens.field op3 fd27_6 h
  obtain ⟨x7, k7, w7⟩ := Opens.field op3 fd27_7 h
  have e12 : cs.drop 12 = [vi x7] ++ [] := by rw [drop_split cs 12 1, e13]; exact congrArg (· ++ _) k7
  have e11 : cs.drop 11 = [vi x6] ++ ([vi x7] ++ []) := by rw [drop_split cs 11 1, e12]; exact congrArg (· ++ _) k6
  have e10 : cs.drop 10 = [vi x5] ++ ([vi x6] ++ ([vi x7] ++ [])) := by rw [drop_split cs 10 1, e11]; exact congrArg (· ++ _) k5
  have e9 : cs.drop 9 = [vi x4] ++ ([vi x5] ++ ([vi x6] ++ ([vi x7] ++ []))) := by rw [drop_split cs 9 1, e10]; exact congrArg (· ++ _) k4
  have e8 : cs.drop 8 = [v3] ++ ([vi x4] ++ ([vi x5] ++ ([vi x6] ++ ([vi x7] ++ [])))) := by rw [drop_split cs 8 1, e9]; exact congrArg (· ++ _) k3
  have e7 : cs.drop 7 = [v2] ++ ([v3] ++ ([vi x4] ++ ([vi x5] ++ ([vi x6] ++ ([vi x7] ++ []))))) := by rw [drop_split cs 7 1, e8]; exact congrArg (· ++ _) k2
  have e6 : cs.drop 6 = [v1] ++ ([v2] ++ ([v3] ++ ([vi x4] ++ ([vi x5] ++ ([vi x6] ++ ([vi x7] ++ [])))))) := by rw [drop_split cs 6 1, e7]; exact congrArg (· ++ _) k1
  have e0 : cs.drop 0 = Config.enc x0 ++ ([v1] ++ ([v2] ++ ([v3] ++ ([vi x4] ++ ([vi x5] ++ ([vi x6] ++ ([vi x7] ++ []))))))) := by rw [drop_split cs 0 6, e6]; exact congrArg (· ++ _) k0
  exact ⟨⟨x0, x1, x2, x3, x4, x5, x6, x7⟩, ⟨v1, v2, v3, (List.drop_zero (l := cs)).symm.trans e0, r1, r2, r3⟩, hl, w0, w1, w2, w3, w4, w5, w6, w7⟩
theorem op61 : Opens Tryz.prog 61 1 (fun W xs cs => ∃ v, cs = [v] ∧ opEK.Rd W v xs) (fun xs => ∀ x ∈ xs, Op.wf x) := opens_slice op78 (by decide) (by kernel_rfl) (by kernel_rfl)
theorem op28 : Opens Tryz.prog 28 1 (fun W xs cs => ∃ v, cs = [v] ∧ (sliceEK opEK).Rd W v xs) (fun xs => ∀ x ∈ xs, (fun xs => ∀ x ∈ xs, Op.wf x) x) := opens_slice op61 (by decide) (by kernel_rfl) (by kernel_rfl)
theorem fd81_0 : fldB Tryz.prog 81 0 = some (3, 0) := by kernel_rfl
theorem fd81_1 : fldB Tryz.prog 81 1 = some (78, 1) := by kernel_rfl
theorem fd81_2 : fldB Tryz.prog 81 2 = some (79, 4) := by kernel_rfl
theorem fd81_3 : fldB Tryz.prog 81 3 = some (3, 6) := by kernel_rfl
theorem fd81_4 : fldB Tryz.prog 81 4 = some (3, 7) := by kernel_rfl
theorem op81 : Opens Tryz.prog 81 8 (fun _ x cs => cs = Event.enc x) Event.wf := by
  refine ⟨by kernel_rfl, fun H enc W sp fuel cs y h => ?_⟩
  have hl : cs.length = 8 := (trod_len fd81_0 h).trans (by kernel_rfl)
  have e8 : cs.drop 8 = [] := List.drop_eq_nil_of_le (by omega)
  obtain ⟨x0, k0, w0⟩ := Opens.field op3 fd81_0 h
  obtain ⟨x1, k1, w1⟩ := Opens.field op78 fd81_1 h
  obtain ⟨x2, k2, w2⟩ := Opens.field op79 fd81_2 h
  obtain ⟨x3, k3, w3⟩ := Opens.field op3 fd81_3 h
  obtain ⟨x4, k4, w4⟩ := Opens.field op3 fd81_4 h
  have e7 : cs.drop 7 = [vi x4] ++ [] := by rw [drop_split cs 7 1, e8]; exact congrArg (· ++ _) k4
  have e6 : cs.drop 6 = [vi x3] ++ ([vi x4] ++ []) := by rw [drop_split cs 6 1, e7]; exact congrArg (· ++ _) k3
  have e4 : cs.drop 4 = Result.enc x2 ++ ([vi x3] ++ ([vi x4] ++ [])) := by rw [drop_split cs 4 2, e6]; exact congrArg (· ++ _) k2
  have e1 : cs.drop 1 = Op.enc x1 ++ (Result.enc x2 ++ ([vi x3] ++ ([vi x4] ++ []))) := by rw [drop_split cs 1 3, e4]; exact congrArg (· ++ _) k1
  have e0 : cs.drop 0 = [vi x0] ++ (Op.enc x1 ++ (Result.enc x2 ++ ([vi x3] ++ ([vi x4] ++ [])))) := by rw [drop_split cs 0 1, e1]; exact congrArg (· ++ _) k0
  exact ⟨⟨x0, x1, x2, x3, x4⟩, (List.drop_zero (l := cs)).symm.trans e0, hl, w0, w1, w2, w3, w4⟩
theorem op29 : Opens Tryz.prog 29 1 (fun W xs cs => ∃ v, cs = [v] ∧ eventEK.Rd W v xs) (fun xs => ∀ x ∈ xs, Event.wf x) := opens_slice op81 (by decide) (by kernel_rfl) (by kernel_rfl)
theorem fd31_0 : fldB Tryz.prog 31 0 = some (27, 0) := by kernel_rfl
theorem fd31_1 : fldB Tryz.prog 31 1 = some (28, 13) := by kernel_rfl
theorem fd31_2 : fldB Tryz.prog 31 2 = some (24, 14) := by kernel_rfl
theorem fd31_3 : fldB Tryz.prog 31 3 = some (29, 15) := by kernel_rfl
theorem fd31_4 : fldB Tryz.prog 31 4 = some (3, 16) := by kernel_rfl
theorem op31 : Opens Tryz.prog 31 17 Machine.K Machine.wf := by
  refine ⟨by kernel_rfl, fun H enc W sp fuel cs y h => ?_⟩
  have hl : cs.length = 17 := (trod_len fd31_0 h).trans (by kernel_rfl)
  have e17 : cs.drop 17 = [] := List.drop_eq_nil_of_le (by omega)
  obtain ⟨x0, k0, w0⟩ := Opens.field op27 fd31_0 h
  obtain ⟨u0_0, u0_1, u0_2, k0, r0_0, r0_1, r0_2⟩ := k0
  obtain ⟨x1, ⟨v1, k1, r1⟩, w1⟩ := Opens.field op28 fd31_1 h
  obtain ⟨x2, ⟨v2, k2, r2⟩, w2⟩ := Opens.field op24 fd31_2 h
  obtain ⟨x3, ⟨v3, k3, r3⟩, w3⟩ := Opens.field op29 fd31_3 h
  obtain ⟨x4, k4, w4⟩ := Opens.field op3 fd31_4 h
  have e16 : cs.drop 16 = [vi x4] ++ [] := by rw [drop_split cs 16 1, e17]; exact congrArg (· ++ _) k4
  have e15 : cs.drop 15 = [v3] ++ ([vi x4] ++ []) := by rw [drop_split cs 15 1, e16]; exact congrArg (· ++ _) k3
  have e14 : cs.drop 14 = [v2] ++ ([v3] ++ ([vi x4] ++ [])) := by rw [drop_split cs 14 1, e15]; exact congrArg (· ++ _) k2
  have e13 : cs.drop 13 = [v1] ++ ([v2] ++ ([v3] ++ ([vi x4] ++ []))) := by rw [drop_split cs 13 1, e14]; exact congrArg (· ++ _) k1
  have e0 : cs.drop 0 = State.encv x0 u0_0 u0_1 u0_2 ++ ([v1] ++ ([v2] ++ ([v3] ++ ([vi x4] ++ [])))) := by rw [drop_split cs 0 13, e13]; exact congrArg (· ++ _) k0
  exact ⟨⟨x0, x1, x2, x3, x4⟩, ⟨u0_0, u0_1, u0_2, v1, v2, v3, (List.drop_zero (l := cs)).symm.trans e0, r0_0, r0_1, r0_2, r1, r2, r3⟩, hl, w0, w1, w2, w3, w4⟩
namespace fnExactIsDone
open Go.ChangeShapes Go.WideShapes Go.ChangeAt Go.RowKit
theorem laidOut : laidOutB Tryz.prog = true := by kernel_rfl
theorem own : ownKnob Tryz.prog.godebug = none := by kernel_rfl
set_option maxRecDepth 100000 in
theorem lifted (os : Os) (started : os.Started) (H : Type) (enc : TypeId × Value → H) :
    ReturnsInHanded {} Tryz.checked os 3 .any (Rows.fnExactIsDoneSpec.pre6 enc Tryz.prog Tryz.f3 Rows.fnExactIsDoneRow.domain false) (Rows.fnExactIsDoneSpec.post enc Tryz.prog Tryz.f3 false true false false) := by
  refine returnsInHanded_of_change_sized (C := Tryz.checked) own started (by kernel_rfl) Tryz.func3
    (ChangeSpec.witness6 (enc := enc) (C := Tryz.checked) false ⟨#[], #[.agg #[.int .i64 0, .int .i64 0, .int .i64 0, .int .i64 0, .int .i64 0, .int .i64 0, .slice none 0 0, .slice none 0 0, .slice none 0 0, .int .i64 0, .int .i64 0, .int .i64 0, .int .i64 0, .slice none 0 0, .slice none 0 0, .slice none 0 0, .int .i64 0]], []⟩ 8 (by kernel_rfl) (by kernel_rfl) (by kernel_rfl) (by kernel_rfl)) ?_
  intro W base args ds gs before hval0 hW hcnd hsz0 _
  have hval : ∀ (j : Nat) t v, Tryz.f3.params[j]? = some t → args[j]? = some v → Value.okWide Tryz.prog W .any base t v := hval0
  have hW' := hW
  obtain ⟨p, q, hA0, hV, rfl, hfz, hnd⟩ := hW
  have hA : DataW.TrodAll enc Tryz.prog W 0 (fun _ => true) true Tryz.f3.params.toList args.toList ds p := hA0
  rw [Tryz.params3] at hA hval
  obtain ⟨v0, vs0, d0, ds0, p0, q0, hargs, rfl, rfl, h0, r0⟩ := trodAll_cons hA
  obtain ⟨rfl, rfl, rfl⟩ := trodAll_nil r0
  obtain rfl : args = #[v0] := by cases args; simp_all
  obtain ⟨rfl, rfl⟩ := trodVars_none hV
  have kk0 := h0
  have lt0 : ∀ x ∈ p0, x.block < W.heap.size := by obtain ⟨m, hm⟩ := kk0; exact DataW.trod_lt m _ _ _ hm
  obtain ⟨c0, rfl⟩ := okWide_struct fd31_0 (hval 0 31 v0 rfl rfl)
  obtain ⟨m0, hm0⟩ := h0; rw [agg_cells] at hm0
  obtain ⟨x0, k0, _, ok0⟩ := (op31).2 _ _ _ _ _ _ _ hm0; clear hm0
  clear hA0 hval0
  refine (law_FnExactIsDone k0 ok0).mono ?_
  rintro e W' ⟨v, rfl, rfl, bel⟩
  exact ⟨_, rfl, _, _, _, [], _, [], hW', trodAll_mk1 (shut_bool (by kernel_rfl : Tryz.prog.underlying 4 = some .bool) _), (trodAll_cons_mk (Below.trod laidOut (by kernel_rfl) (of_decide_eq_true (by kernel_rfl)) kk0 bel lt0) trodAll_mk0), rfl, bel.frame _, fun h => by cases h⟩
def restSigns : List Char := Sl.ch [97, 116, 32, 108, 111, 111, 112, 46, 101, 120, 97, 109, 112, 108, 101, 47, 103, 48, 49, 54, 50, 56, 47, 108, 97, 119, 115, 46, 70, 110, 69, 120, 97, 99, 116, 73, 115, 68, 111, 110, 101]
theorem order : Tryz.pinned.checked.prog.initOrder = String.ofList (Sl.ch [104, 97, 114, 110, 101, 115, 115] ++ Sl.sp :: (Sl.ch [55, 48, 53, 97, 52, 97, 55, 50, 101, 98, 48, 57, 97, 48, 57, 57, 55, 48, 99, 99, 50, 49, 51, 55, 97, 97, 51, 101, 53, 57, 53, 98, 100, 56, 98, 53, 102, 102, 97, 102, 55, 49, 52, 49, 53, 50, 99, 98, 97, 57, 57, 49, 53, 102, 102, 48, 99, 57, 101, 100, 102, 50, 51, 50] ++ Sl.sp :: (Sl.ch [99, 117, 116] ++ Sl.sp :: restSigns))) := by kernel_rfl
theorem behind (X : List (List Char)) : behindMainWord (Sl.ch [104, 97, 114, 110, 101, 115, 115] :: Sl.ch [55, 48, 53, 97, 52, 97, 55, 50, 101, 98, 48, 57, 97, 48, 57, 57, 55, 48, 99, 99, 50, 49, 51, 55, 97, 97, 51, 101, 53, 57, 53, 98, 100, 56, 98, 53, 102, 102, 97, 102, 55, 49, 52, 49, 53, 50, 99, 98, 97, 57, 57, 49, 53, 102, 102, 48, 99, 57, 101, 100, 102, 50, 51, 50] :: Sl.ch [99, 117, 116] :: X) = "cut".toList :: X := by kernel_rfl
theorem heads : behindMainWord (wordsSigns Tryz.pinned.checked.prog.initOrder.toList) = "cut".toList :: wordsSigns restSigns := by
  rw [order, String.toList_ofList, Sl.words_sp _ _ (by decide), Sl.words_sp _ _ (by decide), Sl.words_sp _ _ (by decide)]; exact behind _
theorem facts : joinedFacts Tryz.pinned.checked.prog 3 Tryz.f3 Rows.fnExactIsDoneSpec Rows.fnExactIsDoneRow = true := by
  unfold joinedFacts; rw [Sl.enter_of heads (by kernel_rfl) (by kernel_rfl) (by kernel_rfl), Sl.final_of heads, Sl.made_of heads]; kernel_rfl
theorem over : Rows.fnExactIsDoneRow.holds Tryz.pinned (OpenSpec.ofChange Rows.fnExactIsDoneSpec) :=
  OpenClaim.holds_of_wide 3 Tryz.f3 rfl rfl rfl rfl rfl rfl rfl ⟨rfl, rfl, rfl, rfl, rfl⟩ rfl rfl rfl rfl rfl (by kernel_rfl) Tryz.func3 facts
    (of_decide_eq_true (by kernel_rfl)) (by unfold Func.isWrapper; first | (rw [if_pos (by decide +kernel)]; kernel_rfl) | (rw [if_neg (by decide +kernel)]; exact ⟨rfl, rfl⟩))
    (fun os started H enc _ => lifted os started H enc)
theorem proved : Rows.FnExactIsDoneSaid := over
end fnExactIsDone
/-- The row, under a short name. -/
theorem fnExactIsDone_holds : Rows.FnExactIsDoneSaid := fnExactIsDone.proved
end Go.Proofs.YtjloiphocdaahaaGreat
