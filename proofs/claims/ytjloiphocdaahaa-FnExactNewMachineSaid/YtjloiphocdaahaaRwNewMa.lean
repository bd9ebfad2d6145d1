/- FnExactNewMachine, for all arguments: the program's NewMachine returns what the reference's returns, and the arguments stay as they were. Condition: the law's own guard on size. -/
import Derived.Test.YtjloiphocdaahaaChecked
import Derived.Test.YtjloiphocdaahaaRows
import Derived.Test.YtjloiphocdaahaaWkL6
import Derived.Test.YtjloiphocdaahaaOpen
import Derived.Test.YtjloiphocdaahaaDoor
import Derived.Test.YtjloiphocdaahaaFactsE
namespace Go.Proofs.Ytjloiphocdaahaa
open Go Go.RowKit Sl Wk
set_option linter.unusedVariables false
set_option linter.unusedSimpArgs false
set_option maxRecDepth 20000

theorem op3 : Opens Try.prog 3 1 (fun _ n cs => cs = [vi n]) int64 := opens_int (by kernel_rfl) (by kernel_rfl)
theorem fd23_0 : fldB Try.prog 23 0 = some (3, 0) := by kernel_rfl
theorem fd23_1 : fldB Try.prog 23 1 = some (3, 1) := by kernel_rfl
theorem fd23_2 : fldB Try.prog 23 2 = some (3, 2) := by kernel_rfl
theorem fd23_3 : fldB Try.prog 23 3 = some (3, 3) := by kernel_rfl
theorem fd23_4 : fldB Try.prog 23 4 = some (3, 4) := by kernel_rfl
theorem fd23_5 : fldB Try.prog 23 5 = some (3, 5) := by kernel_rfl
theorem op23 : Opens Try.prog 23 6 (fun _ x cs => cs = Config.enc x) Config.wf := by
  refine ⟨by kernel_rfl, fun H enc W sp fuel cs y h => ?_⟩
  have hl : cs.length = 6 := (trod_len fd23_0 h).trans (by kernel_rfl)
  have e6 : cs.drop 6 = [] := List.drop_eq_nil_of_le (by omega)
  obtain ⟨x0, k0, w0⟩ := Opens.field op3 fd23_0 h
  obtain ⟨x1, k1, w1⟩ := Opens.field op3 fd23_1 h
  obtain ⟨x2, k2, w2⟩ := Opens.field op3 fd23_2 h
  obtain ⟨x3, k3, w3⟩ := Opens.field op3 fd23_3 h
  obtain ⟨x4, k4, w4⟩ := Opens.field op3 fd23_4 h
  obtain ⟨x5, k5, w5⟩ := Opens.field op3 fd23_5 h
  have e5 : cs.drop 5 = [vi x5] ++ [] := by rw [drop_split cs 5 1, e6]; exact congrArg (· ++ _) k5
  have e4 : cs.drop 4 = [vi x4] ++ ([vi x5] ++ []) := by rw [drop_split cs 4 1, e5]; exact congrArg (· ++ _) k4
  have e3 : cs.drop 3 = [vi x3] ++ ([vi x4] ++ ([vi x5] ++ [])) := by rw [drop_split cs 3 1, e4]; exact congrArg (· ++ _) k3
  have e2 : cs.drop 2 = [vi x2] ++ ([vi x3] ++ ([vi x4] ++ ([vi x5] ++ []))) := by rw [drop_split cs 2 1, e3]; exact congrArg (· ++ _) k2
  have e1 : cs.drop 1 = [vi x1] ++ ([vi x2] ++ ([vi x3] ++ ([vi x4] ++ ([vi x5] ++ [])))) := by rw [drop_split cs 1 1, e2]; exact congrArg (· ++ _) k1
  have e0 : cs.drop 0 = [vi x0] ++ ([vi x1] ++ ([vi x2] ++ ([vi x3] ++ ([vi x4] ++ ([vi x5] ++ []))))) := by rw [drop_split cs 0 1, e1]; exact congrArg (· ++ _) k0
  exact ⟨⟨x0, x1, x2, x3, x4, x5⟩, (List.drop_zero (l := cs)).symm.trans e0, hl, w0, w1, w2, w3, w4, w5⟩
theorem fd114_0 : fldB Try.prog 114 0 = some (3, 0) := by kernel_rfl
theorem fd114_1 : fldB Try.prog 114 1 = some (3, 1) := by kernel_rfl
theorem fd114_2 : fldB Try.prog 114 2 = some (3, 2) := by kernel_rfl
theorem op114 : Opens Try.prog 114 3 (fun _ x cs => cs = Op.enc x) Op.wf := by
  refine ⟨by kernel_rfl, fun H enc W sp fuel cs y h => ?_⟩
  have hl : cs.length = 3 := (trod_len fd114_0 h).trans (by kernel_rfl)
  have e3 : cs.drop 3 = [] := List.drop_eq_nil_of_le (by omega)
  obtain ⟨x0, k0, w0⟩ := Opens.field op3 fd114_0 h
  obtain ⟨x1, k1, w1⟩ := Opens.field op3 fd114_1 h
  obtain ⟨x2, k2, w2⟩ := Opens.field op3 fd114_2 h
  have e2 : cs.drop 2 = [vi x2] ++ [] := by rw [drop_split cs 2 1, e3]; exact congrArg (· ++ _) k2
  have e1 : cs.drop 1 = [vi x1] ++ ([vi x2] ++ []) := by rw [drop_split cs 1 1, e2]; exact congrArg (· ++ _) k1
  have e0 : cs.drop 0 = [vi x0] ++ ([vi x1] ++ ([vi x2] ++ [])) := by rw [drop_split cs 0 1, e1]; exact congrArg (· ++ _) k0
  exact ⟨⟨x0, x1, x2⟩, (List.drop_zero (l := cs)).symm.trans e0, hl, w0, w1, w2⟩
theorem op83 : Opens Try.prog 83 1 (fun W xs cs => ∃ v, cs = [v] ∧ opEK.Rd W v xs) (fun xs => ∀ x ∈ xs, Op.wf x) := opens_slice op114 (by decide) (by kernel_rfl) (by kernel_rfl)
theorem op28 : Opens Try.prog 28 1 (fun W xs cs => ∃ v, cs = [v] ∧ (sliceEK opEK).Rd W v xs) (fun xs => ∀ x ∈ xs, (fun xs => ∀ x ∈ xs, Op.wf x) x) := opens_slice op83 (by decide) (by kernel_rfl) (by kernel_rfl)
namespace fnExactNewMachine
open Go.ChangeShapes Go.WideShapes Go.ChangeAt Go.RowKit
theorem laidOut : laidOutB Try.prog = true := by kernel_rfl
theorem own : ownKnob Try.prog.godebug = none := by kernel_rfl
set_option maxRecDepth 100000 in
theorem lifted (os : Os) (started : os.Started) (H : Type) (enc : TypeId × Value → H) :
    ReturnsInHanded {} Try.checked os 4 .any (Rows.fnExactNewMachineSpec.pre6 enc Try.prog Try.f4 Rows.fnExactNewMachineRow.domain false) (Rows.fnExactNewMachineSpec.post enc Try.prog Try.f4 false true false false) := by
  refine returnsInHanded_of_change_sized (C := Try.checked) own started (by kernel_rfl) Try.func4
    (ChangeSpec.witness6 (enc := enc) (C := Try.checked) false ⟨#[], #[.agg #[.int .i64 0, .int .i64 0, .int .i64 0, .int .i64 0, .int .i64 0, .int .i64 0], .slice none 0 0], []⟩ 8 (by kernel_rfl) (by kernel_rfl) (by kernel_rfl) (by kernel_rfl)) ?_
  intro W base args ds gs before hval0 hW hcnd hsz0 _
  have hval : ∀ (j : Nat) t v, Try.f4.params[j]? = some t → args[j]? = some v → Value.okWide Try.prog W .any base t v := hval0
  have hW' := hW
  obtain ⟨p, q, hA0, hV, rfl, hfz, hnd⟩ := hW
  have hA : DataW.TrodAll enc Try.prog W 0 (fun _ => true) true Try.f4.params.toList args.toList ds p := hA0
  rw [Try.params4] at hA hval
  obtain ⟨v0, vs0, d0, ds0, p0, q0, hargs, rfl, rfl, h0, r0⟩ := trodAll_cons hA
  obtain ⟨v1, vs1, d1, ds1, p1, q1, rfl, rfl, rfl, h1, r1⟩ := trodAll_cons r0
  obtain ⟨rfl, rfl, rfl⟩ := trodAll_nil r1
  obtain rfl : args = #[v0, v1] := by cases args; simp_all
  obtain ⟨rfl, rfl⟩ := trodVars_none hV
  have kk0 := h0
  have lt0 : ∀ x ∈ p0, x.block < W.heap.size := by obtain ⟨m, hm⟩ := kk0; exact DataW.trod_lt m _ _ _ hm
  obtain ⟨c0, rfl⟩ := okWide_struct fd23_0 (hval 0 23 v0 rfl rfl)
  obtain ⟨m0, hm0⟩ := h0; rw [agg_cells] at hm0
  obtain ⟨x0, k0, _, ok0⟩ := (op23).2 _ _ _ _ _ _ _ hm0; clear hm0
  obtain rfl := k0
  have kk1 := h1
  have lt1 : ∀ x ∈ p1, x.block < W.heap.size := by obtain ⟨m, hm⟩ := kk1; exact DataW.trod_lt m _ _ _ hm
  obtain ⟨sa1, sl1, sc1, rfl⟩ := okWide_slice (by kernel_rfl : Try.prog.underlying 28 = some (.slice 83)) (hval 1 28 v1 rfl rfl)
  obtain ⟨m1, hm1⟩ := h1
  obtain ⟨x1, ⟨u1_0, e1, hr1⟩, _, ok1⟩ := (op28).2 _ _ _ _ _ _ _ hm1; clear hm1
  obtain rfl : Value.slice sa1 sl1 sc1 = u1_0 := by simpa [Value.cells] using e1
  clear hA0 hval0
  refine (law_FnExactNewMachine hr1).mono ?_
  rintro e W' ⟨v, rfl, rfl, bel⟩
  exact ⟨_, rfl, _, _, _, [], _, [], hW', trodAll_mk1 (shut_bool (by kernel_rfl : Try.prog.underlying 4 = some .bool) _), (trodAll_cons_mk (Below.trod laidOut (by kernel_rfl) (of_decide_eq_true (by kernel_rfl)) kk0 bel lt0) (trodAll_cons_mk (Below.trod laidOut (by kernel_rfl) (of_decide_eq_true (by kernel_rfl)) kk1 bel lt1) trodAll_mk0)), rfl, bel.frame _, fun h => by cases h⟩
def restSigns : List Char := Sl.ch [97, 116, 32, 108, 111, 111, 112, 46, 101, 120, 97, 109, 112, 108, 101, 47, 103, 48, 49, 54, 50, 56, 47, 108, 97, 119, 115, 46, 70, 110, 69, 120, 97, 99, 116, 69, 113, 117, 97, 108, 77, 97, 99, 104, 105, 110, 101, 115, 32, 108, 111, 111, 112, 46, 101, 120, 97, 109, 112, 108, 101, 47, 103, 48, 49, 54, 50, 56, 47, 108, 97, 119, 115, 46, 70, 110, 69, 120, 97, 99, 116, 78, 101, 119, 77, 97, 99, 104, 105, 110, 101, 32, 108, 111, 111, 112, 46, 101, 120, 97, 109, 112, 108, 101, 47, 103, 48, 49, 54, 50, 56, 47, 108, 97, 119, 115, 46, 70, 110, 69, 120, 97, 99, 116, 86, 105, 115, 105, 98, 108, 101, 65, 116, 32, 108, 111, 111, 112, 46, 101, 120, 97, 109, 112, 108, 101, 47, 103, 48, 49, 54, 50, 56, 47, 108, 97, 119, 115, 46, 70, 110, 69, 120, 97, 99, 116, 73, 115, 79, 114, 100, 101, 114, 101, 100, 32, 108, 111, 111, 112, 46, 101, 120, 97, 109, 112, 108, 101, 47, 103, 48, 49, 54, 50, 56, 47, 108, 97, 119, 115, 46, 70, 110, 69, 120, 97, 99, 116, 65, 110, 110, 111, 117, 110, 99, 101, 100, 32, 108, 111, 111, 112, 46, 101, 120, 97, 109, 112, 108, 101, 47, 103, 48, 49, 54, 50, 56, 47, 108, 97, 119, 115, 46, 70, 110, 69, 120, 97, 99, 116, 72, 97, 122, 97, 114, 100, 115, 32, 108, 111, 111, 112, 46, 101, 120, 97, 109, 112, 108, 101, 47, 103, 48, 49, 54, 50, 56, 47, 108, 97, 119, 115, 46, 70, 110, 69, 120, 97, 99, 116, 76, 105, 115, 116, 79, 102, 32, 108, 111, 111, 112, 46, 101, 120, 97, 109, 112, 108, 101, 47, 103, 48, 49, 54, 50, 56, 47, 108, 97, 119, 115, 46, 70, 110, 69, 120, 97, 99, 116, 83, 116, 97, 109, 112, 115, 79, 102, 32, 108, 111, 111, 112, 46, 101, 120, 97, 109, 112, 108, 101, 47, 103, 48, 49, 54, 50, 56, 47, 108, 97, 119, 115, 46, 70, 110, 69, 120, 97, 99, 116, 73, 115, 77, 97, 99, 104, 105, 110, 101]
theorem order : Try.pinned.checked.prog.initOrder = String.ofList (Sl.ch [104, 97, 114, 110, 101, 115, 115] ++ Sl.sp :: (Sl.ch [50, 50, 97, 53, 55, 50, 54, 49, 55, 101, 50, 102, 57, 98, 55, 101, 48, 57, 97, 49, 51, 54, 99, 57, 57, 57, 49, 57, 48, 98, 52, 99, 101, 56, 54, 51, 53, 48, 102, 56, 99, 51, 52, 50, 48, 102, 57, 99, 99, 50, 51, 53, 99, 57, 100, 97, 101, 57, 101, 99, 54, 53, 51, 56] ++ Sl.sp :: (Sl.ch [99, 117, 116] ++ Sl.sp :: restSigns))) := by kernel_rfl
theorem behind (X : List (List Char)) : behindMainWord (Sl.ch [104, 97, 114, 110, 101, 115, 115] :: Sl.ch [50, 50, 97, 53, 55, 50, 54, 49, 55, 101, 50, 102, 57, 98, 55, 101, 48, 57, 97, 49, 51, 54, 99, 57, 57, 57, 49, 57, 48, 98, 52, 99, 101, 56, 54, 51, 53, 48, 102, 56, 99, 51, 52, 50, 48, 102, 57, 99, 99, 50, 51, 53, 99, 57, 100, 97, 101, 57, 101, 99, 54, 53, 51, 56] :: Sl.ch [99, 117, 116] :: X) = "cut".toList :: X := by kernel_rfl
theorem heads : behindMainWord (wordsSigns Try.pinned.checked.prog.initOrder.toList) = "cut".toList :: wordsSigns restSigns := by
  rw [order, String.toList_ofList, Sl.words_sp _ _ (by decide), Sl.words_sp _ _ (by decide), Sl.words_sp _ _ (by decide)]; exact behind _
theorem facts : joinedFacts Try.pinned.checked.prog 4 Try.f4 Rows.fnExactNewMachineSpec Rows.fnExactNewMachineRow = true := by
  unfold joinedFacts; rw [Sl.enter_of heads (by kernel_rfl) (by kernel_rfl) (by kernel_rfl), Sl.final_of heads, Sl.made_of heads]; kernel_rfl
theorem over : Rows.fnExactNewMachineRow.holds Try.pinned (OpenSpec.ofChange Rows.fnExactNewMachineSpec) :=
  OpenClaim.holds_of_wide 4 Try.f4 rfl rfl rfl rfl rfl rfl rfl ⟨rfl, rfl, rfl, rfl, rfl⟩ rfl rfl rfl rfl rfl (by kernel_rfl) Try.func4 facts
    (of_decide_eq_true (by kernel_rfl)) (by unfold Func.isWrapper; first | (rw [if_pos (by decide +kernel)]; kernel_rfl) | (rw [if_neg (by decide +kernel)]; exact ⟨rfl, rfl⟩))
    (fun os started H enc _ => lifted os started H enc)
theorem proved : Rows.FnExactNewMachineSaid := over
end fnExactNewMachine
/-- The row, under a short name. -/
theorem fnExactNewMachine_holds : Rows.FnExactNewMachineSaid := fnExactNewMachine.proved
end Go.Proofs.Ytjloiphocdaahaa
