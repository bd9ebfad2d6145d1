/- FnModels, for all arguments: the program's s returns what the reference's returns, and the arguments stay as they were. Condition: the law's own guard on size. -/
import Derived.Test.YteldnoimmjihoaaChecked
import Derived.Test.YteldnoimmjihoaaRows
import Derived.Test.YteldnoimmjihoaaWkFm
import Derived.Test.YteldnoimmjihoaaOpen
import Derived.Test.YteldnoimmjihoaaDoor
import Derived.Test.YteldnoimmjihoaaFactsF
namespace Go.Proofs.Yteldnoimmjihoaa
open Go Go.RowKit Sl Wk
set_option linter.unusedVariables false
set_option linter.unusedSimpArgs false
set_option maxRecDepth 20000

theorem op5 : Opens Try.prog 5 1 (fun _ n cs => cs = [.int .u8 n]) (fun _ => True) := opens_byte (by kernel_rfl) (by kernel_rfl)
theorem op64 : Opens Try.prog 64 1 (fun W xs cs => ∃ v, cs = [v] ∧ byteEK.Rd W v xs) (fun xs => ∀ x ∈ xs, (fun _ => True) x) := opens_slice op5 (by decide) (by kernel_rfl) (by kernel_rfl)
namespace fnModels
open Go.ChangeShapes Go.WideShapes Go.ChangeAt Go.RowKit
theorem laidOut : laidOutB Try.prog = true := by kernel_rfl
theorem own : ownKnob Try.prog.godebug = none := by kernel_rfl
set_option maxRecDepth 100000 in
theorem lifted (os : Os) (started : os.Started) (H : Type) (enc : TypeId × Value → H) :
    ReturnsInHanded {} Try.checked os 7 .any (Rows.fnModelsSpec.pre6 enc Try.prog Try.f7 Rows.fnModelsRow.domain false) (Rows.fnModelsSpec.post enc Try.prog Try.f7 false true false false) := by
  refine returnsInHanded_of_change_sized (C := Try.checked) own started (by kernel_rfl) Try.func7
    (ChangeSpec.witness6 (enc := enc) (C := Try.checked) false ⟨#[], #[.slice none 0 0], []⟩ 8 (by kernel_rfl) (by kernel_rfl) (by kernel_rfl) (by kernel_rfl)) ?_
  intro W base args ds gs before hval0 hW hcnd hsz0 _
  have hval : ∀ (j : Nat) t v, Try.f7.params[j]? = some t → args[j]? = some v → Value.okWide Try.prog W .any base t v := hval0
  have hW' := hW
  obtain ⟨p, q, hA0, hV, rfl, hfz, hnd⟩ := hW
  have hA : DataW.TrodAll enc Try.prog W 0 (fun _ => true) true Try.f7.params.toList args.toList ds p := hA0
  rw [Try.params7] at hA hval
  obtain ⟨v0, vs0, d0, ds0, p0, q0, hargs, rfl, rfl, h0, r0⟩ := trodAll_cons hA
  obtain ⟨rfl, rfl, rfl⟩ := trodAll_nil r0
  obtain rfl : args = #[v0] := by cases args; simp_all
  obtain ⟨rfl, rfl⟩ := trodVars_none hV
  have kk0 := h0
  have lt0 : ∀ x ∈ p0, x.block < W.heap.size := by obtain ⟨m, hm⟩ := kk0; exact DataW.trod_lt m _ _ _ hm
  obtain ⟨sa0, sl0, sc0, rfl⟩ := okWide_slice (by kernel_rfl : Try.prog.underlying 64 = some (.slice 5)) (hval 0 64 v0 rfl rfl)
  obtain ⟨m0, hm0⟩ := h0
  obtain ⟨x0, ⟨u0_0, e0, hr0⟩, _, ok0⟩ := (op64).2 _ _ _ _ _ _ _ hm0; clear hm0
  obtain rfl : Value.slice sa0 sl0 sc0 = u0_0 := by simpa [Value.cells] using e0
  clear hA0 hval0
  refine (law_FnModels hr0).mono ?_
  rintro e W' ⟨v, rfl, rfl, bel⟩
  exact ⟨_, rfl, _, _, _, [], _, [], hW', trodAll_mk1 (shut_bool (by kernel_rfl : Try.prog.underlying 4 = some .bool) _), (trodAll_cons_mk (Below.trod laidOut (by kernel_rfl) (of_decide_eq_true (by kernel_rfl)) kk0 bel lt0) trodAll_mk0), rfl, bel.frame _, fun h => by cases h⟩
def restSigns : List Char := ['a', 't', ' ', 'l', 'o', 'o', 'p', '.', 'e', 'x', 'a', 'm', 'p', 'l', 'e', '/', 'g', '0', '1', '6', '2', '8', '/', 'l', 'a', 'w', 's', '.', 'F', 'n', 'E', 'x', 'a', 'c', 't', 'E', 'x', 'p', 'l', 'a', 'i', 'n', 's', ' ', 'l', 'o', 'o', 'p', '.', 'e', 'x', 'a', 'm', 'p', 'l', 'e', '/', 'g', '0', '1', '6', '2', '8', '/', 'l', 'a', 'w', 's', '.', 'F', 'n', 'E', 'x', 'a', 'c', 't', 'I', 's', 'L', 'i', 'n', 'e', 'a', 'r', 'i', 'z', 'a', 'b', 'l', 'e', ' ', 'l', 'o', 'o', 'p', '.', 'e', 'x', 'a', 'm', 'p', 'l', 'e', '/', 'g', '0', '1', '6', '2', '8', '/', 'l', 'a', 'w', 's', '.', 'F', 'n', 'E', 'x', 'a', 'c', 't', 'L', 'i', 'n', 'e', 'a', 'r', 'i', 'z', 'e', ' ', 'l', 'o', 'o', 'p', '.', 'e', 'x', 'a', 'm', 'p', 'l', 'e', '/', 'g', '0', '1', '6', '2', '8', '/', 'l', 'a', 'w', 's', '.', 'F', 'n', 'E', 'x', 'a', 'c', 't', 'R', 'e', 'p', 'l', 'a', 'y', 'O', 'r', 'd', 'e', 'r', ' ', 'l', 'o', 'o', 'p', '.', 'e', 'x', 'a', 'm', 'p', 'l', 'e', '/', 'g', '0', '1', '6', '2', '8', '/', 'l', 'a', 'w', 's', '.', 'F', 'n', 'M', 'o', 'd', 'e', 'l', 's']
theorem order : Try.pinned.checked.prog.initOrder = String.ofList (['h', 'a', 'r', 'n', 'e', 's', 's'] ++ ' ' :: (['9', 'c', 'd', 'a', 'a', '4', '5', '0', 'b', '5', '1', '8', '1', '9', '4', '1', '2', 'b', 'f', '5', '7', '2', 'e', 'e', '8', 'd', '1', '3', '1', 'a', 'f', 'c', '5', '7', '6', 'a', '1', '1', 'a', 'f', '7', 'd', '9', '7', 'e', 'f', 'c', 'b', '5', 'f', '5', '4', 'c', '0', '5', 'b', '6', '3', '5', 'c', '6', '3', '8', '6'] ++ ' ' :: (['c', 'u', 't'] ++ ' ' :: restSigns))) := by kernel_rfl
theorem behind (X : List (List Char)) : behindMainWord (['h', 'a', 'r', 'n', 'e', 's', 's'] :: ['9', 'c', 'd', 'a', 'a', '4', '5', '0', 'b', '5', '1', '8', '1', '9', '4', '1', '2', 'b', 'f', '5', '7', '2', 'e', 'e', '8', 'd', '1', '3', '1', 'a', 'f', 'c', '5', '7', '6', 'a', '1', '1', 'a', 'f', '7', 'd', '9', '7', 'e', 'f', 'c', 'b', '5', 'f', '5', '4', 'c', '0', '5', 'b', '6', '3', '5', 'c', '6', '3', '8', '6'] :: ['c', 'u', 't'] :: X) = "cut".toList :: X := by kernel_rfl
theorem heads : behindMainWord (wordsSigns Try.pinned.checked.prog.initOrder.toList) = "cut".toList :: wordsSigns restSigns := by
  rw [order, String.toList_ofList, Sl.words_sp _ _ (by decide), Sl.words_sp _ _ (by decide), Sl.words_sp _ _ (by decide)]; exact behind _
theorem facts : joinedFacts Try.pinned.checked.prog 7 Try.f7 Rows.fnModelsSpec Rows.fnModelsRow = true := by
  unfold joinedFacts; rw [Sl.enter_of heads (by kernel_rfl) (by kernel_rfl) (by kernel_rfl), Sl.final_of heads, Sl.made_of heads]; kernel_rfl
theorem over : Rows.fnModelsRow.holds Try.pinned (OpenSpec.ofChange Rows.fnModelsSpec) :=
  OpenClaim.holds_of_wide 7 Try.f7 rfl rfl rfl rfl rfl rfl rfl ⟨rfl, rfl, rfl, rfl, rfl⟩ rfl rfl rfl rfl rfl (by kernel_rfl) Try.func7 facts
    (of_decide_eq_true (by kernel_rfl)) (by unfold Func.isWrapper; first | (rw [if_pos (by decide +kernel)]; kernel_rfl) | (rw [if_neg (by decide +kernel)]; exact ⟨rfl, rfl⟩))
    (fun os started H enc _ => lifted os started H enc)
theorem proved : Rows.FnModelsSaid := over
end fnModels
/-- The row, under a short name. -/
theorem fnModels_holds : Rows.FnModelsSaid := fnModels.proved
end Go.Proofs.Yteldnoimmjihoaa
