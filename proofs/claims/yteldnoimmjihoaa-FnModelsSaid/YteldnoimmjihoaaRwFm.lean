/- FnModels, for all arguments: the program's s returns what the reference's returns, and the arguments stay as they were. Condition: the law's own guard on size. -/
import Derived.Test.YteldnoimmjihoaaChecked
import Derived.Test.YteldnoimmjihoaaRows
import Derived.Test.YteldnoimmjihoaaWkFm
import Derived.Test.YteldnoimmjihoaaOpen
import Derived.Test.YteldnoimmjihoaaDoor
import Derived.Test.YteldnoimmjihoaaFactsF
namespace Go.Proofs.Yteldnoimmjihoaa
open Go Go.RowKit Sl Wk
set_option linter.unusedVariables false
set_option linter.unusedSimpArgs false
set_option maxRecDepth 20000

theorem op5 : Opens Try.prog 5 1 (fun _ n cs => cs = [.int .u8 n]) (fun _ => True) := opens_byte (by kernel_rfl) (by kernel_rfl)
theorem op64 : Opens Try.prog 64 1 (fun W xs cs => ∃ v, cs = [v] ∧ byteEK.Rd W v xs) (fun xs => ∀ x ∈ xs, (fun _ => True) x) := opens_slice op5 (by decide) (by kernel_rfl) (by kernel_rfl)
namespace fnModels
open Go.ChangeShapes Go.WideShapes Go.ChangeAt Go.RowKit
theorem laidOut : laidOutB Try.prog = true := by kernel_rfl
theorem own : ownKnob Try.prog.godebug = none := by kernel_rfl
set_option maxRecDepth 100000 in
theorem lifted (os : Os) (started : os.Started) (H : Type) (enc : TypeId × Value → H) :
    ReturnsInHanded {} Try.checked os 7 .any (Rows.fnModelsSpec.pre6 enc Try.prog Try.f7 Rows.fnModelsRow.domain false) (Rows.fnModelsSpec.post enc Try.prog Try.f7 false true false false) := by
  refine returnsInHanded_of_change_sized (C := Try.checked) own started (by kernel_rfl) Try.func7
    (ChangeSpec.witness6 (enc := enc) (C := Try.checked) false ⟨#[], #[.slice none 0 0], []⟩ 8 (by kernel_rfl) (by kernel_rfl) (by kernel_rfl) (by kernel_rfl)) ?_
  intro W base args ds gs before hval0 hW hcnd hsz0 _
  have hval : ∀ (j : Nat) t v, Try.f7.params[j]? = some t → args[j]? = some v → Value.okWide Try.prog W .any base t v := hval0
  have hW' := hW
  obtain ⟨p, q, hA0, hV, rfl, hfz, hnd⟩ := hW
  have hA : DataW.TrodAll enc Try.prog W 0 (fun _ => true) true Try.f7.params.toList args.toList ds p := hA0
  rw [Try.params7] at hA hval
  obtain ⟨v0, vs0, d0, ds0, p0, q0, hargs, rfl, rfl, h0, r0⟩ := trodAll_cons hA
  obtain ⟨rfl, rfl, rfl⟩ := trodAll_nil r0
  obtain rfl : args = #[v0] := by cases args; simp_all
  obtain ⟨rfl, rfl⟩ := trodVars_none hV
  have kk0 := h0
  have lt0 : ∀ x ∈ p0, x.block < W.heap.size := by obtain ⟨m, hm⟩ := kk0; exact DataW.trod_lt m _ _ _ hm
  obtain ⟨sa0, sl0, sc0, rfl⟩ := okWide_slice (by kernel_rfl : Try.prog.underlying 64 = some (.slice 5)) (hval 0 64 v0 rfl rfl)
  obtain ⟨m0, hm0⟩ := h0
  obtain ⟨x0, ⟨u0_0, e0, hr0⟩, _, ok0⟩ := (op64).2 _ _ _ _ _ _ _ hm0; clear hm0
  obtain rfl : Value.slice sa0 sl0 sc0 = u0_0 := by simpa [Value.cells] using e0
  clear hA0 hval0
  refine (law_FnModels hr0).mono ?_
  rintro e W' ⟨v, rfl, rfl, bel⟩
  exact ⟨_, rfl, _, _, _, [], _, [], hW', trodAll_mk1 (shut_bool (by kernel_rfl : Try.prog.underlying 4 = some .bool) _), (trodAll_cons_mk (Below.trod laidOut (by kernel_rfl) (of_decide_eq_true (by kernel_rfl)) kk0 bel lt0) trodAll_mk0), rfl, bel.frame _, fun h => by cases h⟩
def restSigns : List Char := Sl.ch [97, 116, 32, 108, 111, 111, 112, 46, 101, 120, 97, 109, 112, 108, 101, 47, 103, 48, 49, 54, 50, 56, 47, 108, 97, 119, 115, 46, 70, 110, 69, 120, 97, 99, 116, 69, 120, 112, 108, 97, 105, 110, 115, 32, 108, 111, 111, 112, 46, 101, 120, 97, 109, 112, 108, 101, 47, 103, 48, 49, 54, 50, 56, 47, 108, 97, 119, 115, 46, 70, 110, 69, 120, 97, 99, 116, 73, 115, 76, 105, 110, 101, 97, 114, 105, 122, 97, 98, 108, 101, 32, 108, 111, 111, 112, 46, 101, 120, 97, 109, 112, 108, 101, 47, 103, 48, 49, 54, 50, 56, 47, 108, 97, 119, 115, 46, 70, 110, 69, 120, 97, 99, 116, 76, 105, 110, 101, 97, 114, 105, 122, 101, 32, 108, 111, 111, 112, 46, 101, 120, 97, 109, 112, 108, 101, 47, 103, 48, 49, 54, 50, 56, 47, 108, 97, 119, 115, 46, 70, 110, 69, 120, 97, 99, 116, 82, 101, 112, 108, 97, 121, 79, 114, 100, 101, 114, 32, 108, 111, 111, 112, 46, 101, 120, 97, 109, 112, 108, 101, 47, 103, 48, 49, 54, 50, 56, 47, 108, 97, 119, 115, 46, 70, 110, 77, 111, 100, 101, 108, 115]
theorem order : Try.pinned.checked.prog.initOrder = String.ofList (Sl.ch [104, 97, 114, 110, 101, 115, 115] ++ Sl.sp :: (Sl.ch [57, 99, 100, 97, 97, 52, 53, 48, 98, 53, 49, 56, 49, 57, 52, 49, 50, 98, 102, 53, 55, 50, 101, 101, 56, 100, 49, 51, 49, 97, 102, 99, 53, 55, 54, 97, 49, 49, 97, 102, 55, 100, 57, 55, 101, 102, 99, 98, 53, 102, 53, 52, 99, 48, 53, 98, 54, 51, 53, 99, 54, 51, 56, 54] ++ Sl.sp :: (Sl.ch [99, 117, 116] ++ Sl.sp :: restSigns))) := by kernel_rfl
theorem behind (X : List (List Char)) : behindMainWord (Sl.ch [104, 97, 114, 110, 101, 115, 115] :: Sl.ch [57, 99, 100, 97, 97, 52, 53, 48, 98, 53, 49, 56, 49, 57, 52, 49, 50, 98, 102, 53, 55, 50, 101, 101, 56, 100, 49, 51, 49, 97, 102, 99, 53, 55, 54, 97, 49, 49, 97, 102, 55, 100, 57, 55, 101, 102, 99, 98, 53, 102, 53, 52, 99, 48, 53, 98, 54, 51, 53, 99, 54, 51, 56, 54] :: Sl.ch [99, 117, 116] :: X) = "cut".toList :: X := by kernel_rfl
theorem heads : behindMainWord (wordsSigns Try.pinned.checked.prog.initOrder.toList) = "cut".toList :: wordsSigns restSigns := by
  rw [order, String.toList_ofList, Sl.words_sp _ _ (by decide), Sl.words_sp _ _ (by decide), Sl.words_sp _ _ (by decide)]; exact behind _
theorem facts : joinedFacts Try.pinned.checked.prog 7 Try.f7 Rows.fnModelsSpec Rows.fnModelsRow = true := by
  unfold joinedFacts; rw [Sl.enter_of heads (by kernel_rfl) (by kernel_rfl) (by kernel_rfl), Sl.final_of heads, Sl.made_of heads]; kernel_rfl
theorem over : Rows.fnModelsRow.holds Try.pinned (OpenSpec.ofChange Rows.fnModelsSpec) :=
  OpenClaim.holds_of_wide 7 Try.f7 rfl rfl rfl rfl rfl rfl rfl ⟨rfl, rfl, rfl, rfl, rfl⟩ rfl rfl rfl rfl rfl (by kernel_rfl) Try.func7 facts
    (of_decide_eq_true (by kernel_rfl)) (by unfold Func.isWrapper; first | (rw [if_pos (by decide +kernel)]; kernel_rfl) | (rw [if_neg (by decide +kernel)]; exact ⟨rfl, rfl⟩))
    (fun os started H enc _ => lifted os started H enc)
theorem proved : Rows.FnModelsSaid := over
end fnModels
/-- The row, under a short name. -/
theorem fnModels_holds : Rows.FnModelsSaid := fnModels.proved
end Go.Proofs.Yteldnoimmjihoaa
