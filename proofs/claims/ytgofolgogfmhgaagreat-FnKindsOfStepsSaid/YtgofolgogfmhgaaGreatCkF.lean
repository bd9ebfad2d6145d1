/- FnKindsOfSteps, for all byte strings: at the state and thread drawn, as many of the program's seven kinds of steps are possible as the reference's Step makes steps (one or none), and a kind that is possible does what Step does. Condition: the law's own guard on size. -/
import Derived.Test.YtgofolgogfmhgaaGreatCkE
import Derived.Test.YtgofolgogfmhgaaGreatRows
set_option maxHeartbeats 4000000
set_option maxRecDepth 20000
namespace Go.Proofs.YtgofolgogfmhgaaGreat.Sl
open Go
section
variable {P : Program} {h s : List Char} {X : List (List Char)}
/-- a row of signs, by their numbers -/
def ch (l : List Nat) : List Char := l.map Char.ofNat
/-- the blank -/
abbrev sp : Char := Char.ofNat 32
theorem words_sp : ∀ (w r : List Char), Sl.sp ∉ w → wordsSigns (w ++ Sl.sp :: r) = w :: wordsSigns r
  | [], r, _ => rfl
  | c :: w, r, h => by
    have hc : c ≠ Sl.sp := fun e => h (e ▸ List.mem_cons_self)
    have ih := words_sp w r (fun e => h (List.mem_cons_of_mem _ e))
    rw [List.cons_append, wordsSigns.eq_3 _ _ (fun e => hc e), ih]
theorem strip_cut : stripLifts liftWords ("cut".toList :: X) = ([], "cut".toList :: X) := by kernel_rfl
theorem made_of (e : behindMainWord (wordsSigns P.initOrder.toList) = "cut".toList :: X) : P.make = some .cut := by
 unfold Program.make; rw [e]; rfl
theorem final_of (e : behindMainWord (wordsSigns P.initOrder.toList) = "cut".toList :: X) : P.liftsFinal = false := by
 unfold Program.liftsFinal Program.headLifts; rw [e]; dsimp only; rw [strip_cut]; rfl
theorem enter_of (e : behindMainWord (wordsSigns P.initOrder.toList) = "cut".toList :: X) (h1 : P.laysLater = false) (h2 : P.bearsReflect = false) (h3 : P.doorFits [] = true) : P.mayEnter = true := by
 unfold Program.mayEnter; rw [e]; dsimp only; rw [strip_cut, h1, h2, h3]; rfl
end
end Go.Proofs.YtgofolgogfmhgaaGreat.Sl
namespace Go.Proofs.YtgofolgogfmhgaaGreat
open Go Go.RowKit Sl Wk
set_option linter.unusedVariables false
set_option linter.unusedSimpArgs false
set_option maxRecDepth 20000
theorem op5 : Opens Tryz.prog 5 1 (fun _ n cs => cs = [.int .u8 n]) (fun _ => True) := opens_byte (by kernel_rfl) (by kernel_rfl)
theorem op22 : Opens Tryz.prog 22 1 (fun W xs cs => ∃ v, cs = [v] ∧ byteEK.Rd W v xs) (fun xs => ∀ x ∈ xs, (fun _ => True) x) := opens_slice op5 (by decide) (by kernel_rfl) (by kernel_rfl)
namespace fnKindsOfSteps
open Go.ChangeShapes Go.WideShapes Go.ChangeAt Go.RowKit
theorem laidOut : laidOutB Tryz.prog = true := by kernel_rfl
theorem own : ownKnob Tryz.prog.godebug = none := by kernel_rfl
theorem lifted (os : Os) (started : os.Started) (H : Type) (enc : TypeId × Value → H) :
    ReturnsInHanded {} Tryz.checked os 5 .any (Rows.fnKindsOfStepsSpec.pre6 enc Tryz.prog Tryz.f5 Rows.fnKindsOfStepsRow.domain false) (Rows.fnKindsOfStepsSpec.post enc Tryz.prog Tryz.f5 false true false false) := by
  refine returnsInHanded_of_change_sized (C := Tryz.checked) own started (by kernel_rfl) Tryz.func5
    (ChangeSpec.witness6 (enc := enc) (C := Tryz.checked) false ⟨#[], #[.slice none 0 0], []⟩ 8 (by kernel_rfl) (by kernel_rfl) (by kernel_rfl) (by kernel_rfl)) ?_
  intro W base args ds gs before hval0 hW hcnd hsz0 _
  have hval : ∀ (j : Nat) t v, Tryz.f5.params[j]? = some t → args[j]? = some v → Value.okWide Tryz.prog W .any base t v := hval0
  have hW' := hW
  obtain ⟨p, q, hA0, hV, rfl, hfz, hnd⟩ := hW
  have hA : DataW.TrodAll enc Tryz.prog W 0 (fun _ => true) true Tryz.f5.params.toList args.toList ds p := hA0
  rw [Tryz.params5] at hA hval
  obtain ⟨v0, vs0, d0, ds0, p0, q0, hargs, rfl, rfl, h0, r0⟩ := trodAll_cons hA
  obtain ⟨rfl, rfl, rfl⟩ := trodAll_nil r0
  obtain rfl : args = #[v0] := by cases args; simp_all
  obtain ⟨rfl, rfl⟩ := trodVars_none hV
  have kk0 := h0
  have lt0 : ∀ x ∈ p0, x.block < W.heap.size := by obtain ⟨m, hm⟩ := kk0; exact DataW.trod_lt m _ _ _ hm
  obtain ⟨sa0, sl0, sc0, rfl⟩ := okWide_slice (by kernel_rfl : Tryz.prog.underlying 22 = some (.slice 5)) (hval 0 22 v0 rfl rfl)
  obtain ⟨m0, hm0⟩ := h0
  obtain ⟨x0, ⟨u0_0, e0, hr0⟩, _, ok0⟩ := (op22).2 _ _ _ _ _ _ _ hm0; clear hm0
  obtain rfl : Value.slice sa0 sl0 sc0 = u0_0 := by simpa [Value.cells] using e0
  clear hA0 hval0
  refine (law_FnKindsOfSteps hr0).mono ?_
  rintro e W' ⟨v, rfl, rfl, bel⟩
  exact ⟨_, rfl, _, _, _, [], _, [], hW', trodAll_mk1 (shut_bool (by kernel_rfl : Tryz.prog.underlying 4 = some .bool) _), (trodAll_cons_mk (Below.trod laidOut (by kernel_rfl) (of_decide_eq_true (by kernel_rfl)) kk0 bel lt0) trodAll_mk0), rfl, bel.frame _, fun h => by cases h⟩
def restSigns : List Char := Sl.ch [97, 116, 32, 108, 111, 111, 112, 46, 101, 120, 97, 109, 112, 108, 101, 47, 103, 48, 49, 54, 50, 56, 47, 108, 97, 119, 115, 46, 70, 110, 83, 116, 97, 114, 116, 115, 32, 108, 111, 111, 112, 46, 101, 120, 97, 109, 112, 108, 101, 47, 103, 48, 49, 54, 50, 56, 47, 108, 97, 119, 115, 46, 70, 110, 76, 105, 109, 98, 111, 32, 108, 111, 111, 112, 46, 101, 120, 97, 109, 112, 108, 101, 47, 103, 48, 49, 54, 50, 56, 47, 108, 97, 119, 115, 46, 70, 110, 75, 105, 110, 100, 115, 79, 102, 83, 116, 101, 112, 115, 32, 108, 111, 111, 112, 46, 101, 120, 97, 109, 112, 108, 101, 47, 103, 48, 49, 54, 50, 56, 47, 108, 97, 119, 115, 46, 70, 110, 83, 116, 101, 112, 115]
theorem order : Tryz.pinned.checked.prog.initOrder = String.ofList (Sl.ch [104, 97, 114, 110, 101, 115, 115] ++ Sl.sp :: (Sl.ch [98, 55, 52, 56, 99, 50, 53, 100, 54, 101, 52, 101, 101, 52, 50, 98, 49, 48, 51, 55, 51, 97, 56, 57, 98, 102, 98, 99, 56, 49, 102, 49, 52, 56, 48, 101, 54, 54, 99, 100, 55, 48, 50, 53, 97, 52, 50, 57, 50, 52, 51, 49, 50, 100, 51, 98, 57, 102, 98, 57, 100, 56, 50, 98] ++ Sl.sp :: (Sl.ch [99, 117, 116] ++ Sl.sp :: restSigns))) := by kernel_rfl
theorem behind (X : List (List Char)) : behindMainWord (Sl.ch [104, 97, 114, 110, 101, 115, 115] :: Sl.ch [98, 55, 52, 56, 99, 50, 53, 100, 54, 101, 52, 101, 101, 52, 50, 98, 49, 48, 51, 55, 51, 97, 56, 57, 98, 102, 98, 99, 56, 49, 102, 49, 52, 56, 48, 101, 54, 54, 99, 100, 55, 48, 50, 53, 97, 52, 50, 57, 50, 52, 51, 49, 50, 100, 51, 98, 57, 102, 98, 57, 100, 56, 50, 98] :: Sl.ch [99, 117, 116] :: X) = "cut".toList :: X := by kernel_rfl
theorem heads : behindMainWord (wordsSigns Tryz.pinned.checked.prog.initOrder.toList) = "cut".toList :: wordsSigns restSigns := by
 rw [order, String.toList_ofList, Sl.words_sp _ _ (by decide), Sl.words_sp _ _ (by decide), Sl.words_sp _ _ (by decide)]; exact behind _
theorem facts : joinedFacts Tryz.pinned.checked.prog 5 Tryz.f5 Rows.fnKindsOfStepsSpec Rows.fnKindsOfStepsRow = true := by
 unfold joinedFacts; rw [Sl.enter_of heads (by kernel_rfl) (by kernel_rfl) (by kernel_rfl), Sl.final_of heads, Sl.made_of heads]; kernel_rfl
theorem over : Rows.fnKindsOfStepsRow.holds Tryz.pinned (OpenSpec.ofChange Rows.fnKindsOfStepsSpec) :=
  OpenClaim.holds_of_wide 5 Tryz.f5 rfl rfl rfl rfl rfl rfl rfl ⟨rfl, rfl, rfl, rfl, rfl⟩ rfl rfl rfl rfl rfl (by kernel_rfl) Tryz.func5 facts
    (of_decide_eq_true (by kernel_rfl)) (by unfold Func.isWrapper; first | (rw [if_pos (by decide +kernel)]; kernel_rfl) | (rw [if_neg (by decide +kernel)]; exact ⟨rfl, rfl⟩))
    (fun os started H enc _ => lifted os started H enc)
theorem proved : Rows.FnKindsOfStepsSaid := over
end fnKindsOfSteps
/-- The row, under a short name. -/
theorem fnKindsOfSteps_holds : Rows.FnKindsOfStepsSaid := fnKindsOfSteps.proved
end Go.Proofs.YtgofolgogfmhgaaGreat
