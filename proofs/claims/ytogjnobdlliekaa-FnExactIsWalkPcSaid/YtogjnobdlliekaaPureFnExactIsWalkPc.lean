/- The program's IsWalkPc and the reference's return the same for every int: a plain statement about their printed Lean functions. No condition. -/
import Derived.Test.YtogjnobdlliekaaPFnExactIsWalkPcx1
namespace Go.Proofs.Ytogjnobdlliekaa.Pure
open Go.RowKit Go.Proofs.Ytogjnobdlliekaa.PFnExactIsWalkPc Go.Proofs.YtogjnobdlliekaaW.PrintWords Go.Proofs.YtogjnobdlliekaaW.PrintLast

/-- YOURS: ∀ (a0 : Int), (Lit.int .i64 a0).wf = true → laws_FnExactIsWalkPc.f a0 = some true
What it reaches (each with k first where it has rounds; `.mono`: more rounds tell the same; `.l0`, ..: its loops, with `.mono_l`): spec_l1In.f, spec_IsWalkPc.f, impl_in.f, impl_IsWalkPc.f, laws_FnExactIsWalkPc.f -/
theorem FnExactIsWalkPc : laws_FnExactIsWalkPc.Pure := by
  intro a0 _
  have e : spec_IsWalkPc.f a0 = impl_IsWalkPc.f a0 := rfl
  unfold laws_FnExactIsWalkPc.f
  rw [e]
  have : ∃ b, impl_IsWalkPc.f a0 = some b := by
    unfold impl_IsWalkPc.f impl_in.f
    repeat' split
    all_goals simp
  obtain ⟨b, hb⟩ := this
  rw [hb]
  simp

end Go.Proofs.Ytogjnobdlliekaa.Pure
