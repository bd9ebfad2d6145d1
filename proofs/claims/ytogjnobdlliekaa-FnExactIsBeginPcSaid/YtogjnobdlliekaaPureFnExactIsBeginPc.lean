/- The program's IsBeginPc and the reference's return the same for every int: a plain statement about their printed Lean functions. No condition. -/
import Derived.Test.YtogjnobdlliekaaPFnExactIsBeginPcx1
namespace Go.Proofs.Ytogjnobdlliekaa.Pure
open Go.RowKit Go.Proofs.Ytogjnobdlliekaa.PFnExactIsBeginPc Go.Proofs.YtogjnobdlliekaaW.PrintWords Go.Proofs.YtogjnobdlliekaaW.PrintLast

/-- YOURS: ∀ (a0 : Int), (Lit.int .i64 a0).wf = true → laws_FnExactIsBeginPc.f a0 = some true
What it reaches (each with k first where it has rounds; `.mono`: more rounds tell the same; `.l0`, ..: its loops, with `.mono_l`): spec_l1In.f, spec_IsBeginPc.f, impl_in.f, impl_IsBeginPc.f, laws_FnExactIsBeginPc.f -/
theorem FnExactIsBeginPc : laws_FnExactIsBeginPc.Pure := by
  intro a0 _
  have e : spec_IsBeginPc.f a0 = impl_IsBeginPc.f a0 := rfl
  unfold laws_FnExactIsBeginPc.f
  rw [e]
  have : ∃ b, impl_IsBeginPc.f a0 = some b := by
    unfold impl_IsBeginPc.f impl_in.f
    repeat' split
    all_goals simp
  obtain ⟨b, hb⟩ := this
  rw [hb]
  simp

end Go.Proofs.Ytogjnobdlliekaa.Pure
