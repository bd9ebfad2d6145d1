/- The program's IsWritePc and the reference's return the same for every int: a plain statement about their printed Lean functions. No condition. -/
import Derived.Test.YtogjnobdlliekaaPFnExactIsWritePcx1
namespace Go.Proofs.Ytogjnobdlliekaa.Pure
open Go.RowKit Go.Proofs.Ytogjnobdlliekaa.PFnExactIsWritePc Go.Proofs.YtogjnobdlliekaaW.PrintWords Go.Proofs.YtogjnobdlliekaaW.PrintLast

/-- YOURS: ∀ (a0 : Int), (Lit.int .i64 a0).wf = true → laws_FnExactIsWritePc.f a0 = some true
What it reaches (each with k first where it has rounds; `.mono`: more rounds tell the same; `.l0`, ..: its loops, with `.mono_l`): spec_l1In.f, spec_IsWritePc.f, impl_in.f, impl_IsWritePc.f, laws_FnExactIsWritePc.f -/
theorem FnExactIsWritePc : laws_FnExactIsWritePc.Pure := by
  intro a0 _
  have e : spec_IsWritePc.f a0 = impl_IsWritePc.f a0 := rfl
  unfold laws_FnExactIsWritePc.f
  rw [e]
  have : ∃ b, impl_IsWritePc.f a0 = some b := by
    unfold impl_IsWritePc.f impl_in.f
    repeat' split
    all_goals simp
  obtain ⟨b, hb⟩ := this
  rw [hb]
  simp

end Go.Proofs.Ytogjnobdlliekaa.Pure
