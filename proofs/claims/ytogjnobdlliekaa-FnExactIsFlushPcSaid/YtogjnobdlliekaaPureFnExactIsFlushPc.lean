/- The program's IsFlushPc and the reference's return the same for every int: a plain statement about their printed Lean functions. No condition. -/
import Derived.Test.YtogjnobdlliekaaPFnExactIsFlushPcx1
namespace Go.Proofs.Ytogjnobdlliekaa.Pure
open Go.RowKit Go.Proofs.Ytogjnobdlliekaa.PFnExactIsFlushPc Go.Proofs.YtogjnobdlliekaaW.PrintWords Go.Proofs.YtogjnobdlliekaaW.PrintLast

/-- YOURS: ∀ (a0 : Int), (Lit.int .i64 a0).wf = true → laws_FnExactIsFlushPc.f a0 = some true
What it reaches (each with k first where it has rounds; `.mono`: more rounds tell the same; `.l0`, ..: its loops, with `.mono_l`): spec_l1In.f, spec_IsFlushPc.f, impl_in.f, impl_IsFlushPc.f, laws_FnExactIsFlushPc.f -/
theorem FnExactIsFlushPc : laws_FnExactIsFlushPc.Pure := by
  intro a0 _
  have e : spec_IsFlushPc.f a0 = impl_IsFlushPc.f a0 := rfl
  unfold laws_FnExactIsFlushPc.f
  rw [e]
  have : ∃ b, impl_IsFlushPc.f a0 = some b := by
    unfold impl_IsFlushPc.f impl_in.f
    repeat' split
    all_goals simp
  obtain ⟨b, hb⟩ := this
  rw [hb]
  simp

end Go.Proofs.Ytogjnobdlliekaa.Pure
