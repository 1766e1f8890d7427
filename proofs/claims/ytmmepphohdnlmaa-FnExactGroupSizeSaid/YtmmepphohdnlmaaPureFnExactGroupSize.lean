/- The program's GroupSize answers what the reference's answers, for every whole number. -/
import Derived.Test.YtmmepphohdnlmaaPFnExactGroupSizex1
namespace Go.Proofs.Ytmmepphohdnlmaa.Pure
open Go.RowKit Go.Proofs.Ytmmepphohdnlmaa.PFnExactGroupSize Go.Proofs.YtmmepphohdnlmaaW.PrintWords Go.Proofs.YtmmepphohdnlmaaW.PrintLast

theorem FnExactGroupSize : laws_FnExactGroupSize.Pure := by
  intro a0 _
  unfold laws_FnExactGroupSize.f spec_GroupSize.f impl_GroupSize.f spec_SchemaOf.f impl_SchemaOf.f
  by_cases h1 : a0 = 1
  · simp [h1]
  · by_cases h2 : a0 = 2
    · simp [h2]
    · by_cases h3 : a0 = 3
      · simp [h3]
      · simp [h1, h2, h3]

end Go.Proofs.Ytmmepphohdnlmaa.Pure
