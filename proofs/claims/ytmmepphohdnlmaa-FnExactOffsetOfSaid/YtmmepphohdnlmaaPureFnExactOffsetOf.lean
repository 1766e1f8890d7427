/- The program's OffsetOf answers what the reference's answers, for all whole numbers. -/
import Derived.Test.YtmmepphohdnlmaaPFnExactOffsetOfx1
namespace Go.Proofs.Ytmmepphohdnlmaa.Pure
open Go.RowKit Go.Proofs.Ytmmepphohdnlmaa.PFnExactOffsetOf Go.Proofs.YtmmepphohdnlmaaW.PrintWords Go.Proofs.YtmmepphohdnlmaaW.PrintLast

theorem offset_within (a b c : Int) : spec_l01In.f a b c = impl_within.f a b c := rfl
theorem offset_in_some (a b c : Int) : ∃ t, impl_within.f a b c = some t := by unfold impl_within.f; split <;> exact ⟨_, rfl⟩
theorem offset_schema (s : Int) : ∃ a b c, spec_SchemaOf.f s = some (a, b, c) ∧ impl_SchemaOf.f s = some (a, b, c) := by
  unfold spec_SchemaOf.f impl_SchemaOf.f
  by_cases h1 : s = 1
  · exact ⟨2, 1, true, by simp [h1], by simp [h1]⟩
  · by_cases h2 : s = 2
    · exact ⟨3, 2, true, by simp [h2], by simp [h2]⟩
    · by_cases h3 : s = 3
      · exact ⟨4, 2, true, by simp [h3], by simp [h3]⟩
      · exact ⟨0, 0, false, by simp [h1, h2, h3], by simp [h1, h2, h3]⟩

theorem FnExactOffsetOf : laws_FnExactOffsetOf.Pure := by
  intro s g u n _ _ _ _
  refine ⟨1, ?_⟩
  obtain ⟨a, b, c, e1, e2⟩ := offset_schema s
  have hj : ∀ t, ∃ r, spec_OffsetOf.j0 1 s g u n a t = some r ∧ impl_OffsetOf.j0 1 s g u n a t = some r := by
    intro t
    simp only [spec_OffsetOf.j0, impl_OffsetOf.j0, spec_GroupSize.f, impl_GroupSize.f, e1, e2, Option.bind_some]
    cases t with
    | true => exact ⟨-1, by simp, by simp⟩
    | false =>
      simp only [Bool.false_eq_true, if_false]
      split <;> exact ⟨_, rfl, rfl⟩
  have key : ∃ r, spec_OffsetOf.f 1 s g u n = some r ∧ impl_OffsetOf.f 1 s g u n = some r := by
    unfold spec_OffsetOf.f impl_OffsetOf.f
    simp only [e1, e2, Option.bind_some, offset_within]
    obtain ⟨t1, h1⟩ := offset_in_some g 0 100000
    obtain ⟨t2, h2⟩ := offset_in_some u 0 (wrap64 (a - 1))
    obtain ⟨t3, h3⟩ := offset_in_some n 0 7
    simp only [h1, h2, h3, Option.bind_some]
    cases c <;> cases t1 <;> cases t2 <;> simp only [Bool.false_eq_true, if_false, if_true] <;> exact hj _
  obtain ⟨r, e3, e4⟩ := key
  unfold laws_FnExactOffsetOf.f
  rw [e3, e4]
  simp

end Go.Proofs.Ytmmepphohdnlmaa.Pure
