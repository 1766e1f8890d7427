/- The program's PlaceOf answers what the reference's answers, for all whole numbers. -/
import Derived.Test.YtmmepphohdnlmaaOPlaceOf1
namespace Go.Proofs.Ytmmepphohdnlmaa.Pure
open Go.RowKit Go.Proofs.Ytmmepphohdnlmaa.OPlaceOf Go.Proofs.YtmmepphohdnlmaaW.PrintWords Go.Proofs.YtmmepphohdnlmaaW.PrintLast

theorem place_schema (s : Int) : ∃ a b c, spec_SchemaOf.f s = some (a, b, c) ∧ impl_SchemaOf.f s = some (a, b, c) ∧ (c = true → a = 2 ∨ a = 3 ∨ a = 4) := by
  unfold spec_SchemaOf.f impl_SchemaOf.f
  by_cases h1 : s = 1
  · exact ⟨2, 1, true, by simp [h1], by simp [h1], by simp⟩
  · by_cases h2 : s = 2
    · exact ⟨3, 2, true, by simp [h2], by simp [h2], by simp⟩
    · by_cases h3 : s = 3
      · exact ⟨4, 2, true, by simp [h3], by simp [h3], by simp⟩
      · exact ⟨0, 0, false, by simp [h1, h2, h3], by simp [h1, h2, h3], by simp⟩

theorem FnExactPlaceOf : laws_FnExactPlaceOf.Pure := by
  intro s n _ _
  refine ⟨1, ?_⟩
  obtain ⟨a, b, c, e1, e2, hc⟩ := place_schema s
  have key : ∃ r, spec_PlaceOf.f s n = some r ∧ impl_PlaceOf.f 1 s n = some r := by
    unfold spec_PlaceOf.f impl_PlaceOf.f
    simp only [impl_PlaceOf.j0, spec_GroupSize.f, impl_GroupSize.f, e1, e2, Option.bind_some, spec_l01In.f, impl_within.f]
    cases c with
    | false => exact ⟨(0, 0, 0), by simp, by simp⟩
    | true =>
      by_cases h : n ≥ 0
      · by_cases h' : n ≤ 100000
        · rcases hc rfl with rfl | rfl | rfl <;> simp [h, h', wrap64]
        · exact ⟨(0, 0, 0), by simp [h, h'], by simp [h, h']⟩
      · exact ⟨(0, 0, 0), by simp [h], by simp [h]⟩
  obtain ⟨r, e1, e2⟩ := key
  unfold laws_FnExactPlaceOf.f
  rw [e1, e2]
  simp

end Go.Proofs.Ytmmepphohdnlmaa.Pure
