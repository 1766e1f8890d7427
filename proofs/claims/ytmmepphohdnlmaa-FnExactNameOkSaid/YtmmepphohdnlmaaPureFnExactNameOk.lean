/- The program's NameOk answers what the reference's answers, for every text. -/
import Derived.Test.YtmmepphohdnlmaaPFnExactNameOkx1
namespace Go.Proofs.Ytmmepphohdnlmaa.Pure
open Go.RowKit Go.Proofs.Ytmmepphohdnlmaa.PFnExactNameOk Go.Proofs.YtmmepphohdnlmaaW.PrintWords Go.Proofs.YtmmepphohdnlmaaW.PrintLast

set_option linter.unusedSimpArgs false

theorem nameOk_in (a b c : Int) : impl_within.f a b c = spec_l01In.f a b c := rfl

theorem nameOk_loop (s : ByteArray) (hs : s.size ≤ 1048576) : ∀ (d k : Nat) (i : Int), 0 ≤ i → (s.size : Int) - i = d → d < k →
    ∃ r, spec_NameOk.l0 k s i = some r ∧ impl_NameOk.l0 k s i = some r := by
  intro d
  induction d with
  | zero =>
    intro k i h0 h1 hk
    obtain ⟨k, rfl⟩ : ∃ m, k = m + 1 := ⟨k - 1, by omega⟩
    have hn : ¬ i < (s.size : Int) := by omega
    simp only [spec_NameOk.l0, impl_NameOk.l0]
    rw [if_neg hn]
    unfold spec_l01In.f impl_within.f
    by_cases h : (s.size : Int) ≥ 1
    · exact ⟨decide ((s.size : Int) ≤ 8), by simp [h], by rw [if_neg hn]; simp [h]⟩
    · exact ⟨false, by simp [h], by rw [if_neg hn]; simp [h]⟩
  | succ d ih =>
    intro k i h0 h1 hk
    obtain ⟨k, rfl⟩ : ∃ m, k = m + 1 := ⟨k - 1, by omega⟩
    have hp : i < (s.size : Int) := by omega
    have hw : wrap64 (i + 1) = i + 1 := by unfold wrap64; omega
    obtain ⟨r, e1, e2⟩ := ih k (i + 1) (by omega) (by omega) (by omega)
    simp only [spec_NameOk.l0, impl_NameOk.l0, hw, e1, e2]
    simp only [if_pos hp, if_pos h0]
    by_cases c1 : bt s i < 97 <;> by_cases c2 : bt s i < 48 <;> by_cases c3 : bt s i > 57 <;> by_cases c4 : bt s i > 122 <;> simp [c1, c2, c3, c4]

theorem FnExactNameOk : laws_FnExactNameOk.Pure := by
  intro s _
  refine ⟨s.size + 1, ?_⟩
  unfold laws_FnExactNameOk.f
  by_cases h : (s.size : Int) > 1048576
  · rw [if_pos h]
  · rw [if_neg h]
    obtain ⟨r, e1, e2⟩ := nameOk_loop s (by omega) s.size (s.size + 1) 0 (by omega) (by omega) (by omega)
    unfold spec_NameOk.f impl_NameOk.f
    rw [e1, e2]
    simp

end Go.Proofs.Ytmmepphohdnlmaa.Pure
