/- The program's SumText answers what the reference's answers, for every text. -/
import Derived.Test.YtmmepphohdnlmaaPFnExactSumTextx1
namespace Go.Proofs.Ytmmepphohdnlmaa.Pure
open Go.RowKit Go.Proofs.Ytmmepphohdnlmaa.PFnExactSumText Go.Proofs.YtmmepphohdnlmaaW.PrintWords Go.Proofs.YtmmepphohdnlmaaW.PrintLast

set_option linter.unusedSimpArgs false

theorem sum_same : ∀ k, (∀ x0 x1 x5, impl_SumMore.l0 k x0 x1 x5 = spec_SumMore.l0 k x0 x1 x5) ∧ (∀ x0 x1 x5 x6, impl_SumMore.l1 k x0 x1 x5 x6 = spec_SumMore.l1 k x0 x1 x5 x6)
  | 0 => ⟨fun _ _ _ => by simp only [impl_SumMore.l0, spec_SumMore.l0], fun _ _ _ _ => by simp only [impl_SumMore.l1, spec_SumMore.l1]⟩
  | k + 1 => by
    obtain ⟨h0, h1⟩ := sum_same k
    exact ⟨fun _ _ _ => by simp only [impl_SumMore.l0, spec_SumMore.l0, h1], fun _ _ _ _ => by simp only [impl_SumMore.l1, spec_SumMore.l1, h0, h1]⟩

/-- The eight rounds at one byte come to the loop over the bytes. -/
theorem sum_byte (t : ByteArray) (i : Int) : ∀ (d k : Nat) (s x : Int), 0 ≤ x → (8 : Int) - x = d → ∃ s', spec_SumMore.l1 (k + d + 1) s t i x = spec_SumMore.l0 k s' t (wrap64 (i + 1)) := by
  intro d
  induction d with
  | zero =>
    intro k s x h0 h1
    refine ⟨s, ?_⟩
    simp only [spec_SumMore.l1, Nat.add_zero]
    rw [if_neg (by omega)]
  | succ d ih =>
    intro k s x h0 h1
    have hw : wrap64 (x + 1) = x + 1 := by unfold wrap64; omega
    rw [show k + (d + 1) + 1 = (k + d + 1) + 1 from by omega]
    simp only [spec_SumMore.l1, hw]
    rw [if_pos (by omega)]
    by_cases c : Int.tmod s 2 = 1
    · rw [if_pos c]
      exact ih k _ (x + 1) (by omega) (by omega)
    · rw [if_neg c]
      exact ih k _ (x + 1) (by omega) (by omega)

theorem sum_ends (t : ByteArray) (ht : t.size ≤ 1048576) : ∀ (d : Nat) (s i : Int), 0 ≤ i → (t.size : Int) - i = d → ∃ k r, spec_SumMore.l0 k s t i = some r := by
  intro d
  induction d with
  | zero =>
    intro s i h0 h1
    refine ⟨1, s, ?_⟩
    simp only [spec_SumMore.l0]
    rw [if_neg (by omega)]
  | succ d ih =>
    intro s i h0 h1
    have hw : wrap64 (i + 1) = i + 1 := by unfold wrap64; omega
    obtain ⟨k0, hk0⟩ : ∃ k0 : Nat, k0 = 0 := ⟨0, rfl⟩
    have hb := fun k => sum_byte t i 8 k (Go.bits .xor .u32 s ((bt t i) % 4294967296)) 0 (by omega) (by omega)
    -- the sum behind this byte is the same for every number of rounds: it is taken from the first
    have key : ∀ (d' k : Nat) (s x : Int), 0 ≤ x → (8 : Int) - x = d' → ∃ s', ∀ k, spec_SumMore.l1 (k + d' + 1) s t i x = spec_SumMore.l0 k s' t (wrap64 (i + 1)) := by
      intro d'
      induction d' with
      | zero =>
        intro _ s x h0 h1
        refine ⟨s, fun k => ?_⟩
        simp only [spec_SumMore.l1, Nat.add_zero]
        rw [if_neg (by omega)]
      | succ d' ih' =>
        intro k0 s x h0 h1
        have hw : wrap64 (x + 1) = x + 1 := by unfold wrap64; omega
        by_cases c : Int.tmod s 2 = 1
        · obtain ⟨s', hs⟩ := ih' k0 (Go.bits .xor .u32 ((Int.tdiv s 2) % 4294967296) 3558460437) (x + 1) (by omega) (by omega)
          refine ⟨s', fun k => ?_⟩
          rw [show k + (d' + 1) + 1 = (k + d' + 1) + 1 from by omega]
          simp only [spec_SumMore.l1, hw]
          rw [if_pos (by omega), if_pos c]
          exact hs k
        · obtain ⟨s', hs⟩ := ih' k0 ((Int.tdiv s 2) % 4294967296) (x + 1) (by omega) (by omega)
          refine ⟨s', fun k => ?_⟩
          rw [show k + (d' + 1) + 1 = (k + d' + 1) + 1 from by omega]
          simp only [spec_SumMore.l1, hw]
          rw [if_pos (by omega), if_neg c]
          exact hs k
    obtain ⟨s', hs⟩ := key 8 0 (Go.bits .xor .u32 s ((bt t i) % 4294967296)) 0 (by omega) (by omega)
    obtain ⟨k, r, hr⟩ := ih s' (i + 1) (by omega) (by omega)
    refine ⟨k + 8 + 1 + 1, r, ?_⟩
    rw [spec_SumMore.l0, if_pos (by omega), if_pos h0, hs k, hw]
    exact hr

theorem FnExactSumText : laws_FnExactSumText.Pure := by
  intro t _
  by_cases h : (t.size : Int) > 1048576
  · exact ⟨0, by unfold laws_FnExactSumText.f; rw [if_pos h]⟩
  · obtain ⟨k, r, hr⟩ := sum_ends t (by omega) t.size 4294967295 0 (by omega) (by omega)
    refine ⟨k, ?_⟩
    unfold laws_FnExactSumText.f spec_SumText.f impl_SumText.f spec_SumOf.f impl_SumOf.f spec_SumMore.f impl_SumMore.f
    rw [if_neg h, (sum_same k).1, hr]
    simp

end Go.Proofs.Ytmmepphohdnlmaa.Pure
