/- The program's Spans answers what the reference's answers, for all whole numbers, in memory of its own. -/
import Derived.Test.YtmmepphohdnlmaaPFnExactSpansx2
namespace Go.Proofs.Ytmmepphohdnlmaa.Pure
open Go.RowKit Go.Proofs.Ytmmepphohdnlmaa.PFnExactSpans Go.Proofs.YtmmepphohdnlmaaW.PrintWords Go.Proofs.YtmmepphohdnlmaaW.PrintLast Go.Proofs.YtmmepphohdnlmaaW.PrintMore

set_option linter.unusedSimpArgs false

theorem ints_eq (xs : List Int) (hx : xs.length ≤ 1048576) : ∀ (d k : Nat) (i : Int), 0 ≤ i → (xs.length : Int) - i = d → d < k → laws_eqIntS.l0 k xs xs i = some true := by
  intro d
  induction d with
  | zero =>
    intro k i h0 h1 hk
    obtain ⟨k, rfl⟩ : ∃ m, k = m + 1 := ⟨k - 1, by omega⟩
    simp only [laws_eqIntS.l0]
    rw [if_neg (by omega)]
  | succ d ih =>
    intro k i h0 h1 hk
    obtain ⟨k, rfl⟩ : ∃ m, k = m + 1 := ⟨k - 1, by omega⟩
    have hw : wrap64 (i + 1) = i + 1 := by unfold wrap64; omega
    have hp : i < (xs.length : Int) := by omega
    simp only [laws_eqIntS.l0, hw]
    rw [if_pos hp, if_pos h0]
    simp only [hp, if_true]
    exact ih k (i + 1) (by omega) (by omega) (by omega)

theorem ints_mark : ∀ (d k : Nat) (xs : List Int) (m i : Int), xs.length ≤ 1048576 → 0 ≤ i → 0 ≤ m → m ≤ 1048576 + i → (xs.length : Int) - i = d → d < k →
    ∃ ys, laws_markIntS.l0 k xs m i = some (m + d, ys) ∧ ys.length = xs.length ∧ (∀ j : Int, 0 ≤ j → j < i → rd ys j = rd xs j) ∧ ∀ j : Int, i ≤ j → j < xs.length → rd ys j = m + (j - i) := by
  intro d
  induction d with
  | zero =>
    intro k xs m i hx h0 _ _ h1 hk
    obtain ⟨k, rfl⟩ : ∃ m, k = m + 1 := ⟨k - 1, by omega⟩
    refine ⟨xs, ?_, rfl, fun _ _ _ => rfl, fun j _ _ => by omega⟩
    simp only [laws_markIntS.l0]
    rw [if_neg (by omega)]
    simp
  | succ d ih =>
    intro k xs m i hx h0 hm0 hm h1 hk
    obtain ⟨k, rfl⟩ : ∃ m, k = m + 1 := ⟨k - 1, by omega⟩
    have hw : wrap64 (i + 1) = i + 1 := by unfold wrap64; omega
    have hwm : wrap64 (m + 1) = m + 1 := by unfold wrap64; omega
    have hp : i < (xs.length : Int) := by omega
    obtain ⟨ys, e, hl, ha, hb⟩ := ih k (xs.set i.toNat m) (m + 1) (i + 1) (by simpa using hx) (by omega) (by omega) (by omega) (by simp; omega) (by omega)
    rw [List.length_set] at hl hb
    refine ⟨ys, ?_, hl, fun j hj0 hj => ?_, fun j hj0 hj => ?_⟩
    · simp only [laws_markIntS.l0, hw, hwm]
      rw [if_pos hp, if_pos h0, e]
      congr 2
      push_cast
      omega
    · rw [ha j hj0 (by omega)]
      unfold rd
      rw [List.getD_eq_getElem?_getD, List.getD_eq_getElem?_getD, List.getElem?_set_ne (by omega)]
    · by_cases he : j = i
      · subst he
        rw [ha j h0 (by omega)]
        unfold rd
        rw [List.getD_eq_getElem?_getD, List.getElem?_set_self (by omega)]
        simp
      · rw [hb j (by omega) hj]
        omega

theorem ints_held (ys : List Int) (hy : ys.length ≤ 1048576) : ∀ (d k : Nat) (m i : Int), 0 ≤ i → 0 ≤ m → m ≤ 1048576 + i → (ys.length : Int) - i = d → d < k → (∀ j : Int, i ≤ j → j < ys.length → rd ys j = m + (j - i)) →
    laws_heldIntS.l0 k ys m i = some (m + d) := by
  intro d
  induction d with
  | zero =>
    intro k m i h0 _ _ h1 hk _
    obtain ⟨k, rfl⟩ : ∃ m, k = m + 1 := ⟨k - 1, by omega⟩
    simp only [laws_heldIntS.l0]
    rw [if_neg (by omega)]
    simp
  | succ d ih =>
    intro k m i h0 hm0 hm h1 hk hall
    obtain ⟨k, rfl⟩ : ∃ m, k = m + 1 := ⟨k - 1, by omega⟩
    have hw : wrap64 (i + 1) = i + 1 := by unfold wrap64; omega
    have hwm : wrap64 (m + 1) = m + 1 := by unfold wrap64; omega
    have hp : i < (ys.length : Int) := by omega
    have he : rd ys i = m := by have := hall i (by omega) hp; omega
    simp only [laws_heldIntS.l0, hw, hwm]
    rw [if_pos hp, if_pos h0, if_pos he, ih k (m + 1) (i + 1) (by omega) (by omega) (by omega) (by omega) (by omega) (fun j hj hj' => by have := hall j (by omega) hj'; omega)]
    congr 1
    push_cast
    omega

theorem spans_loop (size : Int) (hs : 16 ≤ size) (hs' : size ≤ 32) : ∀ (d k : Nat) (acc : List Int) (n : Int), 1 ≤ n → n ≤ d → n ≤ 1000 → d + 1 < k → acc.length + d ≤ 2000 →
    ∃ r, spec_Spans.l0 k n acc size = some r ∧ impl_Spans.l0 k size acc n = some r ∧ r.length ≤ 2001 := by
  intro d
  induction d with
  | zero => intro k acc n h1 h2; omega
  | succ d ih =>
    intro k acc n h1 h2 h3 hk hl
    obtain ⟨k, rfl⟩ : ∃ m, k = m + 1 := ⟨k - 1, by omega⟩
    have hw : wrap64 (n - size) = n - size := by unfold wrap64; omega
    by_cases c : n > size
    · obtain ⟨r, e1, e2, e3⟩ := ih k (acc ++ [size]) (n - size) (by omega) (by omega) (by omega) (by omega) (by simp; omega)
      refine ⟨r, ?_, ?_, e3⟩
      · simp only [spec_Spans.l0, hw]
        rw [if_pos c, if_pos (by omega), e1]
      · have hm : mn n size = size := by unfold mn; rw [if_pos (by omega)]
        simp only [impl_Spans.l0, hw, hm]
        rw [if_pos (by omega), if_pos (by omega), e2]
    · refine ⟨acc ++ [n], ?_, ?_, by simp; omega⟩
      · simp only [spec_Spans.l0]
        rw [if_neg c, if_pos (by omega)]
      · have hm : mn n size = n := by unfold mn; rw [if_neg (by omega)]
        obtain ⟨k, rfl⟩ : ∃ m, k = m + 1 := ⟨k - 1, by omega⟩
        simp only [impl_Spans.l0, hw, hm]
        rw [if_pos (by omega), if_pos (by omega), if_neg (by omega)]

theorem spans_size (s : Int) : ∃ t, spec_GroupSize.f s = some t ∧ impl_GroupSize.f s = some t ∧ (t = 0 ∨ (16 ≤ t ∧ t ≤ 32)) := by
  unfold spec_GroupSize.f impl_GroupSize.f spec_SchemaOf.f impl_SchemaOf.f
  by_cases h1 : s = 1
  · exact ⟨16, by simp [h1, wrap64], by simp [h1, wrap64], by omega⟩
  · by_cases h2 : s = 2
    · exact ⟨24, by simp [h2, wrap64], by simp [h2, wrap64], by omega⟩
    · by_cases h3 : s = 3
      · exact ⟨32, by simp [h3, wrap64], by simp [h3, wrap64], by omega⟩
      · exact ⟨0, by simp [h1, h2, h3, wrap64], by simp [h1, h2, h3, wrap64], by omega⟩

theorem spans_both (s n : Int) (k : Nat) (hk : 1010 < k) : ∃ r, spec_Spans.f k s n = some r ∧ impl_Spans.f k s n = some r ∧ r.length ≤ 2001 := by
  obtain ⟨t, e1, e2, ht⟩ := spans_size s
  obtain ⟨k, rfl⟩ : ∃ m, k = m + 1 := ⟨k - 1, by omega⟩
  unfold spec_Spans.f impl_Spans.f
  simp only [e1, e2, Option.bind_some]
  rcases ht with rfl | ht
  · refine ⟨[], ?_, ?_, by simp⟩
    · rw [if_pos rfl]
      simp only [spec_Spans.j0]
      simp
    · rw [if_pos rfl]
      simp only [impl_Spans.j0]
      simp
  · rw [if_neg (by omega), if_neg (by omega)]
    unfold spec_l01In.f impl_within.f
    by_cases h0 : 1 ≤ n
    · by_cases h1 : n ≤ 1000
      · obtain ⟨r, e3, e4, e5⟩ := spans_loop t ht.1 ht.2 n.toNat k [] n h0 (by omega) h1 (by omega) (by simp; omega)
        refine ⟨r, ?_, ?_, e5⟩
        · rw [if_pos (by omega)]
          simp only [Option.bind_some, spec_Spans.j0, h1, decide_true, Bool.not_true, Bool.false_eq_true, if_false, e3]
        · rw [if_pos (by omega)]
          simp only [Option.bind_some, impl_Spans.j0, h1, decide_true, Bool.not_true, Bool.false_eq_true, if_false, e4]
      · refine ⟨[], ?_, ?_, by simp⟩
        · rw [if_pos (by omega)]
          simp [spec_Spans.j0, h1]
        · rw [if_pos (by omega)]
          simp [impl_Spans.j0, h1]
    · refine ⟨[], ?_, ?_, by simp⟩
      · rw [if_neg (by omega)]
        simp [spec_Spans.j0]
      · by_cases h2 : n ≥ 0
        · rw [if_pos h2]
          have h3 : n ≤ 1000 := by omega
          obtain ⟨k, rfl⟩ : ∃ m, k = m + 1 := ⟨k - 1, by omega⟩
          simp only [Option.bind_some, impl_Spans.j0, h3, decide_true, Bool.not_true, Bool.false_eq_true, if_false, impl_Spans.l0]
          rw [if_neg (by omega)]
        · rw [if_neg h2]
          simp [impl_Spans.j0]

theorem FnExactSpans : laws_FnExactSpans.Pure := by
  intro s n _ _
  refine ⟨4000, ?_⟩
  obtain ⟨r, e1, e2, hl⟩ := spans_both s n 4000 (by omega)
  have e3 : laws_eqIntS.f 4000 r r = some true := by
    unfold laws_eqIntS.f
    rw [if_pos rfl]
    exact ints_eq r (by omega) r.length 4000 0 (by omega) (by omega) (by omega)
  obtain ⟨ys, e4, hy, _, hall⟩ := ints_mark r.length 4000 r 1 0 (by omega) (by omega) (by omega) (by omega) (by omega) (by omega)
  have e5 : laws_heldIntS.f 4000 ys 1 = some (1 + (r.length : Int)) := by
    unfold laws_heldIntS.f
    exact ints_held ys (by omega) r.length 4000 1 0 (by omega) (by omega) (by omega) (by omega) (by omega) (fun j hj hj' => hall j hj (by omega))
  have e4' : laws_markIntS.f 4000 r 1 = some (1 + (r.length : Int), ys) := e4
  unfold laws_FnExactSpans.f
  have hn : ¬ 1 + (r.length : Int) < 0 := by omega
  simp only [e1, e2, e3, e4', e5, Option.bind_some, if_true, if_neg hn]

end Go.Proofs.Ytmmepphohdnlmaa.Pure
