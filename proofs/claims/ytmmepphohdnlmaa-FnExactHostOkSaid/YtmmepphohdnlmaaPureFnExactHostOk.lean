/- The program's HostOk answers what the reference's answers, for every host. -/
import Derived.Test.YtmmepphohdnlmaaPFnExactHostOkx6
namespace Go.Proofs.Ytmmepphohdnlmaa.Pure
open Go.RowKit Go.Proofs.Ytmmepphohdnlmaa.PFnExactHostOk Go.Proofs.YtmmepphohdnlmaaW.PrintWords Go.Proofs.YtmmepphohdnlmaaW.PrintLast Go.Proofs.YtmmepphohdnlmaaW.PrintMore
set_option linter.unusedSimpArgs false
set_option linter.unusedVariables false

theorem h_w64 {x : Int} (h0 : -9223372036854775808 ≤ x) (h1 : x ≤ 9223372036854775807) : wrap64 x = x := by unfold wrap64; omega

theorem h_sz_loop (l : List S81) (hl : l.length ≤ 1048576) (hs : ∀ x ∈ l, x.f2.size ≤ maxLen) : ∀ (d k : Nat) (left i : Int), 0 ≤ i → 0 ≤ left → left ≤ 1048576 → (l.length : Int) - i = d → d < k →
    ∃ r, laws_szUnitS.l0 k l left i = some r ∧ r ≤ 1048576 ∧ (0 ≤ r → ∀ j : Nat, i ≤ (j : Int) → ∀ x, l[j]? = some x → x.f2.size ≤ 1048576) := by
  intro d
  induction d with
  | zero =>
    intro k left i h0 h1 h2 hd hk
    obtain ⟨k, rfl⟩ : ∃ m, k = m + 1 := ⟨k - 1, by omega⟩
    refine ⟨left, ?_, h2, fun _ j hj x hx => ?_⟩
    · simp only [laws_szUnitS.l0]
      rw [if_neg (by omega)]
    · have := (List.getElem?_eq_some_iff.1 hx).1
      omega
  | succ d ih =>
    intro k left i h0 h1 h2 hd hk
    obtain ⟨k, rfl⟩ : ∃ m, k = m + 1 := ⟨k - 1, by omega⟩
    have hw : wrap64 (i + 1) = i + 1 := h_w64 (by omega) (by omega)
    have hi : i.toNat < l.length := by omega
    have he : rd_T81 l i = l[i.toNat] := by
      unfold rd_T81
      rw [List.getD_eq_getElem?_getD, List.getElem?_eq_getElem hi]
      rfl
    have hsz := hs _ (List.getElem_mem hi)
    rw [← he] at hsz
    unfold maxLen at hsz
    have hw2 : wrap64 (left - ((rd_T81 l i).f2.size : Int)) = left - ((rd_T81 l i).f2.size : Int) := h_w64 (by omega) (by omega)
    simp only [laws_szUnitS.l0, hw, laws_szUnit.f, hw2]
    rw [if_pos (by omega), if_pos h0]
    by_cases c : left - ((rd_T81 l i).f2.size : Int) < 0
    · rw [if_pos c]
      refine ⟨-1, by simp, by omega, fun h => by omega⟩
    · rw [if_neg c]
      simp only [Option.bind_some]
      rw [if_neg c]
      obtain ⟨r, e, e2, e3⟩ := ih k (left - ((rd_T81 l i).f2.size : Int)) (i + 1) (by omega) (by omega) (by omega) (by omega) (by omega)
      refine ⟨r, e, e2, fun hr j hj x hx => ?_⟩
      by_cases hji : (j : Int) = i
      · have : j = i.toNat := by omega
        subst this
        rw [List.getElem?_eq_getElem hi] at hx
        injection hx with hx
        rw [← hx, ← he]
        omega
      · exact e3 hr j (by omega) x hx

theorem h_sz (a : Int) (b : Bool) (l : List S81) (hl : l.length ≤ maxLen) (hs : ∀ x ∈ l, x.f2.size ≤ maxLen) (k : Nat) (hk : 1048577 < k) :
    ∃ r, laws_szHost.f k a b l 1048576 = some r ∧ (0 ≤ r → l.length ≤ 1048576 ∧ ∀ x ∈ l, x.f2.size ≤ 1048576) := by
  unfold maxLen at hl
  have hw : wrap64 (1048576 - (l.length : Int)) = 1048576 - (l.length : Int) := h_w64 (by omega) (by omega)
  unfold laws_szHost.f laws_szUnitS.f
  rw [hw]
  by_cases c : 1048576 - (l.length : Int) < 0
  · rw [if_pos c]
    exact ⟨-1, by simp, fun h => by omega⟩
  · rw [if_neg c]
    obtain ⟨r, e, e2, e3⟩ := h_sz_loop l (by omega) hs l.length k (1048576 - (l.length : Int)) 0 (by omega) (by omega) (by omega) (by omega) (by omega)
    rw [e]
    simp only [Option.bind_some]
    by_cases c2 : r < 0
    · rw [if_pos c2]
      exact ⟨-1, rfl, fun h => by omega⟩
    · rw [if_neg c2]
      refine ⟨r, rfl, fun h => ⟨by omega, fun x hx => ?_⟩⟩
      obtain ⟨j, hj, rfl⟩ := List.mem_iff_getElem.1 hx
      exact e3 h j (by omega) _ (List.getElem?_eq_getElem hj)

def h_conv (x : S81) : S76 := ⟨x.f0, x.f1, x.f2, x.f3⟩

theorem h_to_loop (l : List S81) (hl : l.length ≤ 1048576) : ∀ (d k : Nat) (acc : List S76) (i : Int), 0 ≤ i → (l.length : Int) - i = d → d < k → acc.length = l.length → (∀ j : Nat, (j : Int) < i → acc[j]? = (l.map h_conv)[j]?) →
    laws_toUnitS.l0 k l acc i = some (l.map h_conv) := by
  intro d
  induction d with
  | zero =>
    intro k acc i h0 hd hk ha hall
    obtain ⟨k, rfl⟩ : ∃ m, k = m + 1 := ⟨k - 1, by omega⟩
    simp only [laws_toUnitS.l0]
    rw [if_neg (by omega)]
    congr 1
    refine List.ext_getElem? fun j => ?_
    by_cases hj : j < l.length
    · exact hall j (by omega)
    · rw [List.getElem?_eq_none (by omega), List.getElem?_eq_none (by simp; omega)]
  | succ d ih =>
    intro k acc i h0 hd hk ha hall
    obtain ⟨k, rfl⟩ : ∃ m, k = m + 1 := ⟨k - 1, by omega⟩
    have hw : wrap64 (i + 1) = i + 1 := h_w64 (by omega) (by omega)
    have hi : i.toNat < l.length := by omega
    have he : rd_T81 l i = l[i.toNat] := by
      unfold rd_T81
      rw [List.getD_eq_getElem?_getD, List.getElem?_eq_getElem hi]
      rfl
    simp only [laws_toUnitS.l0, hw, laws_toUnit.f, Option.bind_some]
    rw [if_pos (by omega), if_pos h0, if_pos (by omega)]
    refine ih k _ (i + 1) (by omega) (by omega) (by omega) (by simpa using ha) (fun j hj => ?_)
    by_cases hji : j = i.toNat
    · subst hji
      rw [List.getElem?_set_self (by omega), List.getElem?_map, List.getElem?_eq_getElem hi, he]
      rfl
    · rw [List.getElem?_set_ne (fun h => hji h.symm)]
      exact hall j (by omega)

theorem h_to (a : Int) (b : Bool) (l : List S81) (hl : l.length ≤ 1048576) (k : Nat) (hk : 1048577 < k) : laws_toHost.f k a b l = some (a, b, l.map h_conv) := by
  unfold laws_toHost.f laws_toUnitS.f
  rw [if_pos (by omega), if_pos (by omega), h_to_loop l hl l.length k _ 0 (by omega) (by omega) (by omega) (by simp) (fun j hj => by omega)]
  rfl

theorem h_eq_loop (l : List S76) (hl : l.length ≤ 1048576) : ∀ (d k : Nat) (i : Int), 0 ≤ i → (l.length : Int) - i = d → d < k → laws_eqUnitS.l0 k l l i = some true := by
  intro d
  induction d with
  | zero =>
    intro k i h0 hd hk
    obtain ⟨k, rfl⟩ : ∃ m, k = m + 1 := ⟨k - 1, by omega⟩
    simp only [laws_eqUnitS.l0]
    rw [if_neg (by omega)]
  | succ d ih =>
    intro k i h0 hd hk
    obtain ⟨k, rfl⟩ : ∃ m, k = m + 1 := ⟨k - 1, by omega⟩
    have hw : wrap64 (i + 1) = i + 1 := h_w64 (by omega) (by omega)
    have hp : i < (l.length : Int) := by omega
    simp only [laws_eqUnitS.l0, hw, laws_eqUnit.f, if_pos hp, if_pos h0, if_true, Option.bind_some]
    exact ih k (i + 1) (by omega) (by omega) (by omega)

theorem h_eq (a : Int) (b : Bool) (l : List S76) (hl : l.length ≤ 1048576) (k : Nat) (hk : 1048577 < k) : laws_eqHost.f k a b l a b l = some true := by
  unfold laws_eqHost.f laws_eqUnitS.f
  rw [h_eq_loop l hl l.length k 0 (by omega) (by omega) (by omega)]
  simp

theorem ok_in (x y z : Int) : ∃ t, spec_l01In.f x y z = some t ∧ impl_within.f x y z = some t := by
  unfold spec_l01In.f impl_within.f
  split
  · exact ⟨_, rfl, rfl⟩
  · exact ⟨_, rfl, rfl⟩
theorem ok_less (a0 a1 : Int) (a2 : ByteArray) (a3 b0 b1 : Int) (b2 : ByteArray) (b3 : Int) : ∃ t, spec_l14Ahead.f a0 a1 a2 a3 b0 b1 b2 b3 = some t ∧ impl_unitLess.f a0 a1 a2 a3 b0 b1 b2 b3 = some t := by
  unfold spec_l14Ahead.f impl_unitLess.f
  split
  · exact ⟨_, rfl, rfl⟩
  · split
    · exact ⟨_, rfl, rfl⟩
    · exact ⟨_, rfl, rfl⟩
theorem ok_both (a : Int) (b : Bool) (l : List S76) (hl : l.length ≤ 1048576) : ∀ (d k : Nat) (i : Int), 0 ≤ i → (l.length : Int) - i = d → d < k →
    ∃ t, spec_HostOk.l0 k i a b l = some t ∧ impl_HostOk.l0 k l (l.length : Int) i a b l = some t := by
  intro d
  induction d with
  | zero =>
    intro k i h0 hd hk
    obtain ⟨k, rfl⟩ : ∃ m, k = m + 1 := ⟨k - 1, by omega⟩
    have hn : ¬ i < (l.length : Int) := by omega
    obtain ⟨t, e1, e2⟩ := ok_in a 1 7
    refine ⟨t, ?_, ?_⟩
    · simp only [spec_HostOk.l0, if_neg hn, e1, Option.bind_some]
    · simp only [impl_HostOk.l0, if_neg hn, e2, Option.bind_some]
  | succ d ih =>
    intro k i h0 hd hk
    obtain ⟨k, rfl⟩ : ∃ m, k = m + 1 := ⟨k - 1, by omega⟩
    have hp : i < (l.length : Int) := by omega
    have hw : wrap64 (i + 1) = i + 1 := h_w64 (by omega) (by omega)
    have hw2 : wrap64 (i - 1) = i - 1 := h_w64 (by omega) (by omega)
    obtain ⟨r, i1, i2⟩ := ih k (i + 1) (by omega) (by omega) (by omega)
    obtain ⟨t1, a1, b1⟩ := ok_in (rd_T76 l i).f0 1 100000
    obtain ⟨t2, a2, b2⟩ := ok_in (rd_T76 l i).f1 0 5
    obtain ⟨t3, a3, b3⟩ := ok_in (rd_T76 l i).f3 0 4294967295
    obtain ⟨t4, a4, b4⟩ := ok_less (rd_T76 l (i - 1)).f0 (rd_T76 l (i - 1)).f1 (rd_T76 l (i - 1)).f2 (rd_T76 l (i - 1)).f3 (rd_T76 l i).f0 (rd_T76 l i).f1 (rd_T76 l i).f2 (rd_T76 l i).f3
    simp only [spec_HostOk.l0, impl_HostOk.l0, hw, hw2, i1, i2, if_pos hp, if_pos h0, a1, b1, a2, b2, a3, b3, a4, b4, Option.bind_some]
    by_cases c : i > 0
    · have hq : i - 1 < (l.length : Int) := by omega
      have hq0 : 0 ≤ i - 1 := by omega
      simp only [if_pos c, if_pos hq, if_pos hq0]
      cases t1 <;> cases t2 <;> cases t3 <;> cases t4 <;> by_cases c2 : ((rd_T76 l i).f2.size : Int) > 200 <;> simp [c2]
    · simp only [if_neg c]
      cases t1 <;> cases t2 <;> cases t3 <;> by_cases c2 : ((rd_T76 l i).f2.size : Int) > 200 <;> simp [c2]


theorem FnExactHostOk (a : Int) (b : Bool) (l : List S81) (ho : (Lit.int .i64 a).wf = true ∧ True ∧ l.length ≤ maxLen ∧ ∀ x ∈ l, (Lit.int .i64 x.f0).wf = true ∧ (Lit.int .i64 x.f1).wf = true ∧ x.f2.size ≤ maxLen ∧ (Lit.int .i64 x.f3).wf = true) :
    ∃ k, laws_FnExactHostOk.f k a b l = some true := by
  obtain ⟨_, _, hl, hx⟩ := ho
  refine ⟨1048580, ?_⟩
  obtain ⟨r, e, hr⟩ := h_sz a b l hl (fun x h => (hx x h).2.2.1) 1048580 (by omega)
  unfold laws_FnExactHostOk.f
  rw [e]
  simp only [Option.bind_some]
  by_cases c : r < 0
  · rw [if_pos c]
  · rw [if_neg c]
    obtain ⟨hl2, _⟩ := hr (by omega)
    have e2 := h_to a b l hl2 1048580 (by omega)
    have e3 := h_eq a b (l.map h_conv) (by simpa using hl2) 1048580 (by omega)
    obtain ⟨t, e4, e5⟩ := ok_both a b (l.map h_conv) (by simpa using hl2) (l.map h_conv).length 1048580 0 (by omega) (by omega) (by simp; omega)
    simp only [e2, Option.bind_some, spec_HostOk.f, impl_HostOk.f, e4, e5, e3, bne_self_eq_false, Bool.false_eq_true, if_false, if_true]

end Go.Proofs.Ytmmepphohdnlmaa.Pure
