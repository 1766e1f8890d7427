/- The program's GetUnit answers what the reference's answers, for every host, group and index. -/
import Derived.Test.YtgmmihbogfcppaaQGU2
namespace Go.Proofs.Ytgmmihbogfcppaa.Pure
open Go.RowKit Go.Proofs.Ytgmmihbogfcppaa.QGU Go.Proofs.YtgmmihbogfcppaaW.PrintWords Go.Proofs.YtgmmihbogfcppaaW.PrintLast Go.Proofs.YtgmmihbogfcppaaW.PrintMore
set_option linter.unusedSimpArgs false
set_option linter.unusedVariables false

theorem h_w64 {x : Int} (h0 : -9223372036854775808 ≤ x) (h1 : x ≤ 9223372036854775807) : wrap64 x = x := by unfold wrap64; omega

theorem h_sz_loop (l : List S50) (hl : l.length ≤ 1048576) (hs : ∀ x ∈ l, x.f2.size ≤ maxLen) : ∀ (d k : Nat) (left i : Int), 0 ≤ i → 0 ≤ left → left ≤ 1048576 → (l.length : Int) - i = d → d < k →
    ∃ r, laws_szUnitS.l0 k l left i = some r ∧ r ≤ 1048576 ∧ (0 ≤ r → ∀ j : Nat, i ≤ (j : Int) → ∀ x, l[j]? = some x → x.f2.size ≤ 1048576) := by
  intro d
  induction d with
  | zero =>
    intro k left i h0 h1 h2 hd hk
    obtain ⟨k, rfl⟩ : ∃ m, k = m + 1 := ⟨k - 1, by omega⟩
    refine ⟨left, ?_, h2, fun _ j hj x hx => ?_⟩
    · simp only [laws_szUnitS.l0]
      rw [if_neg (by omega)]
    · have := (List.getElem?_eq_some_iff.1 hx).1
      omega
  | succ d ih =>
    intro k left i h0 h1 h2 hd hk
    obtain ⟨k, rfl⟩ : ∃ m, k = m + 1 := ⟨k - 1, by omega⟩
    have hw : wrap64 (i + 1) = i + 1 := h_w64 (by omega) (by omega)
    have hi : i.toNat < l.length := by omega
    have he : rd_T50 l i = l[i.toNat] := by
      unfold rd_T50
      rw [List.getD_eq_getElem?_getD, List.getElem?_eq_getElem hi]
      rfl
    have hsz := hs _ (List.getElem_mem hi)
    rw [← he] at hsz
    unfold maxLen at hsz
    have hw2 : wrap64 (left - ((rd_T50 l i).f2.size : Int)) = left - ((rd_T50 l i).f2.size : Int) := h_w64 (by omega) (by omega)
    simp only [laws_szUnitS.l0, hw, laws_szUnit.f, hw2]
    rw [if_pos (by omega), if_pos h0]
    by_cases c : left - ((rd_T50 l i).f2.size : Int) < 0
    · rw [if_pos c]
      refine ⟨-1, by simp, by omega, fun h => by omega⟩
    · rw [if_neg c]
      simp only [Option.bind_some]
      rw [if_neg c]
      obtain ⟨r, e, e2, e3⟩ := ih k (left - ((rd_T50 l i).f2.size : Int)) (i + 1) (by omega) (by omega) (by omega) (by omega) (by omega)
      refine ⟨r, e, e2, fun hr j hj x hx => ?_⟩
      by_cases hji : (j : Int) = i
      · have : j = i.toNat := by omega
        subst this
        rw [List.getElem?_eq_getElem hi] at hx
        injection hx with hx
        rw [← hx, ← he]
        omega
      · exact e3 hr j (by omega) x hx

theorem h_sz (a : Int) (b : Bool) (l : List S50) (hl : l.length ≤ maxLen) (hs : ∀ x ∈ l, x.f2.size ≤ maxLen) (k : Nat) (hk : 1048577 < k) :
    ∃ r, laws_szHost.f k a b l 1048576 = some r ∧ (0 ≤ r → l.length ≤ 1048576 ∧ ∀ x ∈ l, x.f2.size ≤ 1048576) := by
  unfold maxLen at hl
  have hw : wrap64 (1048576 - (l.length : Int)) = 1048576 - (l.length : Int) := h_w64 (by omega) (by omega)
  unfold laws_szHost.f laws_szUnitS.f
  rw [hw]
  by_cases c : 1048576 - (l.length : Int) < 0
  · rw [if_pos c]
    exact ⟨-1, by simp, fun h => by omega⟩
  · rw [if_neg c]
    obtain ⟨r, e, e2, e3⟩ := h_sz_loop l (by omega) hs l.length k (1048576 - (l.length : Int)) 0 (by omega) (by omega) (by omega) (by omega) (by omega)
    rw [e]
    simp only [Option.bind_some]
    by_cases c2 : r < 0
    · rw [if_pos c2]
      exact ⟨-1, rfl, fun h => by omega⟩
    · rw [if_neg c2]
      refine ⟨r, rfl, fun h => ⟨by omega, fun x hx => ?_⟩⟩
      obtain ⟨j, hj, rfl⟩ := List.mem_iff_getElem.1 hx
      exact e3 h j (by omega) _ (List.getElem?_eq_getElem hj)

def h_conv (x : S50) : S53 := ⟨x.f0, x.f1, x.f2, x.f3⟩

theorem h_to_loop (l : List S50) (hl : l.length ≤ 1048576) : ∀ (d k : Nat) (acc : List S53) (i : Int), 0 ≤ i → (l.length : Int) - i = d → d < k → acc.length = l.length → (∀ j : Nat, (j : Int) < i → acc[j]? = (l.map h_conv)[j]?) →
    laws_toUnitS.l0 k l acc i = some (l.map h_conv) := by
  intro d
  induction d with
  | zero =>
    intro k acc i h0 hd hk ha hall
    obtain ⟨k, rfl⟩ : ∃ m, k = m + 1 := ⟨k - 1, by omega⟩
    simp only [laws_toUnitS.l0]
    rw [if_neg (by omega)]
    congr 1
    refine List.ext_getElem? fun j => ?_
    by_cases hj : j < l.length
    · exact hall j (by omega)
    · rw [List.getElem?_eq_none (by omega), List.getElem?_eq_none (by simp; omega)]
  | succ d ih =>
    intro k acc i h0 hd hk ha hall
    obtain ⟨k, rfl⟩ : ∃ m, k = m + 1 := ⟨k - 1, by omega⟩
    have hw : wrap64 (i + 1) = i + 1 := h_w64 (by omega) (by omega)
    have hi : i.toNat < l.length := by omega
    have he : rd_T50 l i = l[i.toNat] := by
      unfold rd_T50
      rw [List.getD_eq_getElem?_getD, List.getElem?_eq_getElem hi]
      rfl
    simp only [laws_toUnitS.l0, hw, laws_toUnit.f, Option.bind_some]
    rw [if_pos (by omega), if_pos h0, if_pos (by omega)]
    refine ih k _ (i + 1) (by omega) (by omega) (by omega) (by simpa using ha) (fun j hj => ?_)
    by_cases hji : j = i.toNat
    · subst hji
      rw [List.getElem?_set_self (by omega), List.getElem?_map, List.getElem?_eq_getElem hi, he]
      rfl
    · rw [List.getElem?_set_ne (fun h => hji h.symm)]
      exact hall j (by omega)

theorem h_to (a : Int) (b : Bool) (l : List S50) (hl : l.length ≤ 1048576) (k : Nat) (hk : 1048577 < k) : laws_toHost.f k a b l = some (a, b, l.map h_conv) := by
  unfold laws_toHost.f laws_toUnitS.f
  rw [if_pos (by omega), if_pos (by omega), h_to_loop l hl l.length k _ 0 (by omega) (by omega) (by omega) (by simp) (fun j hj => by omega)]
  rfl

theorem h_eq_loop (l : List S53) (hl : l.length ≤ 1048576) : ∀ (d k : Nat) (i : Int), 0 ≤ i → (l.length : Int) - i = d → d < k → laws_eqUnitS.l0 k l l i = some true := by
  intro d
  induction d with
  | zero =>
    intro k i h0 hd hk
    obtain ⟨k, rfl⟩ : ∃ m, k = m + 1 := ⟨k - 1, by omega⟩
    simp only [laws_eqUnitS.l0]
    rw [if_neg (by omega)]
  | succ d ih =>
    intro k i h0 hd hk
    obtain ⟨k, rfl⟩ : ∃ m, k = m + 1 := ⟨k - 1, by omega⟩
    have hw : wrap64 (i + 1) = i + 1 := h_w64 (by omega) (by omega)
    have hp : i < (l.length : Int) := by omega
    simp only [laws_eqUnitS.l0, hw, laws_eqUnit.f, if_pos hp, if_pos h0, if_true, Option.bind_some]
    exact ih k (i + 1) (by omega) (by omega) (by omega)

theorem h_eq (a : Int) (b : Bool) (l : List S53) (hl : l.length ≤ 1048576) (k : Nat) (hk : 1048577 < k) : laws_eqHost.f k a b l a b l = some true := by
  unfold laws_eqHost.f laws_eqUnitS.f
  rw [h_eq_loop l hl l.length k 0 (by omega) (by omega) (by omega)]
  simp

theorem sum_same : ∀ k, (∀ x0 x1 x5, impl_SumMore.l0 k x0 x1 x5 = spec_SumMore.l0 k x0 x1 x5) ∧ (∀ x0 x1 x5 x6, impl_SumMore.l1 k x0 x1 x5 x6 = spec_SumMore.l1 k x0 x1 x5 x6)
  | 0 => ⟨fun _ _ _ => by simp only [impl_SumMore.l0, spec_SumMore.l0], fun _ _ _ _ => by simp only [impl_SumMore.l1, spec_SumMore.l1]⟩
  | k + 1 => by
    obtain ⟨h0, h1⟩ := sum_same k
    exact ⟨fun _ _ _ => by simp only [impl_SumMore.l0, spec_SumMore.l0, h1], fun _ _ _ _ => by simp only [impl_SumMore.l1, spec_SumMore.l1, h0, h1]⟩

theorem sum_key (t : ByteArray) (i : Int) : ∀ (d : Nat) (s x : Int), 0 ≤ x → (8 : Int) - x = d → ∃ s', ∀ k, spec_SumMore.l1 (k + d + 1) s t i x = spec_SumMore.l0 k s' t (wrap64 (i + 1)) := by
  intro d
  induction d with
  | zero =>
    intro s x h0 h1
    refine ⟨s, fun k => ?_⟩
    simp only [spec_SumMore.l1, Nat.add_zero]
    rw [if_neg (by omega)]
  | succ d ih =>
    intro s x h0 h1
    have hw : wrap64 (x + 1) = x + 1 := by unfold wrap64; omega
    by_cases c : Int.tmod s 2 = 1
    · obtain ⟨s', hs⟩ := ih (Go.bits .xor .u32 ((Int.tdiv s 2) % 4294967296) 3558460437) (x + 1) (by omega) (by omega)
      refine ⟨s', fun k => ?_⟩
      rw [show k + (d + 1) + 1 = (k + d + 1) + 1 from by omega]
      simp only [spec_SumMore.l1, hw]
      rw [if_pos (by omega), if_pos c]
      exact hs k
    · obtain ⟨s', hs⟩ := ih ((Int.tdiv s 2) % 4294967296) (x + 1) (by omega) (by omega)
      refine ⟨s', fun k => ?_⟩
      rw [show k + (d + 1) + 1 = (k + d + 1) + 1 from by omega]
      simp only [spec_SumMore.l1, hw]
      rw [if_pos (by omega), if_neg c]
      exact hs k
theorem sum_ends (t : ByteArray) (ht : t.size ≤ 1048576) : ∀ (d : Nat) (s i : Int), 0 ≤ i → (t.size : Int) - i = d → ∃ r, ∀ k, 10 * d < k → spec_SumMore.l0 k s t i = some r := by
  intro d
  induction d with
  | zero =>
    intro s i h0 h1
    refine ⟨s, fun k hk => ?_⟩
    obtain ⟨k, rfl⟩ : ∃ m, k = m + 1 := ⟨k - 1, by omega⟩
    simp only [spec_SumMore.l0]
    rw [if_neg (by omega)]
  | succ d ih =>
    intro s i h0 h1
    have hw : wrap64 (i + 1) = i + 1 := by unfold wrap64; omega
    obtain ⟨s', hs⟩ := sum_key t i 8 (Go.bits .xor .u32 s ((bt t i) % 4294967296)) 0 (by omega) (by omega)
    obtain ⟨r, hr⟩ := ih s' (i + 1) (by omega) (by omega)
    refine ⟨r, fun k hk => ?_⟩
    obtain ⟨k, rfl⟩ : ∃ m, k = m + 8 + 1 + 1 := ⟨k - 10, by omega⟩
    rw [spec_SumMore.l0, if_pos (by omega), if_pos h0, hs k, hw]
    exact hr k (by omega)
/-- The sum of a text, both ways. -/
theorem sum_text (t : ByteArray) (ht : t.size ≤ 1048576) : ∃ r, ∀ k, 10485770 < k → spec_SumText.f k t = some r ∧ impl_SumText.f k t = some r := by
  obtain ⟨r, hr⟩ := sum_ends t ht t.size 4294967295 0 (by omega) (by omega)
  refine ⟨wrap64 r, fun k hk => ?_⟩
  unfold spec_SumText.f impl_SumText.f spec_SumOf.f impl_SumOf.f spec_SumMore.f impl_SumMore.f
  rw [(sum_same k).1, hr k (by omega)]
  exact ⟨rfl, rfl⟩

theorem idx_range {α : Type} (eq : α → α → Bool) (x : α) : ∀ (l : List α) (i : Nat), Lib.idxByFrom eq x l i = -1 ∨ ((i : Int) ≤ Lib.idxByFrom eq x l i ∧ Lib.idxByFrom eq x l i < (i : Int) + (l.length : Int))
  | [], _ => .inl rfl
  | y :: l, i => by
    rw [Lib.idxByFrom]
    by_cases c : eq x y = true
    · rw [if_pos c, List.length_cons]
      exact .inr ⟨by omega, by omega⟩
    · rw [if_neg c, List.length_cons]
      rcases idx_range eq x l (i + 1) with h | ⟨h1, h2⟩
      · exact .inl h
      · exact .inr ⟨by omega, by omega⟩
theorem at_rd (l : List S53) (i : Int) (hi : i.toNat < l.length) : rd_T53 l i = l[i.toNat] := by
  unfold rd_T53
  rw [List.getD_eq_getElem?_getD, List.getElem?_eq_getElem hi]
  rfl
theorem at_loop (a0 : Int) (b0 : Bool) (l : List S53) (hl : l.length ≤ 1048576) (g ix : Int) : ∀ (d k : Nat) (i : Int), 0 ≤ i → (l.length : Int) - i = d → d < k →
    spec_l14At.l0 k g ix i a0 b0 l = some (Lib.idxByFrom (fun _ y => impl_unitAt.p g ix y) default (l.drop i.toNat) i.toNat) := by
  intro d
  induction d with
  | zero =>
    intro k i h0 h1 hk
    obtain ⟨k, rfl⟩ : ∃ m, k = m + 1 := ⟨k - 1, by omega⟩
    have c : ¬ i < (l.length : Int) := by omega
    rw [List.drop_eq_nil_of_le (by omega)]
    simp only [spec_l14At.l0, if_neg c]
    rfl
  | succ d ih =>
    intro k i h0 h1 hk
    obtain ⟨k, rfl⟩ : ∃ m, k = m + 1 := ⟨k - 1, by omega⟩
    have c : i < (l.length : Int) := by omega
    have hi : i.toNat < l.length := by omega
    have hw : wrap64 (i + 1) = i + 1 := by unfold wrap64; omega
    have e := ih k (i + 1) (by omega) (by omega) (by omega)
    rw [show (i + 1).toNat = i.toNat + 1 by omega] at e
    rw [List.drop_eq_getElem_cons hi]
    simp only [spec_l14At.l0, if_pos c, if_pos h0, hw, e, at_rd l i hi, Lib.idxByFrom, impl_unitAt.p]
    by_cases c1 : l[i.toNat].f0 = g
    · by_cases c2 : l[i.toNat].f1 = ix
      · simp only [if_pos c1, if_pos c2, c1, c2, decide_true, Bool.and_self, if_true]
        congr 1
        omega
      · simp only [if_pos c1, if_neg c2, c1, c2, decide_true, decide_false, Bool.and_false, Bool.false_eq_true, if_false, ite_self]
    · simp only [if_neg c1, c1, decide_false, Bool.false_and, Bool.false_eq_true, if_false]
/-- Where the unit is, both ways. -/
theorem at_both (a0 : Int) (b0 : Bool) (l : List S53) (hl : l.length ≤ 1048576) (g ix : Int) : ∃ r, (r = -1 ∨ (0 ≤ r ∧ r < (l.length : Int))) ∧ ∀ k, 1048577 < k → spec_l14At.f k a0 b0 l g ix = some r ∧ impl_unitAt.f k a0 b0 l g ix = some r := by
  refine ⟨Lib.idxBy (fun _ y => impl_unitAt.p g ix y) l default, ?_, fun k hk => ⟨?_, rfl⟩⟩
  · have := idx_range (fun (_ : S53) y => impl_unitAt.p g ix y) default l 0
    unfold Lib.idxBy
    omega
  · unfold spec_l14At.f Lib.idxBy
    rw [at_loop a0 b0 l hl g ix l.length k 0 (by omega) (by omega) (by omega)]
    simp

theorem get_both (a : Int) (b : Bool) (l : List S53) (hl : l.length ≤ 1048576) (hs : ∀ x ∈ l, x.f2.size ≤ 1048576) (g ix : Int) : ∃ r, ∀ k, 10485770 < k → spec_GetUnit.f k a b l g ix = some r ∧ impl_GetUnit.f k a b l g ix = some r := by
  obtain ⟨t, ht, hk1⟩ := at_both a b l hl g ix
  by_cases hb : b = true
  · subst hb
    by_cases c : t < 0
    · refine ⟨(⟨#[]⟩, false), fun k hk => ?_⟩
      obtain ⟨e1, e2⟩ := hk1 k (by omega)
      unfold spec_GetUnit.f impl_GetUnit.f
      simp only [e1, e2, Option.bind_some, if_true, if_pos c, and_self]
    · have h0 : 0 ≤ t := by omega
      have h1 : t < (l.length : Int) := by omega
      have hi : t.toNat < l.length := by omega
      have hz := hs _ (List.getElem_mem hi)
      rw [← at_rd l t hi] at hz
      obtain ⟨q, hq⟩ := sum_text _ hz
      by_cases c2 : (rd_T53 l t).f3 = q
      · refine ⟨((rd_T53 l t).f2, true), fun k hk => ?_⟩
        obtain ⟨e1, e2⟩ := hk1 k (by omega)
        obtain ⟨e3, e4⟩ := hq k hk
        unfold spec_GetUnit.f impl_GetUnit.f
        simp only [e1, e2, e3, e4, Option.bind_some, if_true, if_neg c, if_pos h0, if_pos h1, if_pos c2, and_self]
      · refine ⟨(⟨#[]⟩, false), fun k hk => ?_⟩
        obtain ⟨e1, e2⟩ := hk1 k (by omega)
        obtain ⟨e3, e4⟩ := hq k hk
        unfold spec_GetUnit.f impl_GetUnit.f
        simp only [e1, e2, e3, e4, Option.bind_some, if_true, if_neg c, if_pos h0, if_pos h1, if_neg c2, and_self]
  · refine ⟨(⟨#[]⟩, false), fun k hk => ?_⟩
    obtain ⟨e1, e2⟩ := hk1 k (by omega)
    unfold spec_GetUnit.f impl_GetUnit.f
    simp only [e1, e2, Option.bind_some, if_neg hb, and_self]

theorem FnExactGetUnit (a : Int) (b : Bool) (l : List S50) (g ix : Int) (ho : (Lit.int .i64 a).wf = true ∧ True ∧ l.length ≤ maxLen ∧ ∀ x ∈ l, (Lit.int .i64 x.f0).wf = true ∧ (Lit.int .i64 x.f1).wf = true ∧ x.f2.size ≤ maxLen ∧ (Lit.int .i64 x.f3).wf = true) (_ : (Lit.int .i64 g).wf = true) (_ : (Lit.int .i64 ix).wf = true) :
    ∃ k, laws_FnExactGetUnit.f k a b l g ix = some true := by
  obtain ⟨_, _, hl, hx⟩ := ho
  obtain ⟨K, hK⟩ : ∃ K : Nat, K = 10485780 := ⟨_, rfl⟩
  refine ⟨K + 1, ?_⟩
  obtain ⟨r, e, hr⟩ := h_sz a b l hl (fun x h => (hx x h).2.2.1) (K + 1) (by omega)
  unfold laws_FnExactGetUnit.f
  rw [e]
  simp only [Option.bind_some]
  by_cases c : r < 0
  · rw [if_pos c]
  · rw [if_neg c]
    obtain ⟨hl2, hs2⟩ := hr (by omega)
    have e2 := h_to a b l hl2 (K + 1) (by omega)
    have e2' := h_to a b l hl2 K (by omega)
    have e3 := h_eq a b (l.map h_conv) (by simpa using hl2) K (by omega)
    obtain ⟨q, hq⟩ := get_both a b (l.map h_conv) (by simpa using hl2) (fun x hx => by
      obtain ⟨y, hy, rfl⟩ := List.mem_map.1 hx
      exact hs2 y hy) g ix
    obtain ⟨e4, e5⟩ := hq (K + 1) (by omega)
    simp only [e2, Option.bind_some, e4, e5, bne_self_eq_false, if_true, laws_FnExactGetUnit.j0, Bool.false_eq_true, if_false, e2', e3]

end Go.Proofs.Ytgmmihbogfcppaa.Pure
