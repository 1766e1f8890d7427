/- The program's JoinPath answers what the reference's answers, for every list of names. -/
import Derived.Test.YtmmepphohdnlmaaQJP1
namespace Go.Proofs.Ytmmepphohdnlmaa.Pure
open Go.RowKit Go.Proofs.Ytmmepphohdnlmaa.QJP Go.Proofs.YtmmepphohdnlmaaW.PrintWords Go.Proofs.YtmmepphohdnlmaaW.PrintLast Go.Proofs.YtmmepphohdnlmaaW.PrintMore
set_option linter.unusedSimpArgs false
set_option linter.unusedVariables false

theorem s_rd (l : List ByteArray) (i : Int) (hi : i.toNat < l.length) : rdOf ByteArray.empty l i = l[i.toNat] := by
  unfold rdOf
  rw [List.getD_eq_getElem?_getD, List.getElem?_eq_getElem hi]
  rfl
theorem s_eq_loop (l : List ByteArray) (hl : l.length ≤ 1048576) : ∀ (d k : Nat) (i : Int), 0 ≤ i → (l.length : Int) - i = d → d < k → laws_eqStringS.l0 k l l i = some true := by
  intro d
  induction d with
  | zero =>
    intro k i h0 hd hk
    obtain ⟨k, rfl⟩ : ∃ m, k = m + 1 := ⟨k - 1, by omega⟩
    simp only [laws_eqStringS.l0]
    rw [if_neg (by omega)]
  | succ d ih =>
    intro k i h0 hd hk
    obtain ⟨k, rfl⟩ : ∃ m, k = m + 1 := ⟨k - 1, by omega⟩
    have hw : wrap64 (i + 1) = i + 1 := by unfold wrap64; omega
    have hp : i < (l.length : Int) := by omega
    simp only [laws_eqStringS.l0, hw, if_pos hp, if_pos h0, if_true]
    exact ih k (i + 1) (by omega) (by omega) (by omega)
theorem s_eq (l : List ByteArray) (hl : l.length ≤ 1048576) (k : Nat) (hk : l.length < k) : laws_eqStringS.f k l l = some true := by
  unfold laws_eqStringS.f
  rw [if_pos rfl]
  exact s_eq_loop l hl l.length k 0 (by omega) (by omega) hk

theorem s_sz_loop (l : List ByteArray) (hl : l.length ≤ 1048576) (hs : ∀ x ∈ l, x.size ≤ maxLen) : ∀ (d k : Nat) (left i : Int), 0 ≤ i → 0 ≤ left → left ≤ 1048576 → (l.length : Int) - i = d → d < k →
    ∃ r, laws_szStringS.l0 k l left i = some r ∧ (0 ≤ r → ((l.drop i.toNat).map ByteArray.size).sum ≤ left) := by
  intro d
  induction d with
  | zero =>
    intro k left i h0 h1 h2 hd hk
    obtain ⟨k, rfl⟩ : ∃ m, k = m + 1 := ⟨k - 1, by omega⟩
    refine ⟨left, ?_, fun _ => ?_⟩
    · simp only [laws_szStringS.l0]
      rw [if_neg (by omega)]
    · rw [List.drop_eq_nil_of_le (by omega)]
      simpa using h1
  | succ d ih =>
    intro k left i h0 h1 h2 hd hk
    obtain ⟨k, rfl⟩ : ∃ m, k = m + 1 := ⟨k - 1, by omega⟩
    have hw : wrap64 (i + 1) = i + 1 := by unfold wrap64; omega
    have hi : i.toNat < l.length := by omega
    have hsz := hs _ (List.getElem_mem hi)
    rw [← s_rd l i hi] at hsz
    unfold maxLen at hsz
    have hw2 : wrap64 (left - ((rdOf ByteArray.empty l i).size : Int)) = left - ((rdOf ByteArray.empty l i).size : Int) := by unfold wrap64; omega
    simp only [laws_szStringS.l0, hw, hw2]
    rw [if_pos (by omega), if_pos h0]
    by_cases c : left - ((rdOf ByteArray.empty l i).size : Int) < 0
    · rw [if_pos c]
      exact ⟨-1, rfl, fun h => by omega⟩
    · rw [if_neg c]
      obtain ⟨r, e, e2⟩ := ih k (left - ((rdOf ByteArray.empty l i).size : Int)) (i + 1) (by omega) (by omega) (by omega) (by omega) (by omega)
      refine ⟨r, e, fun hr => ?_⟩
      have h3 := e2 hr
      rw [List.drop_eq_getElem_cons hi, List.map_cons, List.sum_cons, ← s_rd l i hi]
      rw [show (i + 1).toNat = i.toNat + 1 by omega] at h3
      omega
theorem s_sz (l : List ByteArray) (hl : l.length ≤ maxLen) (hs : ∀ x ∈ l, x.size ≤ maxLen) (k : Nat) (hk : 1048577 < k) :
    ∃ r, laws_szStringS.f k l 1048576 = some r ∧ (0 ≤ r → l.length ≤ 1048576 ∧ (l.map ByteArray.size).sum ≤ 1048576) := by
  unfold maxLen at hl
  have hw : wrap64 (1048576 - (l.length : Int)) = 1048576 - (l.length : Int) := by unfold wrap64; omega
  unfold laws_szStringS.f
  rw [hw]
  by_cases c : 1048576 - (l.length : Int) < 0
  · rw [if_pos c]
    exact ⟨-1, rfl, fun h => by omega⟩
  · rw [if_neg c]
    obtain ⟨r, e, e2⟩ := s_sz_loop l (by omega) hs l.length k (1048576 - (l.length : Int)) 0 (by omega) (by omega) (by omega) (by omega) (by omega)
    refine ⟨r, e, fun h => ⟨by omega, ?_⟩⟩
    have := e2 h
    simp only [Int.toNat_zero, List.drop_zero] at this
    omega
theorem s_to_loop (l : List ByteArray) (hl : l.length ≤ 1048576) : ∀ (d k : Nat) (acc : List ByteArray) (i : Int), 0 ≤ i → (l.length : Int) - i = d → d < k → acc.length = l.length → (∀ j : Nat, (j : Int) < i → acc[j]? = l[j]?) →
    laws_toStringS.l0 k l acc i = some l := by
  intro d
  induction d with
  | zero =>
    intro k acc i h0 hd hk ha hall
    obtain ⟨k, rfl⟩ : ∃ m, k = m + 1 := ⟨k - 1, by omega⟩
    simp only [laws_toStringS.l0]
    rw [if_neg (by omega)]
    congr 1
    refine List.ext_getElem? fun j => ?_
    by_cases hj : j < l.length
    · exact hall j (by omega)
    · rw [List.getElem?_eq_none (by omega), List.getElem?_eq_none (by omega)]
  | succ d ih =>
    intro k acc i h0 hd hk ha hall
    obtain ⟨k, rfl⟩ : ∃ m, k = m + 1 := ⟨k - 1, by omega⟩
    have hw : wrap64 (i + 1) = i + 1 := by unfold wrap64; omega
    have hi : i.toNat < l.length := by omega
    simp only [laws_toStringS.l0, hw]
    rw [if_pos (by omega), if_pos h0, if_pos (by omega), s_rd l i hi]
    refine ih k _ (i + 1) (by omega) (by omega) (by omega) (by simpa using ha) (fun j hj => ?_)
    by_cases hji : j = i.toNat
    · subst hji
      rw [List.getElem?_set_self (by omega), List.getElem?_eq_getElem hi]
    · rw [List.getElem?_set_ne (fun h => hji h.symm)]
      exact hall j (by omega)
theorem s_to (l : List ByteArray) (hl : l.length ≤ 1048576) (k : Nat) (hk : 1048577 < k) : laws_toStringS.f k l = some l := by
  unfold laws_toStringS.f
  rw [if_pos (by omega), if_pos (by omega), s_to_loop l hl l.length k _ 0 (by omega) (by omega) (by omega) (by simp) (fun j hj => by omega)]

def jp : List ByteArray → ByteArray
  | [] => ⟨#[]⟩
  | x :: l => ((⟨#[47]⟩ : ByteArray) ++ x) ++ jp l
theorem jp_list : ∀ l : List ByteArray, (jp l).data.toList = l.flatMap fun x => 47 :: x.data.toList
  | [] => rfl
  | x :: l => by
    rw [jp, ByteArray.data_append, ByteArray.data_append, Array.toList_append, Array.toList_append, jp_list l, List.flatMap_cons]
    rfl
theorem jp_size : ∀ l : List ByteArray, (jp l).size = l.length + (l.map ByteArray.size).sum
  | [] => rfl
  | x :: l => by
    have h : (⟨#[47]⟩ : ByteArray).size = 1 := rfl
    rw [jp, ByteArray.size_append, ByteArray.size_append, jp_size l, h]
    simp only [List.length_cons, List.map_cons, List.sum_cons]
    omega
theorem jp_join (g : ByteArray → List UInt8) : ∀ (l : List ByteArray), l ≠ [] → 47 :: Lib.join (l.map g) [47] = l.flatMap fun x => 47 :: g x
  | [], h => absurd rfl h
  | [x], _ => by simp [Lib.join, List.intercalate, List.intersperse]
  | x :: y :: l, _ => by
    have ih := jp_join g (y :: l) (by simp)
    rw [List.flatMap_cons, ← ih]
    simp [Lib.join, List.intercalate, List.intersperse]
theorem jp_loop (l : List ByteArray) (hl : l.length ≤ 1048576) : ∀ (d k : Nat) (acc : ByteArray) (i : Int), 0 ≤ i → (l.length : Int) - i = d → acc.size + (jp (l.drop i.toNat)).size ≤ 4194304 → d < k →
    spec_JoinPath.l0 k l acc i = some (acc ++ jp (l.drop i.toNat)) := by
  intro d
  induction d with
  | zero =>
    intro k acc i h0 h1 hs hk
    obtain ⟨k, rfl⟩ : ∃ m, k = m + 1 := ⟨k - 1, by omega⟩
    have c : ¬ i < (l.length : Int) := by omega
    have hd : l.drop i.toNat = [] := List.drop_eq_nil_of_le (by omega)
    simp only [spec_JoinPath.l0, if_neg c, hd, jp]
    rw [show (ByteArray.mk #[]) = ByteArray.empty from rfl, ByteArray.append_empty]
  | succ d ih =>
    intro k acc i h0 h1 hs hk
    obtain ⟨k, rfl⟩ : ∃ m, k = m + 1 := ⟨k - 1, by omega⟩
    have hi : i.toNat < l.length := by omega
    have hw : wrap64 (i + 1) = i + 1 := by unfold wrap64; omega
    have hd : l.drop i.toNat = l[i.toNat] :: l.drop (i.toNat + 1) := List.drop_eq_getElem_cons hi
    have ht : (i + 1).toNat = i.toNat + 1 := by omega
    have h47 : (⟨#[47]⟩ : ByteArray).size = 1 := rfl
    rw [hd, jp, ByteArray.size_append, ByteArray.size_append, h47, ← s_rd l i hi] at hs
    have c0 : i < (l.length : Int) := by omega
    have c1 : acc.size + 1 ≤ 9223372036854775807 := by omega
    have c2 : (acc ++ (⟨#[47]⟩ : ByteArray)).size + (rdOf ByteArray.empty l i).size ≤ 9223372036854775807 := by rw [ByteArray.size_append, h47]; omega
    have e := ih k ((acc ++ (⟨#[47]⟩ : ByteArray)) ++ rdOf ByteArray.empty l i) (i + 1) (by omega) (by omega) (by rw [ht, ByteArray.size_append, ByteArray.size_append, h47]; omega) (by omega)
    simp only [spec_JoinPath.l0, if_pos c0, if_pos c1, if_pos h0, if_pos c2, hw, e, ht]
    rw [hd, jp, ← s_rd l i hi, ByteArray.append_assoc, ByteArray.append_assoc, ByteArray.append_assoc]
theorem jp_both (l : List ByteArray) (hl : l.length ≤ 1048576) (hs : (l.map ByteArray.size).sum ≤ 1048576) (k : Nat) (hk : 1048577 < k) : ∃ r, spec_JoinPath.f k l = some r ∧ impl_JoinPath.f k l = some r := by
  by_cases hn : l = []
  · subst hn
    exact ⟨_, rfl, rfl⟩
  · have hz := jp_size l
    have e := jp_loop l hl l.length k ⟨#[]⟩ 0 (by omega) (by omega) (by rw [show (0 : Int).toNat = 0 from rfl, List.drop_zero, show (⟨#[]⟩ : ByteArray).size = 0 from rfl]; omega) (by omega)
    have hj := jp_join (·.data.toList) l hn
    rw [← jp_list l] at hj
    have hz2 : 1 + (Lib.join (l.map (·.data.toList)) [47]).length = (jp l).size := by
      have := congrArg List.length hj
      rw [List.length_cons] at this
      rw [Nat.add_comm, this]
      exact Array.length_toList
    refine ⟨jp l, ?_, ?_⟩
    · unfold spec_JoinPath.f
      rw [if_neg (fun h => hn (List.eq_nil_of_length_eq_zero (by omega))), e, show (ByteArray.mk #[]) = ByteArray.empty from rfl, ByteArray.empty_append, show (0 : Int).toNat = 0 from rfl, List.drop_zero]
    · unfold impl_JoinPath.f
      rw [if_pos ⟨by omega, by omega⟩]
      congr 1
      apply ByteArray.ext
      apply Array.toList_inj.1
      rw [← hj, ByteArray.data_append, Array.toList_append]
      rfl

theorem FnExactJoinPath (l : List ByteArray) (ho : l.length ≤ maxLen ∧ ∀ x ∈ l, x.size ≤ maxLen) : ∃ k, laws_FnExactJoinPath.f k l = some true := by
  obtain ⟨K, hK⟩ : ∃ K : Nat, K = 1048600 := ⟨_, rfl⟩
  refine ⟨K, ?_⟩
  obtain ⟨r, e, hr⟩ := s_sz l ho.1 ho.2 K (by omega)
  unfold laws_FnExactJoinPath.f
  rw [e]
  simp only [Option.bind_some]
  by_cases c : r < 0
  · rw [if_pos c]
  · rw [if_neg c]
    obtain ⟨hl, hs⟩ := hr (by omega)
    obtain ⟨q, e1, e2⟩ := jp_both l hl hs K (by omega)
    simp only [s_to l hl K (by omega), Option.bind_some, e1, e2, if_true, s_eq l hl K (by omega)]

end Go.Proofs.Ytmmepphohdnlmaa.Pure
