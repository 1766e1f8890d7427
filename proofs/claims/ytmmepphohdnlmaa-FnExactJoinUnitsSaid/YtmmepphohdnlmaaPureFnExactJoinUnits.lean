/- The program's JoinUnits answers what the reference's answers, for every schema, list of units and number. -/
import Derived.Test.YtmmepphohdnlmaaOJoinUnits2
namespace Go.Proofs.Ytmmepphohdnlmaa.Pure
open Go.RowKit Go.Proofs.Ytmmepphohdnlmaa.OJoinUnits Go.Proofs.YtmmepphohdnlmaaW.PrintWords Go.Proofs.YtmmepphohdnlmaaW.PrintLast Go.Proofs.YtmmepphohdnlmaaW.PrintMore
set_option linter.unusedSimpArgs false
set_option linter.unusedVariables false

theorem p_size (s : Int) : (∃ u v : Int, spec_SchemaOf.f s = some (u, v, true) ∧ impl_SchemaOf.f s = some (u, v, true) ∧ impl_GroupSize.f s = some (8 * u) ∧ spec_GroupSize.f s = some (8 * u) ∧ (u = 2 ∨ u = 3 ∨ u = 4)) ∨
    (spec_SchemaOf.f s = some (0, 0, false) ∧ impl_SchemaOf.f s = some (0, 0, false) ∧ impl_GroupSize.f s = some 0 ∧ spec_GroupSize.f s = some 0) := by
  by_cases h1 : s = 1
  · subst h1
    exact .inl ⟨2, 1, rfl, rfl, by simp [impl_GroupSize.f, impl_SchemaOf.f, wrap64], by simp [spec_GroupSize.f, spec_SchemaOf.f, wrap64], by omega⟩
  · by_cases h2 : s = 2
    · subst h2
      exact .inl ⟨3, 2, rfl, rfl, by simp [impl_GroupSize.f, impl_SchemaOf.f, wrap64], by simp [spec_GroupSize.f, spec_SchemaOf.f, wrap64], by omega⟩
    · by_cases h3 : s = 3
      · subst h3
        exact .inl ⟨4, 2, rfl, rfl, by simp [impl_GroupSize.f, impl_SchemaOf.f, wrap64], by simp [spec_GroupSize.f, spec_SchemaOf.f, wrap64], by omega⟩
      · exact .inr ⟨by simp [spec_SchemaOf.f, h1, h2, h3], by simp [impl_SchemaOf.f, h1, h2, h3], by simp [impl_GroupSize.f, impl_SchemaOf.f, h1, h2, h3, wrap64], by simp [spec_GroupSize.f, spec_SchemaOf.f, h1, h2, h3, wrap64]⟩

theorem p_words (u n : Int) (hu : u = 2 ∨ u = 3 ∨ u = 4) (hn : 0 ≤ n) (hn' : n ≤ 100000) :
    Int.tdiv n (8 * u) = n / (8 * u) ∧ Int.tmod n (8 * u) = n % (8 * u) ∧ Int.tdiv (n % (8 * u)) 4 = n % (8 * u) / 4 ∧ wrap64 (n % (8 * u) / 4) = n % (8 * u) / 4 ∧ Int.tmod (n % (8 * u) / 4) u = n % (8 * u) / 4 % u ∧ Int.tdiv (n % (8 * u) / 4) u = n % (8 * u) / 4 / u ∧
    Int.tmod (n % (8 * u)) 4 = n % (8 * u) % 4 ∧ wrap64 (n / (8 * u)) = n / (8 * u) ∧ wrap64 (n % (8 * u) / 4 / u) = n % (8 * u) / 4 / u ∧ wrap64 (n % (8 * u) / 4 / u * 4) = n % (8 * u) / 4 / u * 4 ∧
    wrap64 (n % (8 * u) / 4 / u * 4 + n % (8 * u) % 4) = n % (8 * u) / 4 / u * 4 + n % (8 * u) % 4 := by
  have p2 : 0 ≤ n % (8 * u) := Int.emod_nonneg _ (by omega)
  have p3 : 0 ≤ n % (8 * u) / 4 := by omega
  refine ⟨Int.tdiv_eq_ediv_of_nonneg hn, Int.tmod_eq_emod_of_nonneg hn, Int.tdiv_eq_ediv_of_nonneg p2, ?_, Int.tmod_eq_emod_of_nonneg p3, Int.tdiv_eq_ediv_of_nonneg p3, Int.tmod_eq_emod_of_nonneg p2, ?_, ?_, ?_, ?_⟩ <;>
    rcases hu with rfl | rfl | rfl <;> (unfold wrap64; omega)

/-- PlaceOf, both ways. -/
theorem p_place (s u v n : Int) (h0 : spec_SchemaOf.f s = some (u, v, true)) (h1 : impl_SchemaOf.f s = some (u, v, true)) (h2 : impl_GroupSize.f s = some (8 * u)) (h3 : spec_GroupSize.f s = some (8 * u)) (hu : u = 2 ∨ u = 3 ∨ u = 4) (hn : 0 ≤ n) (hn' : n ≤ 100000) :
    (∀ k, 0 < k → impl_PlaceOf.f k s n = some (n / (8 * u), n % (8 * u) / 4 % u, n % (8 * u) / 4 / u * 4 + n % (8 * u) % 4)) ∧ spec_PlaceOf.f s n = some (n / (8 * u), n % (8 * u) / 4 % u, n % (8 * u) / 4 / u * 4 + n % (8 * u) % 4) := by
  obtain ⟨t1, t2, t3, w3, t4, t5, t6, w1, w5, w6, w7⟩ := p_words u n hu hn hn'
  have n8 : ¬ 8 * u = 0 := by omega
  have n1 : ¬ u = 0 := by omega
  refine ⟨fun k hk => ?_, ?_⟩
  · obtain ⟨k, rfl⟩ : ∃ m, k = m + 1 := ⟨k - 1, by omega⟩
    unfold impl_PlaceOf.f impl_within.f
    simp only [h1, h2, impl_PlaceOf.j0, Option.bind_some, hn, hn', ge_iff_le, if_true, decide_true, Bool.not_true, Bool.false_eq_true, if_false, if_neg n8, if_neg n1]
    rw [t1, t2, t3, w3, t4, t5, t6, w1, w5, w6, w7]
  · unfold spec_PlaceOf.f spec_l01In.f
    simp only [h0, h3, Option.bind_some, hn, hn', ge_iff_le, if_true, decide_true, if_neg n8, if_neg n1]
    rw [t1, t2, t3, w3, t4, t5, t6, w1, w5, w6, w7]
theorem p_unit (u n : Int) (hu : u = 2 ∨ u = 3 ∨ u = 4) (hn : 0 ≤ n) : 0 ≤ n % (8 * u) / 4 % u ∧ n % (8 * u) / 4 % u < u ∧ 0 ≤ n % (8 * u) / 4 / u * 4 + n % (8 * u) % 4 ∧ n % (8 * u) / 4 / u * 4 + n % (8 * u) % 4 ≤ 7 := by
  rcases hu with rfl | rfl | rfl <;> omega
theorem p_w64 {x : Int} (h0 : -9223372036854775808 ≤ x) (h1 : x ≤ 9223372036854775807) : wrap64 x = x := by unfold wrap64; omega

theorem s_rd (l : List ByteArray) (i : Int) (hi : i.toNat < l.length) : rdOf ByteArray.empty l i = l[i.toNat] := by
  unfold rdOf
  rw [List.getD_eq_getElem?_getD, List.getElem?_eq_getElem hi]
  rfl
theorem s_eq_loop (l : List ByteArray) (hl : l.length ≤ 1048576) : ∀ (d k : Nat) (i : Int), 0 ≤ i → (l.length : Int) - i = d → d < k → laws_eqStringS.l0 k l l i = some true := by
  intro d
  induction d with
  | zero =>
    intro k i h0 hd hk
    obtain ⟨k, rfl⟩ : ∃ m, k = m + 1 := ⟨k - 1, by omega⟩
    simp only [laws_eqStringS.l0]
    rw [if_neg (by omega)]
  | succ d ih =>
    intro k i h0 hd hk
    obtain ⟨k, rfl⟩ : ∃ m, k = m + 1 := ⟨k - 1, by omega⟩
    have hw : wrap64 (i + 1) = i + 1 := by unfold wrap64; omega
    have hp : i < (l.length : Int) := by omega
    simp only [laws_eqStringS.l0, hw, if_pos hp, if_pos h0, if_true]
    exact ih k (i + 1) (by omega) (by omega) (by omega)
theorem s_eq (l : List ByteArray) (hl : l.length ≤ 1048576) (k : Nat) (hk : l.length < k) : laws_eqStringS.f k l l = some true := by
  unfold laws_eqStringS.f
  rw [if_pos rfl]
  exact s_eq_loop l hl l.length k 0 (by omega) (by omega) hk

theorem s_sz_loop (l : List ByteArray) (hl : l.length ≤ 1048576) (hs : ∀ x ∈ l, x.size ≤ maxLen) : ∀ (d k : Nat) (left i : Int), 0 ≤ i → 0 ≤ left → left ≤ 1048576 → (l.length : Int) - i = d → d < k →
    ∃ r, laws_szStringS.l0 k l left i = some r ∧ (0 ≤ r → ((l.drop i.toNat).map ByteArray.size).sum ≤ left) := by
  intro d
  induction d with
  | zero =>
    intro k left i h0 h1 h2 hd hk
    obtain ⟨k, rfl⟩ : ∃ m, k = m + 1 := ⟨k - 1, by omega⟩
    refine ⟨left, ?_, fun _ => ?_⟩
    · simp only [laws_szStringS.l0]
      rw [if_neg (by omega)]
    · rw [List.drop_eq_nil_of_le (by omega)]
      simpa using h1
  | succ d ih =>
    intro k left i h0 h1 h2 hd hk
    obtain ⟨k, rfl⟩ : ∃ m, k = m + 1 := ⟨k - 1, by omega⟩
    have hw : wrap64 (i + 1) = i + 1 := by unfold wrap64; omega
    have hi : i.toNat < l.length := by omega
    have hsz := hs _ (List.getElem_mem hi)
    rw [← s_rd l i hi] at hsz
    unfold maxLen at hsz
    have hw2 : wrap64 (left - ((rdOf ByteArray.empty l i).size : Int)) = left - ((rdOf ByteArray.empty l i).size : Int) := by unfold wrap64; omega
    simp only [laws_szStringS.l0, hw, hw2]
    rw [if_pos (by omega), if_pos h0]
    by_cases c : left - ((rdOf ByteArray.empty l i).size : Int) < 0
    · rw [if_pos c]
      exact ⟨-1, rfl, fun h => by omega⟩
    · rw [if_neg c]
      obtain ⟨r, e, e2⟩ := ih k (left - ((rdOf ByteArray.empty l i).size : Int)) (i + 1) (by omega) (by omega) (by omega) (by omega) (by omega)
      refine ⟨r, e, fun hr => ?_⟩
      have h3 := e2 hr
      rw [List.drop_eq_getElem_cons hi, List.map_cons, List.sum_cons, ← s_rd l i hi]
      rw [show (i + 1).toNat = i.toNat + 1 by omega] at h3
      omega
theorem s_sz (l : List ByteArray) (hl : l.length ≤ maxLen) (hs : ∀ x ∈ l, x.size ≤ maxLen) (k : Nat) (hk : 1048577 < k) :
    ∃ r, laws_szStringS.f k l 1048576 = some r ∧ (0 ≤ r → l.length ≤ 1048576 ∧ (l.map ByteArray.size).sum ≤ 1048576) := by
  unfold maxLen at hl
  have hw : wrap64 (1048576 - (l.length : Int)) = 1048576 - (l.length : Int) := by unfold wrap64; omega
  unfold laws_szStringS.f
  rw [hw]
  by_cases c : 1048576 - (l.length : Int) < 0
  · rw [if_pos c]
    exact ⟨-1, rfl, fun h => by omega⟩
  · rw [if_neg c]
    obtain ⟨r, e, e2⟩ := s_sz_loop l (by omega) hs l.length k (1048576 - (l.length : Int)) 0 (by omega) (by omega) (by omega) (by omega) (by omega)
    refine ⟨r, e, fun h => ⟨by omega, ?_⟩⟩
    have := e2 h
    simp only [Int.toNat_zero, List.drop_zero] at this
    omega
theorem s_to_loop (l : List ByteArray) (hl : l.length ≤ 1048576) : ∀ (d k : Nat) (acc : List ByteArray) (i : Int), 0 ≤ i → (l.length : Int) - i = d → d < k → acc.length = l.length → (∀ j : Nat, (j : Int) < i → acc[j]? = l[j]?) →
    laws_toStringS.l0 k l acc i = some l := by
  intro d
  induction d with
  | zero =>
    intro k acc i h0 hd hk ha hall
    obtain ⟨k, rfl⟩ : ∃ m, k = m + 1 := ⟨k - 1, by omega⟩
    simp only [laws_toStringS.l0]
    rw [if_neg (by omega)]
    congr 1
    refine List.ext_getElem? fun j => ?_
    by_cases hj : j < l.length
    · exact hall j (by omega)
    · rw [List.getElem?_eq_none (by omega), List.getElem?_eq_none (by omega)]
  | succ d ih =>
    intro k acc i h0 hd hk ha hall
    obtain ⟨k, rfl⟩ : ∃ m, k = m + 1 := ⟨k - 1, by omega⟩
    have hw : wrap64 (i + 1) = i + 1 := by unfold wrap64; omega
    have hi : i.toNat < l.length := by omega
    simp only [laws_toStringS.l0, hw]
    rw [if_pos (by omega), if_pos h0, if_pos (by omega), s_rd l i hi]
    refine ih k _ (i + 1) (by omega) (by omega) (by omega) (by simpa using ha) (fun j hj => ?_)
    by_cases hji : j = i.toNat
    · subst hji
      rw [List.getElem?_set_self (by omega), List.getElem?_eq_getElem hi]
    · rw [List.getElem?_set_ne (fun h => hji h.symm)]
      exact hall j (by omega)
theorem s_to (l : List ByteArray) (hl : l.length ≤ 1048576) (k : Nat) (hk : 1048577 < k) : laws_toStringS.f k l = some l := by
  unfold laws_toStringS.f
  rw [if_pos (by omega), if_pos (by omega), s_to_loop l hl l.length k _ 0 (by omega) (by omega) (by omega) (by simp) (fun j hj => by omega)]


theorem j_loop (s u v : Int) (h0 : spec_SchemaOf.f s = some (u, v, true)) (h1 : impl_SchemaOf.f s = some (u, v, true)) (h2 : impl_GroupSize.f s = some (8 * u)) (h3 : spec_GroupSize.f s = some (8 * u)) (hu : u = 2 ∨ u = 3 ∨ u = 4)
    (l : List ByteArray) (hl : (l.length : Int) = u) (n : Int) (hn : n ≤ 8 * u) : ∀ (d k : Nat) (acc : List Int) (i : Int), 0 ≤ i → n - i = d → (acc.length : Int) = i → d + 1 < k →
    ∃ r, spec_JoinUnits.l0 k s l n acc i = some (strOfNums r, true) ∧ impl_JoinUnits.l0 k s l (acc ++ List.replicate d 0) n i = some (strOfNums r, true) := by
  intro d
  induction d with
  | zero =>
    intro k acc i g0 g1 g2 hk
    obtain ⟨k, rfl⟩ : ∃ m, k = m + 1 := ⟨k - 1, by omega⟩
    refine ⟨acc, ?_, ?_⟩
    · simp only [spec_JoinUnits.l0]
      rw [if_neg (by omega)]
    · simp only [impl_JoinUnits.l0, List.replicate_zero, List.append_nil]
      rw [if_neg (by omega)]
  | succ d ih =>
    intro k acc i g0 g1 g2 hk
    obtain ⟨k, rfl⟩ : ∃ m, k = m + 1 := ⟨k - 1, by omega⟩
    have hw : wrap64 (i + 1) = i + 1 := p_w64 (by omega) (by omega)
    obtain ⟨pi, ps⟩ := p_place s u v i h0 h1 h2 h3 hu g0 (by omega)
    obtain ⟨b0, b1, b2, b3⟩ := p_unit u i hu g0
    have c0 : i < n := by omega
    have c1 : i % (8 * u) / 4 % u < (l.length : Int) := by omega
    have c2 : acc.length < 140737488355328 := by omega
    have c3 : i < ((acc ++ List.replicate (d + 1) (0 : Int)).length : Int) := by simp; omega
    have ht : i.toNat = acc.length := by omega
    simp only [spec_JoinUnits.l0, impl_JoinUnits.l0, hw, ps, pi k (by omega), Option.bind_some, if_pos c0, if_pos b0, if_pos c1, if_pos b2, if_pos c2, if_pos g0, if_pos c3]
    by_cases c : i % (8 * u) / 4 / u * 4 + i % (8 * u) % 4 < ((rdOf ByteArray.empty l (i % (8 * u) / 4 % u)).size : Int)
    · simp only [if_pos c]
      obtain ⟨r, e1, e2⟩ := ih k (acc ++ [bt (rdOf ByteArray.empty l (i % (8 * u) / 4 % u)) (i % (8 * u) / 4 / u * 4 + i % (8 * u) % 4)]) (i + 1) (by omega) (by omega) (by simp; omega) (by omega)
      refine ⟨r, e1, ?_⟩
      rw [← e2, ht, List.set_append_right _ _ (Nat.le_refl _), Nat.sub_self, List.replicate_succ, List.set_cons_zero, List.append_assoc]
      rfl
    · simp only [if_neg c]
      obtain ⟨r, e1, e2⟩ := ih k (acc ++ [0]) (i + 1) (by omega) (by omega) (by simp; omega) (by omega)
      refine ⟨r, e1, ?_⟩
      rw [← e2, List.replicate_succ, List.append_assoc]
      rfl

theorem j_both (s : Int) (l : List ByteArray) (n : Int) (k : Nat) (hk : 100 < k) : ∃ r, spec_JoinUnits.f k s l n = some r ∧ impl_JoinUnits.f k s l n = some r := by
  obtain ⟨k, rfl⟩ : ∃ m, k = m + 1 := ⟨k - 1, by omega⟩
  unfold spec_JoinUnits.f impl_JoinUnits.f
  rcases p_size s with ⟨u, v, h0, h1, h2, h3, hu⟩ | ⟨h0, h1, h2, h3⟩
  · simp only [h0, h1, h2, h3, Option.bind_some, if_true]
    by_cases hl : (l.length : Int) = u
    · simp only [if_pos hl]
      unfold spec_l01In.f impl_within.f
      by_cases c : n ≥ 0
      · simp only [if_pos c, Option.bind_some]
        by_cases c2 : n ≤ 8 * u
        · simp only [c2, decide_true, Bool.not_true, spec_JoinUnits.j0, impl_JoinUnits.j0, Bool.false_eq_true, if_false, Option.bind_some]
          rw [if_pos c, if_pos (by omega)]
          obtain ⟨r, e1, e2⟩ := j_loop s u v h0 h1 h2 h3 hu l hl n c2 n.toNat k [] 0 (by omega) (by omega) (by simp) (by omega)
          refine ⟨_, e1, ?_⟩
          rw [List.length_replicate, show ((n.toNat : Nat) : Int) = n by omega]
          exact e2
        · exact ⟨(⟨#[]⟩, false), by simp [c2, spec_JoinUnits.j0], by simp [c2, impl_JoinUnits.j0]⟩
      · exact ⟨(⟨#[]⟩, false), by simp [c, spec_JoinUnits.j0], by simp [c, impl_JoinUnits.j0]⟩
    · exact ⟨(⟨#[]⟩, false), by simp [hl, spec_JoinUnits.j0], by simp [hl, impl_JoinUnits.j0]⟩
  · exact ⟨(⟨#[]⟩, false), by simp [h0, spec_JoinUnits.j0], by simp [h1, impl_JoinUnits.j0]⟩

theorem FnExactJoinUnits (s : Int) (l : List ByteArray) (n : Int) (_ : (Lit.int .i64 s).wf = true) (ho : l.length ≤ maxLen ∧ ∀ x ∈ l, x.size ≤ maxLen) (_ : (Lit.int .i64 n).wf = true) : ∃ k, laws_FnExactJoinUnits.f k s l n = some true := by
  refine ⟨1048600, ?_⟩
  obtain ⟨r, e, hr⟩ := s_sz l ho.1 ho.2 1048600 (by omega)
  unfold laws_FnExactJoinUnits.f
  rw [e]
  simp only [Option.bind_some]
  by_cases c : r < 0
  · rw [if_pos c]
  · rw [if_neg c]
    obtain ⟨hl, _⟩ := hr (by omega)
    obtain ⟨q, e1, e2⟩ := j_both s l n 1048600 (by omega)
    simp only [s_to l hl 1048600 (by omega), Option.bind_some, e1, e2, if_true, bne_self_eq_false]
    rw [show (1048600 : Nat) = 1048599 + 1 from rfl]
    simp only [laws_FnExactJoinUnits.j0, Bool.false_eq_true, if_false, s_to l hl 1048599 (by omega), s_eq l hl 1048599 (by omega), Option.bind_some, if_true]

end Go.Proofs.Ytmmepphohdnlmaa.Pure
