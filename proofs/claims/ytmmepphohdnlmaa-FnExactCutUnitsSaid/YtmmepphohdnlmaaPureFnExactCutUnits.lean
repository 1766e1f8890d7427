/- The program's CutUnits answers what the reference's answers, for every schema and text, in memory of its own. -/
import Derived.Test.YtmmepphohdnlmaaOCutUnits3
namespace Go.Proofs.Ytmmepphohdnlmaa.Pure
open Go.RowKit Go.Proofs.Ytmmepphohdnlmaa.OCutUnits Go.Proofs.YtmmepphohdnlmaaW.PrintWords Go.Proofs.YtmmepphohdnlmaaW.PrintLast Go.Proofs.YtmmepphohdnlmaaW.PrintMore
set_option linter.unusedSimpArgs false
set_option linter.unusedVariables false

theorem p_size (s : Int) : (∃ u v : Int, spec_SchemaOf.f s = some (u, v, true) ∧ impl_SchemaOf.f s = some (u, v, true) ∧ impl_GroupSize.f s = some (8 * u) ∧ spec_GroupSize.f s = some (8 * u) ∧ (u = 2 ∨ u = 3 ∨ u = 4)) ∨
    (spec_SchemaOf.f s = some (0, 0, false) ∧ impl_SchemaOf.f s = some (0, 0, false) ∧ impl_GroupSize.f s = some 0 ∧ spec_GroupSize.f s = some 0) := by
  by_cases h1 : s = 1
  · subst h1
    exact .inl ⟨2, 1, rfl, rfl, by simp [impl_GroupSize.f, impl_SchemaOf.f, wrap64], by simp [spec_GroupSize.f, spec_SchemaOf.f, wrap64], by omega⟩
  · by_cases h2 : s = 2
    · subst h2
      exact .inl ⟨3, 2, rfl, rfl, by simp [impl_GroupSize.f, impl_SchemaOf.f, wrap64], by simp [spec_GroupSize.f, spec_SchemaOf.f, wrap64], by omega⟩
    · by_cases h3 : s = 3
      · subst h3
        exact .inl ⟨4, 2, rfl, rfl, by simp [impl_GroupSize.f, impl_SchemaOf.f, wrap64], by simp [spec_GroupSize.f, spec_SchemaOf.f, wrap64], by omega⟩
      · exact .inr ⟨by simp [spec_SchemaOf.f, h1, h2, h3], by simp [impl_SchemaOf.f, h1, h2, h3], by simp [impl_GroupSize.f, impl_SchemaOf.f, h1, h2, h3, wrap64], by simp [spec_GroupSize.f, spec_SchemaOf.f, h1, h2, h3, wrap64]⟩

theorem p_words (u n : Int) (hu : u = 2 ∨ u = 3 ∨ u = 4) (hn : 0 ≤ n) (hn' : n ≤ 100000) :
    Int.tdiv n (8 * u) = n / (8 * u) ∧ Int.tmod n (8 * u) = n % (8 * u) ∧ Int.tdiv (n % (8 * u)) 4 = n % (8 * u) / 4 ∧ wrap64 (n % (8 * u) / 4) = n % (8 * u) / 4 ∧ Int.tmod (n % (8 * u) / 4) u = n % (8 * u) / 4 % u ∧ Int.tdiv (n % (8 * u) / 4) u = n % (8 * u) / 4 / u ∧
    Int.tmod (n % (8 * u)) 4 = n % (8 * u) % 4 ∧ wrap64 (n / (8 * u)) = n / (8 * u) ∧ wrap64 (n % (8 * u) / 4 / u) = n % (8 * u) / 4 / u ∧ wrap64 (n % (8 * u) / 4 / u * 4) = n % (8 * u) / 4 / u * 4 ∧
    wrap64 (n % (8 * u) / 4 / u * 4 + n % (8 * u) % 4) = n % (8 * u) / 4 / u * 4 + n % (8 * u) % 4 := by
  have p2 : 0 ≤ n % (8 * u) := Int.emod_nonneg _ (by omega)
  have p3 : 0 ≤ n % (8 * u) / 4 := by omega
  refine ⟨Int.tdiv_eq_ediv_of_nonneg hn, Int.tmod_eq_emod_of_nonneg hn, Int.tdiv_eq_ediv_of_nonneg p2, ?_, Int.tmod_eq_emod_of_nonneg p3, Int.tdiv_eq_ediv_of_nonneg p3, Int.tmod_eq_emod_of_nonneg p2, ?_, ?_, ?_, ?_⟩ <;>
    rcases hu with rfl | rfl | rfl <;> (unfold wrap64; omega)

/-- PlaceOf, both ways. -/
theorem p_place (s u v n : Int) (h0 : spec_SchemaOf.f s = some (u, v, true)) (h1 : impl_SchemaOf.f s = some (u, v, true)) (h2 : impl_GroupSize.f s = some (8 * u)) (h3 : spec_GroupSize.f s = some (8 * u)) (hu : u = 2 ∨ u = 3 ∨ u = 4) (hn : 0 ≤ n) (hn' : n ≤ 100000) :
    (∀ k, 0 < k → impl_PlaceOf.f k s n = some (n / (8 * u), n % (8 * u) / 4 % u, n % (8 * u) / 4 / u * 4 + n % (8 * u) % 4)) ∧ spec_PlaceOf.f s n = some (n / (8 * u), n % (8 * u) / 4 % u, n % (8 * u) / 4 / u * 4 + n % (8 * u) % 4) := by
  obtain ⟨t1, t2, t3, w3, t4, t5, t6, w1, w5, w6, w7⟩ := p_words u n hu hn hn'
  have n8 : ¬ 8 * u = 0 := by omega
  have n1 : ¬ u = 0 := by omega
  refine ⟨fun k hk => ?_, ?_⟩
  · obtain ⟨k, rfl⟩ : ∃ m, k = m + 1 := ⟨k - 1, by omega⟩
    unfold impl_PlaceOf.f impl_within.f
    simp only [h1, h2, impl_PlaceOf.j0, Option.bind_some, hn, hn', ge_iff_le, if_true, decide_true, Bool.not_true, Bool.false_eq_true, if_false, if_neg n8, if_neg n1]
    rw [t1, t2, t3, w3, t4, t5, t6, w1, w5, w6, w7]
  · unfold spec_PlaceOf.f spec_l01In.f
    simp only [h0, h3, Option.bind_some, hn, hn', ge_iff_le, if_true, decide_true, if_neg n8, if_neg n1]
    rw [t1, t2, t3, w3, t4, t5, t6, w1, w5, w6, w7]
theorem p_unit (u n : Int) (hu : u = 2 ∨ u = 3 ∨ u = 4) (hn : 0 ≤ n) : 0 ≤ n % (8 * u) / 4 % u ∧ n % (8 * u) / 4 % u < u ∧ 0 ≤ n % (8 * u) / 4 / u * 4 + n % (8 * u) % 4 ∧ n % (8 * u) / 4 / u * 4 + n % (8 * u) % 4 ≤ 7 := by
  rcases hu with rfl | rfl | rfl <;> omega
theorem p_w64 {x : Int} (h0 : -9223372036854775808 ≤ x) (h1 : x ≤ 9223372036854775807) : wrap64 x = x := by unfold wrap64; omega

theorem s_rd (l : List ByteArray) (i : Int) (hi : i.toNat < l.length) : rdOf ByteArray.empty l i = l[i.toNat] := by
  unfold rdOf
  rw [List.getD_eq_getElem?_getD, List.getElem?_eq_getElem hi]
  rfl
theorem s_eq_loop (l : List ByteArray) (hl : l.length ≤ 1048576) : ∀ (d k : Nat) (i : Int), 0 ≤ i → (l.length : Int) - i = d → d < k → laws_eqStringS.l0 k l l i = some true := by
  intro d
  induction d with
  | zero =>
    intro k i h0 hd hk
    obtain ⟨k, rfl⟩ : ∃ m, k = m + 1 := ⟨k - 1, by omega⟩
    simp only [laws_eqStringS.l0]
    rw [if_neg (by omega)]
  | succ d ih =>
    intro k i h0 hd hk
    obtain ⟨k, rfl⟩ : ∃ m, k = m + 1 := ⟨k - 1, by omega⟩
    have hw : wrap64 (i + 1) = i + 1 := by unfold wrap64; omega
    have hp : i < (l.length : Int) := by omega
    simp only [laws_eqStringS.l0, hw, if_pos hp, if_pos h0, if_true]
    exact ih k (i + 1) (by omega) (by omega) (by omega)
theorem s_eq (l : List ByteArray) (hl : l.length ≤ 1048576) (k : Nat) (hk : l.length < k) : laws_eqStringS.f k l l = some true := by
  unfold laws_eqStringS.f
  rw [if_pos rfl]
  exact s_eq_loop l hl l.length k 0 (by omega) (by omega) hk

theorem m_loop : ∀ (d : Nat) (n : Int) (acc : ByteArray), 0 ≤ n → n < 10 ^ d → acc.size + d ≤ 1000 → ∃ r : ByteArray, ∀ k, d < k → laws_markText.l0 k n acc = some r := by
  intro d
  induction d with
  | zero =>
    intro n acc h0 h1 ha
    refine ⟨(⟨#[109]⟩ : ByteArray) ++ acc, fun k hk => ?_⟩
    obtain ⟨k, rfl⟩ : ∃ m, k = m + 1 := ⟨k - 1, by omega⟩
    simp only [laws_markText.l0]
    rw [if_neg (by simp at h1; omega), if_pos (by omega)]
  | succ d ih =>
    intro n acc h0 h1 ha
    by_cases c : n > 0
    · have hsz : (strOfNums [(wrap64 (48 + (Int.tmod n 10))) % 256]).size = 1 := rfl
      have ht : Int.tdiv n 10 = n / 10 := Int.tdiv_eq_ediv_of_nonneg h0
      have h2 : n / 10 < 10 ^ d := by
        have : (10 : Int) ^ (d + 1) = 10 ^ d * 10 := Int.pow_succ ..
        omega
      by_cases big : n / 10 ≤ 9223372036854775807
      · have hw : wrap64 (n / 10) = n / 10 := by unfold wrap64; omega
        obtain ⟨r, hr⟩ := ih (n / 10) (strOfNums [(wrap64 (48 + (Int.tmod n 10))) % 256] ++ acc) (by omega) h2 (by rw [ByteArray.size_append, hsz]; omega)
        refine ⟨r, fun k hk => ?_⟩
        obtain ⟨k, rfl⟩ : ∃ m, k = m + 1 := ⟨k - 1, by omega⟩
        simp only [laws_markText.l0, Option.bind_some, ht, hw]
        rw [if_pos c, if_pos (by rw [hsz]; omega)]
        exact hr k (by omega)
      · obtain ⟨r, hr⟩ : ∃ r : ByteArray, r = ⟨#[]⟩ := ⟨_, rfl⟩
        have hw0 : 0 ≤ wrap64 (n / 10) ∨ wrap64 (n / 10) < 0 := by omega
        rcases hw0 with h | h
        · by_cases hlt : wrap64 (n / 10) < 10 ^ d
          · obtain ⟨r, hr⟩ := ih (wrap64 (n / 10)) (strOfNums [(wrap64 (48 + (Int.tmod n 10))) % 256] ++ acc) h hlt (by rw [ByteArray.size_append, hsz]; omega)
            refine ⟨r, fun k hk => ?_⟩
            obtain ⟨k, rfl⟩ : ∃ m, k = m + 1 := ⟨k - 1, by omega⟩
            simp only [laws_markText.l0, Option.bind_some, ht]
            rw [if_pos c, if_pos (by rw [hsz]; omega)]
            exact hr k (by omega)
          · unfold wrap64 at hlt h
            omega
        · refine ⟨(⟨#[109]⟩ : ByteArray) ++ (strOfNums [(wrap64 (48 + (Int.tmod n 10))) % 256] ++ acc), fun k hk => ?_⟩
          obtain ⟨k, rfl⟩ : ∃ m, k = m + 1 := ⟨k - 1, by omega⟩
          obtain ⟨k, rfl⟩ : ∃ m, k = m + 1 := ⟨k - 1, by omega⟩
          simp only [laws_markText.l0, Option.bind_some, ht]
          rw [if_pos c, if_pos (by rw [hsz]; omega), if_neg (by omega), if_pos (by rw [ByteArray.size_append, hsz]; omega)]
    · refine ⟨(⟨#[109]⟩ : ByteArray) ++ acc, fun k hk => ?_⟩
      obtain ⟨k, rfl⟩ : ∃ m, k = m + 1 := ⟨k - 1, by omega⟩
      simp only [laws_markText.l0]
      rw [if_neg c, if_pos (by omega)]
/-- A mark's text is one, whatever the rounds. -/
theorem m_text (n : Int) (h0 : 0 ≤ n) (h1 : n < 10 ^ 20) : ∃ r : ByteArray, ∀ k, 20 < k → laws_markText.f k n = some r := by
  unfold laws_markText.f
  by_cases c : n ≤ 0
  · exact ⟨_, fun k _ => by rw [if_pos c]⟩
  · obtain ⟨r, hr⟩ := m_loop 20 n ⟨#[]⟩ h0 h1 (by decide)
    exact ⟨r, fun k hk => by rw [if_neg c]; exact hr k hk⟩
noncomputable def m_t (n : Int) : ByteArray := open Classical in if h : 0 ≤ n ∧ n < 10 ^ 20 then Classical.choose (m_text n h.1 h.2) else ⟨#[]⟩
theorem m_is (n : Int) (h0 : 0 ≤ n) (h1 : n ≤ 100000000) (k : Nat) (hk : 20 < k) : laws_markText.f k n = some (m_t n) := by
  unfold m_t
  rw [dif_pos ⟨h0, by omega⟩]
  exact Classical.choose_spec (m_text n h0 (by omega)) k hk

theorem m_str_loop : ∀ (d k : Nat) (xs : List ByteArray) (m i : Int), xs.length ≤ 1048576 → 0 ≤ i → 0 ≤ m → m ≤ 1048576 + i → (xs.length : Int) - i = d → d + 21 < k →
    ∃ ys, laws_markStringS.l0 k xs m i = some (m + d, ys) ∧ ys.length = xs.length ∧ (∀ j : Nat, (j : Int) < i → ys[j]? = xs[j]?) ∧ ∀ j : Nat, i ≤ (j : Int) → j < xs.length → ys[j]? = some (m_t (m + (j - i))) := by
  intro d
  induction d with
  | zero =>
    intro k xs m i hx h0 _ _ h1 hk
    obtain ⟨k, rfl⟩ : ∃ m, k = m + 1 := ⟨k - 1, by omega⟩
    refine ⟨xs, ?_, rfl, fun _ _ => rfl, fun j _ _ => by omega⟩
    simp only [laws_markStringS.l0]
    rw [if_neg (by omega)]
    simp
  | succ d ih =>
    intro k xs m i hx h0 hm0 hm h1 hk
    obtain ⟨k, rfl⟩ : ∃ m, k = m + 1 := ⟨k - 1, by omega⟩
    have hw : wrap64 (i + 1) = i + 1 := by unfold wrap64; omega
    have hwm : wrap64 (m + 1) = m + 1 := by unfold wrap64; omega
    have hp : i < (xs.length : Int) := by omega
    obtain ⟨ys, e, hl, ha, hb⟩ := ih k (xs.set i.toNat (m_t m)) (m + 1) (i + 1) (by simpa using hx) (by omega) (by omega) (by omega) (by simp; omega) (by omega)
    rw [List.length_set] at hl hb
    refine ⟨ys, ?_, hl, fun j hj => ?_, fun j hj0 hj => ?_⟩
    · simp only [laws_markStringS.l0, hw, hwm, m_is m hm0 (by omega) k (by omega), Option.bind_some]
      rw [if_pos hp, if_pos h0, e]
      congr 2
      push_cast
      omega
    · rw [ha j (by omega), List.getElem?_set_ne (by omega)]
    · by_cases he : (j : Int) = i
      · rw [ha j (by omega), show i.toNat = j by omega, List.getElem?_set_self (by omega)]
        congr 2
        omega
      · rw [hb j (by omega) hj]
        congr 2
        omega
theorem m_str_held (ys : List ByteArray) (hy : ys.length ≤ 1048576) : ∀ (d k : Nat) (m i : Int), 0 ≤ i → 0 ≤ m → m ≤ 1048576 + i → (ys.length : Int) - i = d → d + 21 < k → (∀ j : Nat, i ≤ (j : Int) → j < ys.length → ys[j]? = some (m_t (m + (j - i)))) →
    laws_heldStringS.l0 k ys m i = some (m + d) := by
  intro d
  induction d with
  | zero =>
    intro k m i h0 _ _ h1 hk _
    obtain ⟨k, rfl⟩ : ∃ m, k = m + 1 := ⟨k - 1, by omega⟩
    simp only [laws_heldStringS.l0]
    rw [if_neg (by omega)]
    simp
  | succ d ih =>
    intro k m i h0 hm0 hm h1 hk hall
    obtain ⟨k, rfl⟩ : ∃ m, k = m + 1 := ⟨k - 1, by omega⟩
    have hw : wrap64 (i + 1) = i + 1 := by unfold wrap64; omega
    have hwm : wrap64 (m + 1) = m + 1 := by unfold wrap64; omega
    have hp : i < (ys.length : Int) := by omega
    have hi : i.toNat < ys.length := by omega
    have he : rdOf ByteArray.empty ys i = m_t m := by
      rw [s_rd ys i hi]
      have h := hall i.toNat (by omega) hi
      rw [List.getElem?_eq_getElem hi] at h
      injection h with h
      rw [h]
      congr 1
      omega
    simp only [laws_heldStringS.l0, hw, hwm, m_is m hm0 (by omega) k (by omega), Option.bind_some, he, if_true]
    rw [if_pos hp, if_pos h0, ih k (m + 1) (i + 1) (by omega) (by omega) (by omega) (by omega) (by omega) (fun j hj hj' => by rw [hall j (by omega) hj']; congr 2; omega)]
    congr 1
    push_cast
    omega
/-- Marks that are put into a list of texts are held by it. -/
theorem m_str (xs : List ByteArray) (hx : xs.length ≤ 1048576) (k : Nat) (hk : 1048600 < k) : ∃ ys, laws_markStringS.f k xs 1 = some (1 + (xs.length : Int), ys) ∧ ys.length = xs.length ∧ laws_heldStringS.f k ys 1 = some (1 + (xs.length : Int)) := by
  obtain ⟨ys, e, hl, _, hall⟩ := m_str_loop xs.length k xs 1 0 hx (by omega) (by omega) (by omega) (by omega) (by omega)
  refine ⟨ys, e, hl, ?_⟩
  unfold laws_heldStringS.f
  rw [m_str_held ys (by omega) ys.length k 1 0 (by omega) (by omega) (by omega) (by omega) (by omega) (fun j hj hj' => hall j hj (by omega)), hl]


theorem c_loop (s u v : Int) (h0 : spec_SchemaOf.f s = some (u, v, true)) (h1 : impl_SchemaOf.f s = some (u, v, true)) (h2 : impl_GroupSize.f s = some (8 * u)) (h3 : spec_GroupSize.f s = some (8 * u)) (hu : u = 2 ∨ u = 3 ∨ u = 4)
    (t : ByteArray) (ht : (t.size : Int) ≤ 8 * u) : ∀ (d k : Nat) (acc : List ByteArray) (i : Int), 0 ≤ i → (t.size : Int) - i = d → (acc.length : Int) = u → (∀ x ∈ acc, (x.size : Int) ≤ i) → d + 1 < k →
    ∃ r, spec_CutUnits.l0 k s t acc i = some (r, true) ∧ impl_CutUnits.l0 k s t acc i = some (r, true) ∧ (r.length : Int) = u := by
  intro d
  induction d with
  | zero =>
    intro k acc i g0 g1 g2 g3 hk
    obtain ⟨k, rfl⟩ : ∃ m, k = m + 1 := ⟨k - 1, by omega⟩
    refine ⟨acc, ?_, ?_, g2⟩
    · simp only [spec_CutUnits.l0]
      rw [if_neg (by omega)]
    · simp only [impl_CutUnits.l0]
      rw [if_neg (by omega)]
  | succ d ih =>
    intro k acc i g0 g1 g2 g3 hk
    obtain ⟨k, rfl⟩ : ∃ m, k = m + 1 := ⟨k - 1, by omega⟩
    have hw : wrap64 (i + 1) = i + 1 := p_w64 (by omega) (by omega)
    obtain ⟨pi, ps⟩ := p_place s u v i h0 h1 h2 h3 hu g0 (by omega)
    obtain ⟨b0, b1, b2, b3⟩ := p_unit u i hu g0
    have c0 : i < (t.size : Int) := by omega
    have c1 : i % (8 * u) / 4 % u < (acc.length : Int) := by omega
    have c2 : i ≤ i + 1 := by omega
    have c3 : i + 1 ≤ (t.size : Int) := by omega
    have hi : (i % (8 * u) / 4 % u).toNat < acc.length := by omega
    have hs := g3 _ (List.getElem_mem hi)
    rw [← s_rd acc _ hi] at hs
    have hx : (t.extract i.toNat (i + 1).toNat).size ≤ 1 := by rw [ByteArray.size_extract]; omega
    have c4 : (rdOf ByteArray.empty acc (i % (8 * u) / 4 % u)).size + (t.extract i.toNat (i + 1).toNat).size ≤ 9223372036854775807 := by omega
    simp only [spec_CutUnits.l0, impl_CutUnits.l0, hw, ps, pi k (by omega), Option.bind_some, if_pos c0, if_pos b0, if_pos c1, if_pos g0, if_pos c2, if_pos c3, if_pos c4]
    refine ih k _ (i + 1) (by omega) (by omega) (by simpa using g2) (fun x hxm => ?_) (by omega)
    rcases List.mem_or_eq_of_mem_set hxm with h | h
    · have := g3 x h
      omega
    · rw [h, ByteArray.size_append]
      omega

theorem c_both (s : Int) (t : ByteArray) (k : Nat) (hk : 100 < k) : ∃ r b, spec_CutUnits.f k s t = some (r, b) ∧ impl_CutUnits.f k s t = some (r, b) ∧ r.length ≤ 4 := by
  obtain ⟨k, rfl⟩ : ∃ m, k = m + 1 := ⟨k - 1, by omega⟩
  unfold spec_CutUnits.f impl_CutUnits.f
  rcases p_size s with ⟨u, v, h0, h1, h2, h3, hu⟩ | ⟨h0, h1, h2, h3⟩
  · simp only [h0, h1, h2, h3, Option.bind_some, if_true]
    by_cases c : (t.size : Int) > 8 * u
    · exact ⟨[], false, by simp [c, spec_CutUnits.j0], by simp [c, impl_CutUnits.j0], by simp⟩
    · have a1 : 0 ≤ u := by omega
      have a2 : u.toNat ≤ 17592186044416 := by omega
      obtain ⟨r, e1, e2, e3⟩ := c_loop s u v h0 h1 h2 h3 hu t (by omega) t.size k (List.replicate u.toNat ⟨#[]⟩) 0 (by omega) (by omega) (by simp; omega) (fun x hx => by rw [List.eq_of_mem_replicate hx]; decide) (by omega)
      refine ⟨r, true, ?_, ?_, by omega⟩
      · simp only [c, decide_false, spec_CutUnits.j0, Bool.false_eq_true, if_false, if_pos a1, if_pos a2, e1]
      · simp only [c, decide_false, impl_CutUnits.j0, Bool.false_eq_true, if_false, if_pos a1, if_pos a2, e2]
  · exact ⟨[], false, by simp [h0, spec_CutUnits.j0], by simp [h1, impl_CutUnits.j0], by simp⟩

theorem FnExactCutUnits : laws_FnExactCutUnits.Pure := by
  intro s t _ _
  by_cases c : (t.size : Int) > 1048576
  · exact ⟨0, by unfold laws_FnExactCutUnits.f; rw [if_pos c]⟩
  · refine ⟨1048700, ?_⟩
    obtain ⟨r, b, e1, e2, e3⟩ := c_both s t 1048700 (by omega)
    obtain ⟨ys, m1, m2, m3⟩ := m_str r (by omega) 1048699 (by omega)
    obtain ⟨r', b', f1, f2, _⟩ := c_both s t 1048699 (by omega)
    have hrr : r' = r ∧ b' = b := by
      have := at_rounds (g := fun k => impl_CutUnits.f k s t) (fun k => impl_CutUnits.mono s t k) (show 1048699 ≤ 1048700 by omega) f2
      rw [e2] at this
      simp only [Option.some.injEq, Prod.mk.injEq] at this
      exact ⟨this.1.symm, this.2.symm⟩
    obtain ⟨rfl, rfl⟩ := hrr
    obtain ⟨zs, n1, n2, n3⟩ := m_str r' (by omega) 1048698 (by omega)
    have hn : ¬ 1 + (r'.length : Int) < 0 := by omega
    have m4 : laws_heldStringS.f 1048698 ys 1 = some (1 + (r'.length : Int)) := by
      have h1 := at_rounds (g := fun k => laws_markStringS.f k r' 1) (fun k => laws_markStringS.mono r' 1 k) (show 1048698 ≤ 1048699 by omega) n1
      simp only [m1, Option.some.injEq, Prod.mk.injEq, true_and] at h1
      rw [h1]
      exact n3
    unfold laws_FnExactCutUnits.f
    simp only [if_neg c, e1, e2, s_eq r' (by omega) 1048700 (by omega), Option.bind_some, if_true, bne_self_eq_false]
    rw [show (1048700 : Nat) = 1048699 + 1 from rfl]
    simp only [laws_FnExactCutUnits.j0, Bool.false_eq_true, if_false, m1, m3, if_neg hn, if_true, f2, s_eq r' (by omega) 1048699 (by omega), Option.bind_some, bne_self_eq_false]
    rw [show (1048699 : Nat) = 1048698 + 1 from rfl]
    simp only [laws_FnExactCutUnits.j1, Bool.false_eq_true, if_false, m4, if_neg hn, if_true, Option.bind_some]

end Go.Proofs.Ytmmepphohdnlmaa.Pure
