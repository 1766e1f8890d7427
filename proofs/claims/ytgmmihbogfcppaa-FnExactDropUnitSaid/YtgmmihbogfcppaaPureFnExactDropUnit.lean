/- The program's DropUnit answers what the reference's answers, for every host, group and index; it leaves what it is given, and shares nothing. -/
import Derived.Test.YtgmmihbogfcppaaQDU3
namespace Go.Proofs.Ytgmmihbogfcppaa.Pure
open Go.RowKit Go.Proofs.Ytgmmihbogfcppaa.QDU Go.Proofs.YtgmmihbogfcppaaW.PrintWords Go.Proofs.YtgmmihbogfcppaaW.PrintLast Go.Proofs.YtgmmihbogfcppaaW.PrintMore
set_option linter.unusedSimpArgs false
set_option linter.unusedVariables false

theorem h_w64 {x : Int} (h0 : -9223372036854775808 ≤ x) (h1 : x ≤ 9223372036854775807) : wrap64 x = x := by unfold wrap64; omega

theorem h_sz_loop (l : List S50) (hl : l.length ≤ 1048576) (hs : ∀ x ∈ l, x.f2.size ≤ maxLen) : ∀ (d k : Nat) (left i : Int), 0 ≤ i → 0 ≤ left → left ≤ 1048576 → (l.length : Int) - i = d → d < k →
    ∃ r, laws_szUnitS.l0 k l left i = some r ∧ r ≤ 1048576 ∧ (0 ≤ r → ∀ j : Nat, i ≤ (j : Int) → ∀ x, l[j]? = some x → x.f2.size ≤ 1048576) := by
  intro d
  induction d with
  | zero =>
    intro k left i h0 h1 h2 hd hk
    obtain ⟨k, rfl⟩ : ∃ m, k = m + 1 := ⟨k - 1, by omega⟩
    refine ⟨left, ?_, h2, fun _ j hj x hx => ?_⟩
    · simp only [laws_szUnitS.l0]
      rw [if_neg (by omega)]
    · have := (List.getElem?_eq_some_iff.1 hx).1
      omega
  | succ d ih =>
    intro k left i h0 h1 h2 hd hk
    obtain ⟨k, rfl⟩ : ∃ m, k = m + 1 := ⟨k - 1, by omega⟩
    have hw : wrap64 (i + 1) = i + 1 := h_w64 (by omega) (by omega)
    have hi : i.toNat < l.length := by omega
    have he : rd_T50 l i = l[i.toNat] := by
      unfold rd_T50
      rw [List.getD_eq_getElem?_getD, List.getElem?_eq_getElem hi]
      rfl
    have hsz := hs _ (List.getElem_mem hi)
    rw [← he] at hsz
    unfold maxLen at hsz
    have hw2 : wrap64 (left - ((rd_T50 l i).f2.size : Int)) = left - ((rd_T50 l i).f2.size : Int) := h_w64 (by omega) (by omega)
    simp only [laws_szUnitS.l0, hw, laws_szUnit.f, hw2]
    rw [if_pos (by omega), if_pos h0]
    by_cases c : left - ((rd_T50 l i).f2.size : Int) < 0
    · rw [if_pos c]
      refine ⟨-1, by simp, by omega, fun h => by omega⟩
    · rw [if_neg c]
      simp only [Option.bind_some]
      rw [if_neg c]
      obtain ⟨r, e, e2, e3⟩ := ih k (left - ((rd_T50 l i).f2.size : Int)) (i + 1) (by omega) (by omega) (by omega) (by omega) (by omega)
      refine ⟨r, e, e2, fun hr j hj x hx => ?_⟩
      by_cases hji : (j : Int) = i
      · have : j = i.toNat := by omega
        subst this
        rw [List.getElem?_eq_getElem hi] at hx
        injection hx with hx
        rw [← hx, ← he]
        omega
      · exact e3 hr j (by omega) x hx

theorem h_sz (a : Int) (b : Bool) (l : List S50) (hl : l.length ≤ maxLen) (hs : ∀ x ∈ l, x.f2.size ≤ maxLen) (k : Nat) (hk : 1048577 < k) :
    ∃ r, laws_szHost.f k a b l 1048576 = some r ∧ (0 ≤ r → l.length ≤ 1048576 ∧ ∀ x ∈ l, x.f2.size ≤ 1048576) := by
  unfold maxLen at hl
  have hw : wrap64 (1048576 - (l.length : Int)) = 1048576 - (l.length : Int) := h_w64 (by omega) (by omega)
  unfold laws_szHost.f laws_szUnitS.f
  rw [hw]
  by_cases c : 1048576 - (l.length : Int) < 0
  · rw [if_pos c]
    exact ⟨-1, by simp, fun h => by omega⟩
  · rw [if_neg c]
    obtain ⟨r, e, e2, e3⟩ := h_sz_loop l (by omega) hs l.length k (1048576 - (l.length : Int)) 0 (by omega) (by omega) (by omega) (by omega) (by omega)
    rw [e]
    simp only [Option.bind_some]
    by_cases c2 : r < 0
    · rw [if_pos c2]
      exact ⟨-1, rfl, fun h => by omega⟩
    · rw [if_neg c2]
      refine ⟨r, rfl, fun h => ⟨by omega, fun x hx => ?_⟩⟩
      obtain ⟨j, hj, rfl⟩ := List.mem_iff_getElem.1 hx
      exact e3 h j (by omega) _ (List.getElem?_eq_getElem hj)

def h_conv (x : S50) : S53 := ⟨x.f0, x.f1, x.f2, x.f3⟩

theorem h_to_loop (l : List S50) (hl : l.length ≤ 1048576) : ∀ (d k : Nat) (acc : List S53) (i : Int), 0 ≤ i → (l.length : Int) - i = d → d < k → acc.length = l.length → (∀ j : Nat, (j : Int) < i → acc[j]? = (l.map h_conv)[j]?) →
    laws_toUnitS.l0 k l acc i = some (l.map h_conv) := by
  intro d
  induction d with
  | zero =>
    intro k acc i h0 hd hk ha hall
    obtain ⟨k, rfl⟩ : ∃ m, k = m + 1 := ⟨k - 1, by omega⟩
    simp only [laws_toUnitS.l0]
    rw [if_neg (by omega)]
    congr 1
    refine List.ext_getElem? fun j => ?_
    by_cases hj : j < l.length
    · exact hall j (by omega)
    · rw [List.getElem?_eq_none (by omega), List.getElem?_eq_none (by simp; omega)]
  | succ d ih =>
    intro k acc i h0 hd hk ha hall
    obtain ⟨k, rfl⟩ : ∃ m, k = m + 1 := ⟨k - 1, by omega⟩
    have hw : wrap64 (i + 1) = i + 1 := h_w64 (by omega) (by omega)
    have hi : i.toNat < l.length := by omega
    have he : rd_T50 l i = l[i.toNat] := by
      unfold rd_T50
      rw [List.getD_eq_getElem?_getD, List.getElem?_eq_getElem hi]
      rfl
    simp only [laws_toUnitS.l0, hw, laws_toUnit.f, Option.bind_some]
    rw [if_pos (by omega), if_pos h0, if_pos (by omega)]
    refine ih k _ (i + 1) (by omega) (by omega) (by omega) (by simpa using ha) (fun j hj => ?_)
    by_cases hji : j = i.toNat
    · subst hji
      rw [List.getElem?_set_self (by omega), List.getElem?_map, List.getElem?_eq_getElem hi, he]
      rfl
    · rw [List.getElem?_set_ne (fun h => hji h.symm)]
      exact hall j (by omega)

theorem h_to (a : Int) (b : Bool) (l : List S50) (hl : l.length ≤ 1048576) (k : Nat) (hk : 1048577 < k) : laws_toHost.f k a b l = some (a, b, l.map h_conv) := by
  unfold laws_toHost.f laws_toUnitS.f
  rw [if_pos (by omega), if_pos (by omega), h_to_loop l hl l.length k _ 0 (by omega) (by omega) (by omega) (by simp) (fun j hj => by omega)]
  rfl

theorem h_eq_loop (l : List S53) (hl : l.length ≤ 1048576) : ∀ (d k : Nat) (i : Int), 0 ≤ i → (l.length : Int) - i = d → d < k → laws_eqUnitS.l0 k l l i = some true := by
  intro d
  induction d with
  | zero =>
    intro k i h0 hd hk
    obtain ⟨k, rfl⟩ : ∃ m, k = m + 1 := ⟨k - 1, by omega⟩
    simp only [laws_eqUnitS.l0]
    rw [if_neg (by omega)]
  | succ d ih =>
    intro k i h0 hd hk
    obtain ⟨k, rfl⟩ : ∃ m, k = m + 1 := ⟨k - 1, by omega⟩
    have hw : wrap64 (i + 1) = i + 1 := h_w64 (by omega) (by omega)
    have hp : i < (l.length : Int) := by omega
    simp only [laws_eqUnitS.l0, hw, laws_eqUnit.f, if_pos hp, if_pos h0, if_true, Option.bind_some]
    exact ih k (i + 1) (by omega) (by omega) (by omega)

theorem h_eq (a : Int) (b : Bool) (l : List S53) (hl : l.length ≤ 1048576) (k : Nat) (hk : 1048577 < k) : laws_eqHost.f k a b l a b l = some true := by
  unfold laws_eqHost.f laws_eqUnitS.f
  rw [h_eq_loop l hl l.length k 0 (by omega) (by omega) (by omega)]
  simp

theorem idx_range {α : Type} (eq : α → α → Bool) (x : α) : ∀ (l : List α) (i : Nat), Lib.idxByFrom eq x l i = -1 ∨ ((i : Int) ≤ Lib.idxByFrom eq x l i ∧ Lib.idxByFrom eq x l i < (i : Int) + (l.length : Int))
  | [], _ => .inl rfl
  | y :: l, i => by
    rw [Lib.idxByFrom]
    by_cases c : eq x y = true
    · rw [if_pos c, List.length_cons]
      exact .inr ⟨by omega, by omega⟩
    · rw [if_neg c, List.length_cons]
      rcases idx_range eq x l (i + 1) with h | ⟨h1, h2⟩
      · exact .inl h
      · exact .inr ⟨by omega, by omega⟩
theorem at_rd (l : List S53) (i : Int) (hi : i.toNat < l.length) : rd_T53 l i = l[i.toNat] := by
  unfold rd_T53
  rw [List.getD_eq_getElem?_getD, List.getElem?_eq_getElem hi]
  rfl
theorem at_loop (a0 : Int) (b0 : Bool) (l : List S53) (hl : l.length ≤ 1048576) (g ix : Int) : ∀ (d k : Nat) (i : Int), 0 ≤ i → (l.length : Int) - i = d → d < k →
    spec_l14At.l0 k g ix i a0 b0 l = some (Lib.idxByFrom (fun _ y => impl_unitAt.p g ix y) default (l.drop i.toNat) i.toNat) := by
  intro d
  induction d with
  | zero =>
    intro k i h0 h1 hk
    obtain ⟨k, rfl⟩ : ∃ m, k = m + 1 := ⟨k - 1, by omega⟩
    have c : ¬ i < (l.length : Int) := by omega
    rw [List.drop_eq_nil_of_le (by omega)]
    simp only [spec_l14At.l0, if_neg c]
    rfl
  | succ d ih =>
    intro k i h0 h1 hk
    obtain ⟨k, rfl⟩ : ∃ m, k = m + 1 := ⟨k - 1, by omega⟩
    have c : i < (l.length : Int) := by omega
    have hi : i.toNat < l.length := by omega
    have hw : wrap64 (i + 1) = i + 1 := by unfold wrap64; omega
    have e := ih k (i + 1) (by omega) (by omega) (by omega)
    rw [show (i + 1).toNat = i.toNat + 1 by omega] at e
    rw [List.drop_eq_getElem_cons hi]
    simp only [spec_l14At.l0, if_pos c, if_pos h0, hw, e, at_rd l i hi, Lib.idxByFrom, impl_unitAt.p]
    by_cases c1 : l[i.toNat].f0 = g
    · by_cases c2 : l[i.toNat].f1 = ix
      · simp only [if_pos c1, if_pos c2, c1, c2, decide_true, Bool.and_self, if_true]
        congr 1
        omega
      · simp only [if_pos c1, if_neg c2, c1, c2, decide_true, decide_false, Bool.and_false, Bool.false_eq_true, if_false, ite_self]
    · simp only [if_neg c1, c1, decide_false, Bool.false_and, Bool.false_eq_true, if_false]
/-- Where the unit is, both ways. -/
theorem at_both (a0 : Int) (b0 : Bool) (l : List S53) (hl : l.length ≤ 1048576) (g ix : Int) : ∃ r, (r = -1 ∨ (0 ≤ r ∧ r < (l.length : Int))) ∧ ∀ k, 1048577 < k → spec_l14At.f k a0 b0 l g ix = some r ∧ impl_unitAt.f k a0 b0 l g ix = some r := by
  refine ⟨Lib.idxBy (fun _ y => impl_unitAt.p g ix y) l default, ?_, fun k hk => ⟨?_, rfl⟩⟩
  · have := idx_range (fun (_ : S53) y => impl_unitAt.p g ix y) default l 0
    unfold Lib.idxBy
    omega
  · unfold spec_l14At.f Lib.idxBy
    rw [at_loop a0 b0 l hl g ix l.length k 0 (by omega) (by omega) (by omega)]
    simp

theorem m_loop : ∀ (d : Nat) (n : Int) (acc : ByteArray), 0 ≤ n → n < 10 ^ d → acc.size + d ≤ 1000 → ∃ r : ByteArray, ∀ k, d < k → laws_markText.l0 k n acc = some r := by
  intro d
  induction d with
  | zero =>
    intro n acc h0 h1 ha
    refine ⟨(⟨#[109]⟩ : ByteArray) ++ acc, fun k hk => ?_⟩
    obtain ⟨k, rfl⟩ : ∃ m, k = m + 1 := ⟨k - 1, by omega⟩
    simp only [laws_markText.l0]
    rw [if_neg (by simp at h1; omega), if_pos (by omega)]
  | succ d ih =>
    intro n acc h0 h1 ha
    by_cases c : n > 0
    · have hsz : (strOfNums [(wrap64 (48 + (Int.tmod n 10))) % 256]).size = 1 := rfl
      have ht : Int.tdiv n 10 = n / 10 := Int.tdiv_eq_ediv_of_nonneg h0
      have h2 : n / 10 < 10 ^ d := by
        have : (10 : Int) ^ (d + 1) = 10 ^ d * 10 := Int.pow_succ ..
        omega
      by_cases big : n / 10 ≤ 9223372036854775807
      · have hw : wrap64 (n / 10) = n / 10 := by unfold wrap64; omega
        obtain ⟨r, hr⟩ := ih (n / 10) (strOfNums [(wrap64 (48 + (Int.tmod n 10))) % 256] ++ acc) (by omega) h2 (by rw [ByteArray.size_append, hsz]; omega)
        refine ⟨r, fun k hk => ?_⟩
        obtain ⟨k, rfl⟩ : ∃ m, k = m + 1 := ⟨k - 1, by omega⟩
        simp only [laws_markText.l0, Option.bind_some, ht, hw]
        rw [if_pos c, if_pos (by rw [hsz]; omega)]
        exact hr k (by omega)
      · obtain ⟨r, hr⟩ : ∃ r : ByteArray, r = ⟨#[]⟩ := ⟨_, rfl⟩
        have hw0 : 0 ≤ wrap64 (n / 10) ∨ wrap64 (n / 10) < 0 := by omega
        rcases hw0 with h | h
        · by_cases hlt : wrap64 (n / 10) < 10 ^ d
          · obtain ⟨r, hr⟩ := ih (wrap64 (n / 10)) (strOfNums [(wrap64 (48 + (Int.tmod n 10))) % 256] ++ acc) h hlt (by rw [ByteArray.size_append, hsz]; omega)
            refine ⟨r, fun k hk => ?_⟩
            obtain ⟨k, rfl⟩ : ∃ m, k = m + 1 := ⟨k - 1, by omega⟩
            simp only [laws_markText.l0, Option.bind_some, ht]
            rw [if_pos c, if_pos (by rw [hsz]; omega)]
            exact hr k (by omega)
          · unfold wrap64 at hlt h
            omega
        · refine ⟨(⟨#[109]⟩ : ByteArray) ++ (strOfNums [(wrap64 (48 + (Int.tmod n 10))) % 256] ++ acc), fun k hk => ?_⟩
          obtain ⟨k, rfl⟩ : ∃ m, k = m + 1 := ⟨k - 1, by omega⟩
          obtain ⟨k, rfl⟩ : ∃ m, k = m + 1 := ⟨k - 1, by omega⟩
          simp only [laws_markText.l0, Option.bind_some, ht]
          rw [if_pos c, if_pos (by rw [hsz]; omega), if_neg (by omega), if_pos (by rw [ByteArray.size_append, hsz]; omega)]
    · refine ⟨(⟨#[109]⟩ : ByteArray) ++ acc, fun k hk => ?_⟩
      obtain ⟨k, rfl⟩ : ∃ m, k = m + 1 := ⟨k - 1, by omega⟩
      simp only [laws_markText.l0]
      rw [if_neg c, if_pos (by omega)]
/-- A mark's text is one, whatever the rounds. -/
theorem m_text (n : Int) (h0 : 0 ≤ n) (h1 : n < 10 ^ 20) : ∃ r : ByteArray, ∀ k, 20 < k → laws_markText.f k n = some r := by
  unfold laws_markText.f
  by_cases c : n ≤ 0
  · exact ⟨_, fun k _ => by rw [if_pos c]⟩
  · obtain ⟨r, hr⟩ := m_loop 20 n ⟨#[]⟩ h0 h1 (by decide)
    exact ⟨r, fun k hk => by rw [if_neg c]; exact hr k hk⟩
noncomputable def m_t (n : Int) : ByteArray := open Classical in if h : 0 ≤ n ∧ n < 10 ^ 20 then Classical.choose (m_text n h.1 h.2) else ⟨#[]⟩
theorem m_is (n : Int) (h0 : 0 ≤ n) (h1 : n ≤ 100000000) (k : Nat) (hk : 20 < k) : laws_markText.f k n = some (m_t n) := by
  unfold m_t
  rw [dif_pos ⟨h0, by omega⟩]
  exact Classical.choose_spec (m_text n h0 (by omega)) k hk

noncomputable def mu (n : Int) : S53 := ⟨n, n + 1, m_t (n + 2), n + 3⟩
theorem mu_rd (xs : List S53) (i : Int) (hi : i.toNat < xs.length) (v : S53) : rd_T53 (xs.set i.toNat v) i = v := by
  unfold rd_T53
  rw [List.getD_eq_getElem?_getD, List.getElem?_set_self hi]
  rfl
theorem mu_w (m : Int) (h0 : 0 ≤ m) (h1 : m ≤ 5000000) : wrap64 (m + 1) = m + 1 ∧ wrap64 (m + 1 + 1) = m + 2 ∧ wrap64 (m + 2 + 1) = m + 3 ∧ wrap64 (m + 3 + 1) = m + 4 := by
  unfold wrap64
  omega
theorem mu_mark : ∀ (d : Nat) (xs : List S53) (m i : Int), xs.length ≤ 1048576 → 0 ≤ i → 0 ≤ m → m ≤ 1 + 4 * i → (xs.length : Int) - i = d →
    ∃ ys, (∀ k, d + 21 < k → laws_markUnitS.l0 k xs m i = some (m + 4 * d, ys)) ∧ ys.length = xs.length ∧ (∀ j : Nat, (j : Int) < i → ys[j]? = xs[j]?) ∧ ∀ j : Nat, i ≤ (j : Int) → j < xs.length → ys[j]? = some (mu (m + 4 * (j - i))) := by
  intro d
  induction d with
  | zero =>
    intro xs m i hx h0 _ _ h1
    refine ⟨xs, fun k hk => ?_, rfl, fun _ _ => rfl, fun j _ _ => by omega⟩
    obtain ⟨k, rfl⟩ : ∃ m, k = m + 1 := ⟨k - 1, by omega⟩
    have c : ¬ i < (xs.length : Int) := by omega
    simp only [laws_markUnitS.l0, if_neg c]
    simp
  | succ d ih =>
    intro xs m i hx h0 hm0 hm h1
    have hw : wrap64 (i + 1) = i + 1 := by unfold wrap64; omega
    obtain ⟨w1, w2, w3, w4⟩ := mu_w m hm0 (by omega)
    have hp : i < (xs.length : Int) := by omega
    have hi : i.toNat < xs.length := by omega
    have rs := mu_rd xs i hi
    obtain ⟨ys, e, hl, ha, hb⟩ := ih (xs.set i.toNat (mu m)) (m + 4) (i + 1) (by simpa using hx) (by omega) (by omega) (by omega) (by simp; omega)
    rw [List.length_set] at hl hb
    refine ⟨ys, fun k hk => ?_, hl, fun j hj => ?_, fun j hj0 hj => ?_⟩
    · obtain ⟨k, rfl⟩ : ∃ m, k = m + 1 := ⟨k - 1, by omega⟩
      have hmt := m_is (m + 2) (by omega) (by omega) k (by omega)
      simp only [laws_markUnitS.l0, if_pos hp, if_pos h0, hw, w1, w2, w3, w4, Option.bind_some, hmt, List.set_set, rs]
      have e' := e k (by omega)
      unfold mu at e'
      rw [e']
      congr 2
      push_cast
      omega
    · rw [ha j (by omega), List.getElem?_set_ne (by omega)]
    · by_cases he : (j : Int) = i
      · rw [ha j (by omega), show i.toNat = j by omega, List.getElem?_set_self (by omega)]
        congr 2
        omega
      · rw [hb j (by omega) hj]
        congr 2
        omega
theorem mu_held (ys : List S53) (hy : ys.length ≤ 1048576) : ∀ (d k : Nat) (m i : Int), 0 ≤ i → 0 ≤ m → m ≤ 1 + 4 * i → (ys.length : Int) - i = d → d + 21 < k → (∀ j : Nat, i ≤ (j : Int) → j < ys.length → ys[j]? = some (mu (m + 4 * (j - i)))) →
    laws_heldUnitS.l0 k ys m i = some (m + 4 * d) := by
  intro d
  induction d with
  | zero =>
    intro k m i h0 _ _ h1 hk _
    obtain ⟨k, rfl⟩ : ∃ m, k = m + 1 := ⟨k - 1, by omega⟩
    have c : ¬ i < (ys.length : Int) := by omega
    simp only [laws_heldUnitS.l0, if_neg c]
    simp
  | succ d ih =>
    intro k m i h0 hm0 hm h1 hk hall
    obtain ⟨k, rfl⟩ : ∃ m, k = m + 1 := ⟨k - 1, by omega⟩
    have hw : wrap64 (i + 1) = i + 1 := by unfold wrap64; omega
    obtain ⟨w1, w2, w3, w4⟩ := mu_w m hm0 (by omega)
    have hp : i < (ys.length : Int) := by omega
    have hi : i.toNat < ys.length := by omega
    have hmt := m_is (m + 2) (by omega) (by omega) k (by omega)
    have he : rd_T53 ys i = mu m := by
      have h := hall i.toNat (by omega) hi
      unfold rd_T53
      rw [List.getD_eq_getElem?_getD, h]
      show mu _ = mu _
      congr 1
      omega
    have hr := ih k (m + 4) (i + 1) (by omega) (by omega) (by omega) (by omega) (by omega) (fun j hj hj' => by rw [hall j (by omega) hj']; congr 2; omega)
    simp only [laws_heldUnitS.l0, if_pos hp, if_pos h0, hw, w1, w2, w3, w4, Option.bind_some, hmt, he, mu, if_true, hr]
    congr 1
    push_cast
    omega
/-- Marks that are put into a host are held by it. -/
theorem mu_host (a : Int) (b : Bool) (xs : List S53) (hx : xs.length ≤ 1048576) : ∃ ys n, 0 ≤ n ∧ ∀ k, 1048600 < k → laws_markHost.f k a b xs 1 = some (n, ys) ∧ laws_heldHost.f k a b ys 1 = some n := by
  obtain ⟨ys, e, hl, _, hall⟩ := mu_mark xs.length xs 1 0 hx (by omega) (by omega) (by omega) (by omega)
  refine ⟨ys, 1 + 4 * (xs.length : Int), by omega, fun k hk => ⟨?_, ?_⟩⟩
  · unfold laws_markHost.f laws_markUnitS.f
    rw [e k (by omega)]
    rfl
  · have hh := mu_held ys (by omega) ys.length k 1 0 (by omega) (by omega) (by omega) (by omega) (by omega) (fun j hj hj' => hall j hj (by omega))
    have c : ¬ (1 + 4 * (ys.length : Int)) < 0 := by omega
    unfold laws_heldHost.f laws_heldUnitS.f
    rw [hl] at hh c
    rw [hh]
    simp only [Option.bind_some, if_neg c]

theorem drop_both (a : Int) (b : Bool) (l : List S53) (hl : l.length ≤ 1048576) (g ix : Int) : ∃ M t, M.length ≤ 1048576 ∧ ∀ k, 1048577 < k → spec_DropUnit.f k a b l g ix = some (a, b, M, t) ∧ impl_DropUnit.f k a b l g ix = some (a, b, M, t) := by
  obtain ⟨t, ht, hk1⟩ := at_both a b l hl g ix
  have z : ([] : List S53).length + l.length < 3518437208883 := by simp only [List.length_nil]; omega
  have c1 : spec_l14Copy.f a b l = some (a, b, l) := by
    unfold spec_l14Copy.f
    simp only [Option.bind_some, if_pos z, List.nil_append]
  have c2 : impl_copyHost.f a b l = some (a, b, l) := by
    unfold impl_copyHost.f
    simp only [if_pos z, List.nil_append]
  by_cases c : t < 0
  · refine ⟨l, false, hl, fun k hk => ?_⟩
    obtain ⟨e1, e2⟩ := hk1 k hk
    unfold spec_DropUnit.f impl_DropUnit.f
    simp only [c1, c2, e1, e2, Option.bind_some, if_pos c, and_self]
  · have h0 : 0 ≤ t := by omega
    have h1 : t < (l.length : Int) := by omega
    have h2 : t ≤ (l.length : Int) := by omega
    have hw : wrap64 (t + 1) = t + 1 := by unfold wrap64; omega
    have h3 : 0 ≤ t + 1 := by omega
    have h4 : t + 1 ≤ (l.length : Int) := by omega
    refine ⟨l.eraseIdx t.toNat, true, Nat.le_trans (List.length_eraseIdx_le _ _) hl, fun k hk => ?_⟩
    obtain ⟨e1, e2⟩ := hk1 k hk
    unfold spec_DropUnit.f impl_DropUnit.f
    simp only [c1, c2, e1, e2, Option.bind_some, if_neg c, if_pos h0, if_pos h1, if_pos h2, hw, if_pos h3, if_pos h4, and_self]

theorem FnExactDropUnit (a : Int) (b : Bool) (l : List S50) (g ix : Int) (ho : (Lit.int .i64 a).wf = true ∧ True ∧ l.length ≤ maxLen ∧ ∀ x ∈ l, (Lit.int .i64 x.f0).wf = true ∧ (Lit.int .i64 x.f1).wf = true ∧ x.f2.size ≤ maxLen ∧ (Lit.int .i64 x.f3).wf = true) (_ : (Lit.int .i64 g).wf = true) (_ : (Lit.int .i64 ix).wf = true) :
    ∃ k, laws_FnExactDropUnit.f k a b l g ix = some true := by
  obtain ⟨_, _, hl, hx⟩ := ho
  obtain ⟨K, hK⟩ : ∃ K : Nat, K = 1048700 := ⟨_, rfl⟩
  refine ⟨K + 1 + 1 + 1, ?_⟩
  obtain ⟨r, e, hr⟩ := h_sz a b l hl (fun x h => (hx x h).2.2.1) (K + 1 + 1 + 1) (by omega)
  unfold laws_FnExactDropUnit.f
  rw [e]
  simp only [Option.bind_some]
  by_cases c : r < 0
  · rw [if_pos c]
  · rw [if_neg c]
    obtain ⟨hl2, _⟩ := hr (by omega)
    have hL : (l.map h_conv).length ≤ 1048576 := by simpa using hl2
    have to_ := fun k hk => h_to a b l hl2 k hk
    obtain ⟨M, t, hM, hd⟩ := drop_both a b (l.map h_conv) hL g ix
    obtain ⟨y1, n1, hn1, hm1⟩ := mu_host a b (l.map h_conv) hL
    obtain ⟨y2, n2, hn2, hm2⟩ := mu_host a b M hM
    have q1 : ¬ n1 < 0 := by omega
    have q2 : ¬ n2 < 0 := by omega
    have eq1 := fun k hk => h_eq a b (l.map h_conv) hL k hk
    have eq2 := fun k hk => h_eq a b M hM k hk
    simp only [to_ (K + 1 + 1 + 1) (by omega), (hd (K + 1 + 1 + 1) (by omega)).1, (hd (K + 1 + 1 + 1) (by omega)).2, eq2 (K + 1 + 1 + 1) (by omega), Option.bind_some, if_true, bne_self_eq_false,
      laws_FnExactDropUnit.j0, Bool.false_eq_true, if_false, to_ (K + 1 + 1) (by omega), eq1 (K + 1 + 1) (by omega), eq2 (K + 1 + 1) (by omega), (hm1 (K + 1 + 1) (by omega)).1, if_neg q1,
      laws_FnExactDropUnit.j1, (hm2 (K + 1) (by omega)).1, (hm2 (K + 1) (by omega)).2, if_neg q2, to_ (K + 1) (by omega), (hd (K + 1) (by omega)).2, eq2 (K + 1) (by omega), laws_FnExactDropUnit.j2, (hm2 K (by omega)).2]

end Go.Proofs.Ytgmmihbogfcppaa.Pure
