/- The program's RoomFor answers what the reference's answers, for every tree and all numbers. -/
import Derived.Test.YtnhbfbgflgplcaaQTW18
namespace Go.Proofs.Ytnhbfbgflgplcaa.Pure
open Go.RowKit Go.Proofs.Ytnhbfbgflgplcaa.QTW Go.Proofs.YtnhbfbgflgplcaaW.PrintWords Go.Proofs.YtnhbfbgflgplcaaW.PrintLast Go.Proofs.YtnhbfbgflgplcaaW.PrintMore
set_option linter.unusedSimpArgs false
set_option linter.unusedVariables false

theorem t_w64 {x : Int} (h0 : -9223372036854775808 ≤ x) (h1 : x ≤ 9223372036854775807) : wrap64 x = x := by unfold wrap64; omega
theorem t_rdL (l : List S70) (i : Int) (hi : i.toNat < l.length) : rd_T70 l i = l[i.toNat] := by
  unfold rd_T70
  rw [List.getD_eq_getElem?_getD, List.getElem?_eq_getElem hi]
  rfl
theorem t_rdLP (l : List S116) (i : Int) (hi : i.toNat < l.length) : rd_T116 l i = l[i.toNat] := by
  unfold rd_T116
  rw [List.getD_eq_getElem?_getD, List.getElem?_eq_getElem hi]
  rfl
theorem t_rd (l : List S52) (i : Int) (hi : i.toNat < l.length) : rd_T52 l i = l[i.toNat] := by
  unfold rd_T52
  rw [List.getD_eq_getElem?_getD, List.getElem?_eq_getElem hi]
  rfl
theorem t_rdP (l : List S64) (i : Int) (hi : i.toNat < l.length) : rd_T64 l i = l[i.toNat] := by
  unfold rd_T64
  rw [List.getD_eq_getElem?_getD, List.getElem?_eq_getElem hi]
  rfl
theorem t_sz_one (x : S70) (left : Int) (h0 : 0 ≤ left) (h1 : left ≤ 1048576) (hs : x.f2.size ≤ maxLen) (hp : x.f7.length ≤ maxLen) :
    ∃ r, laws_szInode.f x.f0 x.f1 x.f2 x.f3 x.f4 x.f5 x.f6 x.f7 x.f8 left = some r ∧ r ≤ 1048576 ∧ (0 ≤ r → x.f2.size ≤ 1048576 ∧ x.f7.length ≤ 1048576) := by
  unfold maxLen at hs hp
  have hw : wrap64 (left - (x.f2.size : Int)) = left - (x.f2.size : Int) := t_w64 (by omega) (by omega)
  unfold laws_szInode.f laws_szPieceS.f
  rw [hw]
  by_cases c : left - (x.f2.size : Int) < 0
  · rw [if_pos c]
    exact ⟨-1, rfl, by omega, fun h => by omega⟩
  · rw [if_neg c]
    have hw2 : wrap64 (left - (x.f2.size : Int) - (x.f7.length : Int)) = left - (x.f2.size : Int) - (x.f7.length : Int) := t_w64 (by omega) (by omega)
    rw [hw2]
    by_cases c2 : left - (x.f2.size : Int) - (x.f7.length : Int) < 0
    · rw [if_pos c2]
      exact ⟨-1, by simp, by omega, fun h => by omega⟩
    · rw [if_neg c2]
      simp only [Option.bind_some]
      rw [if_neg c2]
      exact ⟨_, rfl, by omega, fun _ => ⟨by omega, by omega⟩⟩
theorem t_sz_loop (l : List S70) (hl : l.length ≤ 1048576) (hs : ∀ x ∈ l, x.f2.size ≤ maxLen ∧ x.f7.length ≤ maxLen) : ∀ (d k : Nat) (left i : Int), 0 ≤ i → 0 ≤ left → left ≤ 1048576 → (l.length : Int) - i = d → d < k →
    ∃ r, laws_szInodeS.l0 k l left i = some r ∧ (0 ≤ r → ∀ j : Nat, i ≤ (j : Int) → ∀ x, l[j]? = some x → x.f2.size ≤ 1048576 ∧ x.f7.length ≤ 1048576) := by
  intro d
  induction d with
  | zero =>
    intro k left i h0 h1 h2 hd hk
    obtain ⟨k, rfl⟩ : ∃ m, k = m + 1 := ⟨k - 1, by omega⟩
    refine ⟨left, ?_, fun _ j hj x hx => ?_⟩
    · simp only [laws_szInodeS.l0]
      rw [if_neg (by omega)]
    · have := (List.getElem?_eq_some_iff.1 hx).1
      omega
  | succ d ih =>
    intro k left i h0 h1 h2 hd hk
    obtain ⟨k, rfl⟩ : ∃ m, k = m + 1 := ⟨k - 1, by omega⟩
    have hw : wrap64 (i + 1) = i + 1 := t_w64 (by omega) (by omega)
    have hi : i.toNat < l.length := by omega
    have he := t_rdL l i hi
    have hm := hs _ (List.getElem_mem hi)
    obtain ⟨r, e, e1, e2⟩ := t_sz_one l[i.toNat] left h1 h2 hm.1 hm.2
    simp only [laws_szInodeS.l0, hw, he, e, Option.bind_some]
    rw [if_pos (by omega), if_pos h0]
    by_cases c : r < 0
    · rw [if_pos c]
      exact ⟨-1, rfl, fun h => by omega⟩
    · rw [if_neg c]
      obtain ⟨r2, e3, e4⟩ := ih k r (i + 1) (by omega) (by omega) (by omega) (by omega) (by omega)
      refine ⟨r2, e3, fun hr j hj x hx => ?_⟩
      by_cases hji : (j : Int) = i
      · have : j = i.toNat := by omega
        subst this
        rw [List.getElem?_eq_getElem hi] at hx
        injection hx with hx
        rw [← hx]
        exact e2 (by omega)
      · exact e4 hr j (by omega) x hx
theorem t_sz (l : List S70) (b : Int) (hl : l.length ≤ maxLen) (hs : ∀ x ∈ l, x.f2.size ≤ maxLen ∧ x.f7.length ≤ maxLen) (k : Nat) (hk : 1048577 < k) :
    ∃ r, laws_szTree.f k l b 1048576 = some r ∧ (0 ≤ r → l.length ≤ 1048576 ∧ ∀ x ∈ l, x.f2.size ≤ 1048576 ∧ x.f7.length ≤ 1048576) := by
  unfold maxLen at hl
  have hw : wrap64 (1048576 - (l.length : Int)) = 1048576 - (l.length : Int) := t_w64 (by omega) (by omega)
  unfold laws_szTree.f laws_szInodeS.f
  rw [hw]
  by_cases c : 1048576 - (l.length : Int) < 0
  · rw [if_pos c]
    exact ⟨-1, by simp, fun h => by omega⟩
  · rw [if_neg c]
    obtain ⟨r, e, e3⟩ := t_sz_loop l (by omega) hs l.length k (1048576 - (l.length : Int)) 0 (by omega) (by omega) (by omega) (by omega) (by omega)
    rw [e]
    simp only [Option.bind_some]
    by_cases c2 : r < 0
    · rw [if_pos c2]
      exact ⟨-1, rfl, fun h => by omega⟩
    · rw [if_neg c2]
      refine ⟨r, rfl, fun h => ⟨by omega, fun x hx => ?_⟩⟩
      obtain ⟨j, hj, rfl⟩ := List.mem_iff_getElem.1 hx
      exact e3 h j (by omega) _ (List.getElem?_eq_getElem hj)
def t_convP (x : S116) : S64 := ⟨x.f0, x.f1⟩
def t_conv (x : S70) : S52 := ⟨x.f0, x.f1, x.f2, x.f3, x.f4, x.f5, x.f6, x.f7.map t_convP, x.f8⟩
theorem t_toP_loop (l : List S116) (hl : l.length ≤ 1048576) : ∀ (d k : Nat) (acc : List S64) (i : Int), 0 ≤ i → (l.length : Int) - i = d → d < k → acc.length = l.length → (∀ j : Nat, (j : Int) < i → acc[j]? = (l.map t_convP)[j]?) →
    laws_toPieceS.l0 k l acc i = some (l.map t_convP) := by
  intro d
  induction d with
  | zero =>
    intro k acc i h0 hd hk ha hall
    obtain ⟨k, rfl⟩ : ∃ m, k = m + 1 := ⟨k - 1, by omega⟩
    simp only [laws_toPieceS.l0]
    rw [if_neg (by omega)]
    congr 1
    refine List.ext_getElem? fun j => ?_
    by_cases hj : j < l.length
    · exact hall j (by omega)
    · rw [List.getElem?_eq_none (by omega), List.getElem?_eq_none (by simp; omega)]
  | succ d ih =>
    intro k acc i h0 hd hk ha hall
    obtain ⟨k, rfl⟩ : ∃ m, k = m + 1 := ⟨k - 1, by omega⟩
    have hw : wrap64 (i + 1) = i + 1 := t_w64 (by omega) (by omega)
    have hi : i.toNat < l.length := by omega
    have he := t_rdLP l i hi
    simp only [laws_toPieceS.l0, hw, laws_toPiece.f, Option.bind_some]
    rw [if_pos (by omega), if_pos h0, if_pos (by omega)]
    refine ih k _ (i + 1) (by omega) (by omega) (by omega) (by simpa using ha) (fun j hj => ?_)
    by_cases hji : j = i.toNat
    · subst hji
      rw [List.getElem?_set_self (by omega), List.getElem?_map, List.getElem?_eq_getElem hi, he]
      rfl
    · rw [List.getElem?_set_ne (fun h => hji h.symm)]
      exact hall j (by omega)
theorem t_toP (l : List S116) (hl : l.length ≤ 1048576) (k : Nat) (hk : 1048577 < k) : laws_toPieceS.f k l = some (l.map t_convP) := by
  unfold laws_toPieceS.f
  rw [if_pos (by omega), if_pos (by omega), t_toP_loop l hl l.length k _ 0 (by omega) (by omega) (by omega) (by simp) (fun j hj => by omega)]
theorem t_to_loop (l : List S70) (hl : l.length ≤ 1048576) (hp : ∀ x ∈ l, x.f7.length ≤ 1048576) : ∀ (d k : Nat) (acc : List S52) (i : Int), 0 ≤ i → (l.length : Int) - i = d → d + 1048578 < k → acc.length = l.length → (∀ j : Nat, (j : Int) < i → acc[j]? = (l.map t_conv)[j]?) →
    laws_toInodeS.l0 k l acc i = some (l.map t_conv) := by
  intro d
  induction d with
  | zero =>
    intro k acc i h0 hd hk ha hall
    obtain ⟨k, rfl⟩ : ∃ m, k = m + 1 := ⟨k - 1, by omega⟩
    simp only [laws_toInodeS.l0]
    rw [if_neg (by omega)]
    congr 1
    refine List.ext_getElem? fun j => ?_
    by_cases hj : j < l.length
    · exact hall j (by omega)
    · rw [List.getElem?_eq_none (by omega), List.getElem?_eq_none (by simp; omega)]
  | succ d ih =>
    intro k acc i h0 hd hk ha hall
    obtain ⟨k, rfl⟩ : ∃ m, k = m + 1 := ⟨k - 1, by omega⟩
    have hw : wrap64 (i + 1) = i + 1 := t_w64 (by omega) (by omega)
    have hi : i.toNat < l.length := by omega
    have he := t_rdL l i hi
    have hq := t_toP l[i.toNat].f7 (hp _ (List.getElem_mem hi)) k (by omega)
    simp only [laws_toInodeS.l0, hw, laws_toInode.f, he, hq, Option.bind_some]
    rw [if_pos (by omega), if_pos h0, if_pos (by omega)]
    refine ih k _ (i + 1) (by omega) (by omega) (by omega) (by simpa using ha) (fun j hj => ?_)
    by_cases hji : j = i.toNat
    · subst hji
      rw [List.getElem?_set_self (by omega), List.getElem?_map, List.getElem?_eq_getElem hi]
      rfl
    · rw [List.getElem?_set_ne (fun h => hji h.symm)]
      exact hall j (by omega)
theorem t_to (l : List S70) (b : Int) (hl : l.length ≤ 1048576) (hp : ∀ x ∈ l, x.f7.length ≤ 1048576) (k : Nat) (hk : 2097160 < k) : laws_toTree.f k l b = some (l.map t_conv, b) := by
  unfold laws_toTree.f laws_toInodeS.f
  rw [if_pos (by omega), if_pos (by omega), t_to_loop l hl hp l.length k _ 0 (by omega) (by omega) (by omega) (by simp) (fun j hj => by omega)]
  rfl
theorem t_eqP_loop (l : List S64) (hl : l.length ≤ 1048576) : ∀ (d k : Nat) (i : Int), 0 ≤ i → (l.length : Int) - i = d → d < k → laws_eqPieceS.l0 k l l i = some true := by
  intro d
  induction d with
  | zero =>
    intro k i h0 hd hk
    obtain ⟨k, rfl⟩ : ∃ m, k = m + 1 := ⟨k - 1, by omega⟩
    simp only [laws_eqPieceS.l0]
    rw [if_neg (by omega)]
  | succ d ih =>
    intro k i h0 hd hk
    obtain ⟨k, rfl⟩ : ∃ m, k = m + 1 := ⟨k - 1, by omega⟩
    have hw : wrap64 (i + 1) = i + 1 := t_w64 (by omega) (by omega)
    have hp : i < (l.length : Int) := by omega
    simp only [laws_eqPieceS.l0, hw, laws_eqPiece.f, if_pos hp, if_pos h0, if_true, Option.bind_some]
    exact ih k (i + 1) (by omega) (by omega) (by omega)
theorem t_eqP (l : List S64) (hl : l.length ≤ 1048576) (k : Nat) (hk : 1048577 < k) : laws_eqPieceS.f k l l = some true := by
  unfold laws_eqPieceS.f
  rw [if_pos rfl, t_eqP_loop l hl l.length k 0 (by omega) (by omega) (by omega)]
theorem t_eq_loop (l : List S52) (hl : l.length ≤ 1048576) (hq : ∀ x ∈ l, x.f7.length ≤ 1048576) : ∀ (d k : Nat) (i : Int), 0 ≤ i → (l.length : Int) - i = d → d + 1048578 < k → laws_eqInodeS.l0 k l l i = some true := by
  intro d
  induction d with
  | zero =>
    intro k i h0 hd hk
    obtain ⟨k, rfl⟩ : ∃ m, k = m + 1 := ⟨k - 1, by omega⟩
    simp only [laws_eqInodeS.l0]
    rw [if_neg (by omega)]
  | succ d ih =>
    intro k i h0 hd hk
    obtain ⟨k, rfl⟩ : ∃ m, k = m + 1 := ⟨k - 1, by omega⟩
    have hw : wrap64 (i + 1) = i + 1 := t_w64 (by omega) (by omega)
    have hp : i < (l.length : Int) := by omega
    have hi : i.toNat < l.length := by omega
    have hz := t_eqP l[i.toNat].f7 (hq _ (List.getElem_mem hi)) k (by omega)
    have he := t_rd l i hi
    simp only [laws_eqInodeS.l0, hw, laws_eqInode.f, he, hz, if_pos hp, if_pos h0, if_true, bne_self_eq_false, Bool.false_eq_true, if_false, Option.bind_some]
    exact ih k (i + 1) (by omega) (by omega) (by omega)
theorem t_eq (l : List S52) (b : Int) (hl : l.length ≤ 1048576) (hq : ∀ x ∈ l, x.f7.length ≤ 1048576) (k : Nat) (hk : 2097160 < k) : laws_eqTree.f k l b l b = some true := by
  unfold laws_eqTree.f laws_eqInodeS.f
  rw [if_pos rfl, t_eq_loop l hl hq l.length k 0 (by omega) (by omega) (by omega)]
  simp
abbrev TreeIn (l : List S70) (b : Int) : Prop := (l.length ≤ maxLen ∧ ∀ x ∈ l, (Lit.int .i64 x.f0).wf = true ∧ (Lit.int .i64 x.f1).wf = true ∧ x.f2.size ≤ maxLen ∧ True ∧ (Lit.int .i64 x.f4).wf = true ∧ (Lit.int .i64 x.f5).wf = true ∧ (Lit.int .i64 x.f6).wf = true ∧ (x.f7.length ≤ maxLen ∧ ∀ p ∈ x.f7, (Lit.int .i64 p.f0).wf = true ∧ (Lit.int .i64 p.f1).wf = true) ∧ (Lit.int .i64 x.f8).wf = true) ∧ (Lit.int .i64 b).wf = true
theorem t_in {l : List S70} {b : Int} (h : TreeIn l b) : l.length ≤ maxLen ∧ ∀ x ∈ l, x.f2.size ≤ maxLen ∧ x.f7.length ≤ maxLen := ⟨h.1.1, fun x hx => ⟨(h.1.2 x hx).2.2.1, (h.1.2 x hx).2.2.2.2.2.2.2.1.1⟩⟩
theorem k_in (a b c : Int) : impl_within.f a b c = some (decide (b ≤ a ∧ a ≤ c)) := by
  unfold impl_within.f
  by_cases h : a ≥ b
  · rw [if_pos h]; congr 1; simp [h]
  · rw [if_neg h]; congr 1; simp [h]
theorem k_sin (a b c : Int) : spec_l01In.f a b c = some (decide (b ≤ a ∧ a ≤ c)) := k_in a b c
theorem k_name_loop (s : ByteArray) (hs : s.size ≤ 1048576) : ∀ (d : Nat) (i : Int), 0 ≤ i → (s.size : Int) - i = d →
    ∃ r, ∀ k, d < k → spec_NameOk.l0 k s i = some r ∧ impl_NameOk.l0 k s i = some r := by
  intro d
  induction d with
  | zero =>
    intro i h0 h1
    have hn : ¬ i < (s.size : Int) := by omega
    refine ⟨decide (1 ≤ (s.size : Int) ∧ (s.size : Int) ≤ 8), fun k hk => ?_⟩
    obtain ⟨k, rfl⟩ : ∃ m, k = m + 1 := ⟨k - 1, by omega⟩
    simp only [spec_NameOk.l0, impl_NameOk.l0, if_neg hn, k_in, k_sin, Option.bind_some, and_self]
  | succ d ih =>
    intro i h0 h1
    have hp : i < (s.size : Int) := by omega
    have hw : wrap64 (i + 1) = i + 1 := by unfold wrap64; omega
    obtain ⟨r, h⟩ := ih (i + 1) (by omega) (by omega)
    by_cases c1 : bt s i < 97 <;> by_cases c2 : bt s i < 48 <;> by_cases c3 : bt s i > 57 <;> by_cases c4 : bt s i > 122 <;>
      first
      | (refine ⟨r, fun k hk => ?_⟩
         obtain ⟨k, rfl⟩ : ∃ m, k = m + 1 := ⟨k - 1, by omega⟩
         obtain ⟨e1, e2⟩ := h k (by omega)
         simp only [spec_NameOk.l0, impl_NameOk.l0, hw, e1, e2, if_pos hp, if_pos h0, c1, c2, c3, c4, if_true, if_false, and_self]
         done)
      | (refine ⟨false, fun k hk => ?_⟩
         obtain ⟨k, rfl⟩ : ∃ m, k = m + 1 := ⟨k - 1, by omega⟩
         simp only [spec_NameOk.l0, impl_NameOk.l0, if_pos hp, if_pos h0, c1, c2, c3, c4, if_true, if_false, and_self]
         done)
def nm (s : ByteArray) : Bool := (impl_NameOk.f 1048578 s).getD false
theorem k_name (s : ByteArray) (hs : s.size ≤ 1048576) (k : Nat) (hk : 1048577 < k) : spec_NameOk.f k s = some (nm s) ∧ impl_NameOk.f k s = some (nm s) := by
  obtain ⟨r, h⟩ := k_name_loop s hs s.size 0 (by omega) (by omega)
  have e : nm s = r := by
    unfold nm impl_NameOk.f
    rw [(h 1048578 (by omega)).2]
    rfl
  rw [e]
  exact h k (by omega)
/-- Where a node is. -/
def atI (l : List S52) (id : Int) : Int := Lib.idxBy (fun _ y => decide (y.f0 = id)) l default
theorem atI_from (id : Int) (z : S52) : ∀ (l : List S52) (i : Nat), (Lib.idxByFrom (fun _ y => decide (y.f0 = id)) z l i = -1 ∧ ∀ x ∈ l, x.f0 ≠ id) ∨ ∃ t, ∃ h : t < l.length, Lib.idxByFrom (fun _ y => decide (y.f0 = id)) z l i = ((i + t : Nat) : Int) ∧ l[t].f0 = id ∧ ∀ j (hj : j < t), (l[j]'(by omega)).f0 ≠ id
  | [], _ => .inl ⟨rfl, fun _ h => by simp at h⟩
  | y :: l, i => by
    rw [Lib.idxByFrom]
    by_cases c : y.f0 = id
    · rw [if_pos (by simp [c])]
      exact .inr ⟨0, by simp, by simp, c, fun j hj => by omega⟩
    · rw [if_neg (by simp [c])]
      rcases atI_from id z l (i + 1) with ⟨h1, h2⟩ | ⟨t, h, h1, h2, h3⟩
      · refine .inl ⟨h1, fun x hx => ?_⟩
        rcases List.mem_cons.1 hx with rfl | hx
        · exact c
        · exact h2 x hx
      · refine .inr ⟨t + 1, by simpa using h, by rw [h1]; congr 1; omega, by simpa using h2, fun j hj => ?_⟩
        cases j with
        | zero => simpa using c
        | succ j => simpa using h3 j (by omega)
theorem atI_spec (l : List S52) (id : Int) : (atI l id = -1 ∧ ∀ (j : Nat), j < l.length → (rd_T52 l j).f0 ≠ id) ∨ ∃ t : Nat, t < l.length ∧ atI l id = t ∧ (rd_T52 l t).f0 = id ∧ ∀ j : Nat, j < t → (rd_T52 l j).f0 ≠ id := by
  unfold atI Lib.idxBy
  rcases atI_from id default l 0 with ⟨h1, h2⟩ | ⟨t, h, h1, h2, h3⟩
  · refine .inl ⟨h1, fun j hj => ?_⟩
    rw [t_rd l j (by simpa using hj)]
    exact h2 _ (List.getElem_mem _)
  · refine .inr ⟨t, h, by rw [h1]; simp, ?_, fun j hj => ?_⟩
    · rw [t_rd l t (by simpa using h)]
      exact h2
    · rw [t_rd l j (by simp; omega)]
      exact h3 j hj
theorem k_at_loop (b : Int) (l : List S52) (hl : l.length ≤ 1048576) (id : Int) : ∀ (d k : Nat) (i : Int), 0 ≤ i → (l.length : Int) - i = d → d < k →
    spec_l10At.l0 k id i l b = some (Lib.idxByFrom (fun _ y => decide (y.f0 = id)) default (l.drop i.toNat) i.toNat) := by
  intro d
  induction d with
  | zero =>
    intro k i h0 h1 hk
    obtain ⟨k, rfl⟩ : ∃ m, k = m + 1 := ⟨k - 1, by omega⟩
    have c : ¬ i < (l.length : Int) := by omega
    rw [List.drop_eq_nil_of_le (by omega)]
    simp only [spec_l10At.l0, if_neg c]
    rfl
  | succ d ih =>
    intro k i h0 h1 hk
    obtain ⟨k, rfl⟩ : ∃ m, k = m + 1 := ⟨k - 1, by omega⟩
    have c : i < (l.length : Int) := by omega
    have hi : i.toNat < l.length := by omega
    have hw : wrap64 (i + 1) = i + 1 := by unfold wrap64; omega
    have e := ih k (i + 1) (by omega) (by omega) (by omega)
    rw [show (i + 1).toNat = i.toNat + 1 by omega] at e
    rw [List.drop_eq_getElem_cons hi]
    simp only [spec_l10At.l0, if_pos c, if_pos h0, hw, e, t_rd l i hi, Lib.idxByFrom]
    by_cases c1 : l[i.toNat].f0 = id
    · simp only [c1, if_true, decide_true]
      congr 1
      omega
    · simp only [if_neg c1, c1, decide_false, Bool.false_eq_true, if_false]
theorem k_at (l : List S52) (b : Int) (hl : l.length ≤ 1048576) (id : Int) (k : Nat) (hk : 1048577 < k) : spec_l10At.f k l b id = some (atI l id) := by
  unfold spec_l10At.f
  rw [k_at_loop b l hl id l.length k 0 (by omega) (by omega) (by omega)]
  rfl
theorem k_nodeAt (k : Nat) (l : List S52) (b id : Int) : impl_nodeAt.f k l b id = some (atI l id) := rfl
def gs (c : Int) : Int := if c = 1 then 16 else if c = 2 then 24 else if c = 3 then 32 else 0
theorem gs_le (c : Int) : 0 ≤ gs c ∧ gs c ≤ 32 := by unfold gs; split <;> (try split) <;> (try split) <;> omega
theorem k_gs (c : Int) : impl_GroupSize.f c = some (gs c) := by
  unfold impl_GroupSize.f impl_SchemaOf.f gs
  split
  · simp only [Option.bind_some, Option.some.injEq]; unfold wrap64; omega
  · split
    · simp only [Option.bind_some, Option.some.injEq]; unfold wrap64; omega
    · split
      · simp only [Option.bind_some, Option.some.injEq]; unfold wrap64; omega
      · simp only [Option.bind_some, Option.some.injEq]; unfold wrap64; omega
theorem k_sgs (c : Int) : spec_GroupSize.f c = some (gs c) := k_gs c
def pcs (g : Int) (q : List S64) : Bool := q.all fun p => decide ((1 ≤ p.f0 ∧ p.f0 ≤ 100000) ∧ 1 ≤ p.f1 ∧ p.f1 ≤ g)
def psum : List S64 → Int
  | [] => 0
  | p :: q => p.f1 + psum q
theorem k_file_loop (f0 f1 : Int) (f2 : ByteArray) (f3 : Bool) (f4 f5 f6 : Int) (q : List S64) (f8 : Int) (hq : q.length ≤ 1048576) : ∀ (d k : Nat) (s i : Int), 0 ≤ i → 0 ≤ s → s ≤ 32 * i → (q.length : Int) - i = d → d < k →
    spec_l10File.l0 k s i f0 f1 f2 f3 f4 f5 f6 q f8 = some (pcs (gs f4) (q.drop i.toNat) && decide (s + psum (q.drop i.toNat) = f6 ∧ s + psum (q.drop i.toNat) ≤ 1000)) := by
  intro d
  induction d with
  | zero =>
    intro k s i h0 h1 h2 h3 hk
    obtain ⟨k, rfl⟩ : ∃ m, k = m + 1 := ⟨k - 1, by omega⟩
    have c : ¬ i < (q.length : Int) := by omega
    rw [List.drop_eq_nil_of_le (by omega)]
    simp only [spec_l10File.l0, if_neg c, pcs, psum, List.all_nil, Bool.true_and, Int.add_zero]
    by_cases e : s = f6
    · rw [if_pos e]; simp [e]
    · rw [if_neg e]; simp [e]
  | succ d ih =>
    intro k s i h0 h1 h2 h3 hk
    obtain ⟨k, rfl⟩ : ∃ m, k = m + 1 := ⟨k - 1, by omega⟩
    have c : i < (q.length : Int) := by omega
    have hi : i.toNat < q.length := by omega
    have hw : wrap64 (i + 1) = i + 1 := by unfold wrap64; omega
    rw [List.drop_eq_getElem_cons hi]
    simp only [spec_l10File.l0, if_pos c, if_pos h0, hw, k_sin, k_sgs, Option.bind_some, t_rdP q i hi, pcs, psum, List.all_cons]
    have hg := gs_le f4
    by_cases c1 : 1 ≤ q[i.toNat].f0 ∧ q[i.toNat].f0 ≤ 100000
    · by_cases c2 : 1 ≤ q[i.toNat].f1 ∧ q[i.toNat].f1 ≤ gs f4
      · have hw2 : wrap64 (s + q[i.toNat].f1) = s + q[i.toNat].f1 := by unfold wrap64; omega
        have e := ih k (s + q[i.toNat].f1) (i + 1) (by omega) (by omega) (by omega) (by omega) (by omega)
        rw [show (i + 1).toNat = i.toNat + 1 by omega] at e
        simp only [decide_eq_true c1, decide_eq_true c2, if_true, hw2, e, pcs]
        rw [decide_eq_true (show (1 ≤ q[i.toNat].f0 ∧ q[i.toNat].f0 ≤ 100000) ∧ 1 ≤ q[i.toNat].f1 ∧ q[i.toNat].f1 ≤ gs f4 from ⟨c1, c2⟩), Bool.true_and, Int.add_assoc]
        try rfl
      · simp only [decide_eq_true c1, decide_eq_false c2, if_true, Bool.false_eq_true, if_false]
        rw [decide_eq_false (show ¬ ((1 ≤ q[i.toNat].f0 ∧ q[i.toNat].f0 ≤ 100000) ∧ 1 ≤ q[i.toNat].f1 ∧ q[i.toNat].f1 ≤ gs f4) from fun h => c2 h.2), Bool.false_and, Bool.false_and]
    · simp only [decide_eq_false c1, Bool.false_eq_true, if_false]
      rw [decide_eq_false (show ¬ ((1 ≤ q[i.toNat].f0 ∧ q[i.toNat].f0 ≤ 100000) ∧ 1 ≤ q[i.toNat].f1 ∧ q[i.toNat].f1 ≤ gs f4) from fun h => c1 h.1), Bool.false_and, Bool.false_and]
theorem k_pieces_loop (f0 f1 : Int) (f2 : ByteArray) (f3 : Bool) (f4 f5 f6 : Int) (q : List S64) (f8 : Int) (hq : q.length ≤ 1048576) : ∀ (d k : Nat) (s i : Int), 0 ≤ i → 0 ≤ s → s ≤ 32 * i → (q.length : Int) - i = d → d < k →
    impl_piecesOk.l0 k s q (q.length : Int) i f0 f1 f2 f3 f4 f5 f6 q f8 = some (pcs (gs f4) (q.drop i.toNat) && decide ((q.length : Int) ≤ 40 ∧ s + psum (q.drop i.toNat) = f6 ∧ s + psum (q.drop i.toNat) ≤ 1000)) := by
  intro d
  induction d with
  | zero =>
    intro k s i h0 h1 h2 h3 hk
    obtain ⟨k, rfl⟩ : ∃ m, k = m + 1 := ⟨k - 1, by omega⟩
    have c : ¬ i < (q.length : Int) := by omega
    rw [List.drop_eq_nil_of_le (by omega)]
    simp only [impl_piecesOk.l0, if_neg c, pcs, psum, List.all_nil, Bool.true_and, Int.add_zero]
    by_cases e0 : (q.length : Int) ≤ 40
    · rw [if_pos e0]
      by_cases e : f6 = s
      · rw [if_pos e]; simp [e, e0]
      · rw [if_neg e]
        rw [decide_eq_false (fun h => e h.2.1.symm)]
    · rw [if_neg e0, decide_eq_false (fun h => e0 h.1)]
  | succ d ih =>
    intro k s i h0 h1 h2 h3 hk
    obtain ⟨k, rfl⟩ : ∃ m, k = m + 1 := ⟨k - 1, by omega⟩
    have c : i < (q.length : Int) := by omega
    have hi : i.toNat < q.length := by omega
    have hw : wrap64 (i + 1) = i + 1 := by unfold wrap64; omega
    rw [List.drop_eq_getElem_cons hi]
    simp only [impl_piecesOk.l0, if_pos c, if_pos h0, hw, k_in, k_gs, Option.bind_some, t_rdP q i hi, pcs, psum, List.all_cons]
    have hg := gs_le f4
    by_cases c1 : 1 ≤ q[i.toNat].f0 ∧ q[i.toNat].f0 ≤ 100000
    · by_cases c2 : 1 ≤ q[i.toNat].f1 ∧ q[i.toNat].f1 ≤ gs f4
      · have hw2 : wrap64 (s + q[i.toNat].f1) = s + q[i.toNat].f1 := by unfold wrap64; omega
        have e := ih k (s + q[i.toNat].f1) (i + 1) (by omega) (by omega) (by omega) (by omega) (by omega)
        rw [show (i + 1).toNat = i.toNat + 1 by omega] at e
        simp only [decide_eq_true c1, decide_eq_true c2, if_true, hw2, e, pcs]
        rw [decide_eq_true (show (1 ≤ q[i.toNat].f0 ∧ q[i.toNat].f0 ≤ 100000) ∧ 1 ≤ q[i.toNat].f1 ∧ q[i.toNat].f1 ≤ gs f4 from ⟨c1, c2⟩), Bool.true_and, Int.add_assoc]
        try rfl
      · simp only [decide_eq_true c1, decide_eq_false c2, if_true, Bool.false_eq_true, if_false]
        rw [decide_eq_false (show ¬ ((1 ≤ q[i.toNat].f0 ∧ q[i.toNat].f0 ≤ 100000) ∧ 1 ≤ q[i.toNat].f1 ∧ q[i.toNat].f1 ≤ gs f4) from fun h => c2 h.2), Bool.false_and, Bool.false_and]
    · simp only [decide_eq_false c1, Bool.false_eq_true, if_false]
      rw [decide_eq_false (show ¬ ((1 ≤ q[i.toNat].f0 ∧ q[i.toNat].f0 ≤ 100000) ∧ 1 ≤ q[i.toNat].f1 ∧ q[i.toNat].f1 ≤ gs f4) from fun h => c1 h.1), Bool.false_and, Bool.false_and]
/-- Is a node right by itself? -/
def ndOk (x : S52) : Bool := if x.f3 = true then decide ((0 ≤ x.f4 ∧ x.f4 ≤ 3) ∧ (0 ≤ x.f5 ∧ x.f5 ≤ 1000) ∧ x.f6 = 0 ∧ (x.f7.length : Int) = 0 ∧ x.f8 = 0)
  else decide ((1 ≤ x.f4 ∧ x.f4 ≤ 3) ∧ x.f5 = 0 ∧ (0 ≤ x.f8 ∧ x.f8 ≤ 9) ∧ (x.f7.length : Int) ≤ 40) && (pcs (gs x.f4) x.f7 && decide (psum x.f7 = x.f6 ∧ psum x.f7 ≤ 1000))
theorem k_inodeOk (x : S52) (hq : x.f7.length ≤ 1048576) (k : Nat) (hk : 1048577 < k) : impl_inodeOk.f k x.f0 x.f1 x.f2 x.f3 x.f4 x.f5 x.f6 x.f7 x.f8 = some (ndOk x) := by
  unfold impl_inodeOk.f ndOk impl_piecesOk.f
  rw [k_pieces_loop x.f0 x.f1 x.f2 x.f3 x.f4 x.f5 x.f6 x.f7 x.f8 hq x.f7.length k 0 0 (by omega) (by omega) (by omega) (by omega) (by omega)]
  simp only [k_in, Option.bind_some, Int.toNat_zero, List.drop_zero, Int.zero_add]
  cases x.f3 with
  | true =>
    simp only [if_true]
    by_cases c1 : 0 ≤ x.f4 ∧ x.f4 ≤ 3
    · by_cases c2 : 0 ≤ x.f5 ∧ x.f5 ≤ 1000
      · by_cases c3 : x.f6 = 0
        · by_cases c4 : (x.f7.length : Int) = 0
          · simp only [decide_eq_true c1, decide_eq_true c2, if_true, if_pos c3, if_pos c4]
            by_cases c5 : x.f8 = 0
            · rw [decide_eq_true ⟨c1, c2, c3, c4, c5⟩]; simp [c5]
            · rw [decide_eq_false (fun h => c5 h.2.2.2.2)]; simp [c5]
          · simp only [decide_eq_true c1, decide_eq_true c2, if_true, if_pos c3, if_neg c4]
            rw [decide_eq_false (fun h => c4 h.2.2.2.1)]
        · simp only [decide_eq_true c1, decide_eq_true c2, if_true, if_neg c3]
          rw [decide_eq_false (fun h => c3 h.2.2.1)]
      · simp only [decide_eq_true c1, decide_eq_false c2, if_true, Bool.false_eq_true, if_false]
        rw [decide_eq_false (fun h => c2 h.2.1)]
    · simp only [decide_eq_false c1, Bool.false_eq_true, if_false]
      rw [decide_eq_false (fun h => c1 h.1)]
  | false =>
    simp only [Bool.false_eq_true, if_false]
    by_cases c1 : 1 ≤ x.f4 ∧ x.f4 ≤ 3
    · by_cases c2 : x.f5 = 0
      · by_cases c3 : 0 ≤ x.f8 ∧ x.f8 ≤ 9
        · simp only [decide_eq_true c1, decide_eq_true c3, if_true, if_pos c2]
          by_cases c4 : (x.f7.length : Int) ≤ 40
          · rw [decide_eq_true (show (1 ≤ x.f4 ∧ x.f4 ≤ 3) ∧ x.f5 = 0 ∧ (0 ≤ x.f8 ∧ x.f8 ≤ 9) ∧ (x.f7.length : Int) ≤ 40 from ⟨c1, c2, c3, c4⟩), Bool.true_and]
            simp only [c4, true_and]
          · rw [decide_eq_false (show ¬ ((1 ≤ x.f4 ∧ x.f4 ≤ 3) ∧ x.f5 = 0 ∧ (0 ≤ x.f8 ∧ x.f8 ≤ 9) ∧ (x.f7.length : Int) ≤ 40) from fun h => c4 h.2.2.2), decide_eq_false (fun h => c4 h.1), Bool.and_false, Bool.false_and]
        · simp only [decide_eq_true c1, decide_eq_false c3, if_true, if_pos c2, Bool.false_eq_true, if_false]
          rw [decide_eq_false (fun h => c3 h.2.2.1), Bool.false_and]
      · simp only [decide_eq_true c1, if_true, if_neg c2]
        rw [decide_eq_false (fun h => c2 h.2.1), Bool.false_and]
    · simp only [decide_eq_false c1, Bool.false_eq_true, if_false]
      rw [decide_eq_false (fun h => c1 h.1), Bool.false_and]
theorem k_file (x : S52) (hf : x.f3 = false) (hq : x.f7.length ≤ 1048576) (k : Nat) (hk : 1048578 < k) : spec_l10File.f k x.f0 x.f1 x.f2 x.f3 x.f4 x.f5 x.f6 x.f7 x.f8 = some (ndOk x) := by
  obtain ⟨k, rfl⟩ : ∃ m, k = m + 1 := ⟨k - 1, by omega⟩
  unfold spec_l10File.f ndOk
  simp only [spec_l10File.j0, k_sin, Option.bind_some]
  rw [k_file_loop x.f0 x.f1 x.f2 x.f3 x.f4 x.f5 x.f6 x.f7 x.f8 hq x.f7.length k 0 0 (by omega) (by omega) (by omega) (by omega) (by omega)]
  simp only [hf, Bool.false_eq_true, if_false, Int.toNat_zero, List.drop_zero, Int.zero_add]
  by_cases c1 : 1 ≤ x.f4 ∧ x.f4 ≤ 3
  · by_cases c2 : x.f5 = 0
    · by_cases c4 : (x.f7.length : Int) > 40
      · simp only [decide_eq_true c1, if_true, if_pos c2, if_pos c4]
        rw [decide_eq_false (fun h => by omega), Bool.false_and]
      · by_cases c3 : 0 ≤ x.f8 ∧ x.f8 ≤ 9
        · simp only [decide_eq_true c1, decide_eq_true c3, if_true, if_pos c2, if_neg c4, Bool.not_true, Bool.false_eq_true, if_false]
          rw [decide_eq_true (show (1 ≤ x.f4 ∧ x.f4 ≤ 3) ∧ x.f5 = 0 ∧ (0 ≤ x.f8 ∧ x.f8 ≤ 9) ∧ (x.f7.length : Int) ≤ 40 from ⟨c1, c2, c3, by omega⟩), Bool.true_and]
        · simp only [decide_eq_true c1, decide_eq_false c3, if_true, if_pos c2, if_neg c4, Bool.not_false]
          rw [decide_eq_false (fun h => c3 h.2.2.1), Bool.false_and]
    · simp only [decide_eq_true c1, if_true, if_neg c2]
      rw [decide_eq_false (fun h => c2 h.2.1), Bool.false_and]
  · simp only [decide_eq_false c1, Bool.false_eq_true, if_false, if_true]
    rw [decide_eq_false (fun h => c1 h.1), Bool.false_and]
/-- From a node to the root, as the reference goes. -/
def SI (l : List S52) : Nat → Int → Bool
  | 0, _ => false
  | m + 1, id => if atI l id < 0 then false else if (rd_T52 l (atI l id)).f1 = 1 then true else SI l m (rd_T52 l (atI l id)).f1
/-- From a node's parent to the root, as the program goes. -/
def RI (l : List S52) : Nat → Int → Bool
  | 0, _ => false
  | m + 1, p => if atI l p < 0 then false else if (rd_T52 l (atI l p)).f3 = true then (if (rd_T52 l (atI l p)).f0 = 1 then true else RI l m (rd_T52 l (atI l p)).f1) else false
theorem atI_range (l : List S52) (id : Int) : atI l id < 0 ∨ (0 ≤ atI l id ∧ atI l id < (l.length : Int)) := by
  rcases atI_spec l id with ⟨h, _⟩ | ⟨t, h, h1, _⟩
  · omega
  · omega
theorem k_l1 (l : List S52) (b : Int) (hl : l.length ≤ 1048576) : ∀ (m k : Nat) (id c : Int), c = 4 - (m : Int) → m ≤ 4 → m + 1048580 < k → spec_l10Node.l1 k id c l b = some (SI l m id) := by
  intro m
  induction m with
  | zero =>
    intro k id c hc hm hk
    obtain ⟨k, rfl⟩ : ∃ m, k = m + 1 := ⟨k - 1, by omega⟩
    simp only [spec_l10Node.l1, SI]
    rw [if_neg (by omega)]
  | succ m ih =>
    intro k id c hc hm hk
    obtain ⟨k, rfl⟩ : ∃ m, k = m + 1 := ⟨k - 1, by omega⟩
    have hw : wrap64 (c + 1) = c + 1 := by unfold wrap64; omega
    simp only [spec_l10Node.l1, SI, k_at l b hl id k (by omega), Option.bind_some, hw]
    rw [if_pos (by omega)]
    rcases atI_range l id with h | ⟨h0, h1⟩
    · rw [if_pos h, if_pos h]
    · rw [if_neg (show ¬ atI l id < 0 by omega), if_pos h0, if_pos h1, if_neg (show ¬ atI l id < 0 by omega)]
      by_cases e : (rd_T52 l (atI l id)).f1 = 1
      · rw [if_pos e, if_pos e]
      · rw [if_neg e, if_neg e]
        exact ih k _ (c + 1) (by omega) (by omega) (by omega)
theorem k_reaches (l : List S52) (b : Int) : ∀ (m k : Nat) (c f0 p : Int) (f2 : ByteArray) (f3 : Bool) (f4 f5 f6 : Int) (f7 : List S64) (f8 : Int), c = 4 - (m : Int) → m ≤ 4 → 2 * m < k → impl_reaches.l0 k c l b f0 p f2 f3 f4 f5 f6 f7 f8 = some (RI l m p) := by
  intro m
  induction m with
  | zero =>
    intro k c f0 p f2 f3 f4 f5 f6 f7 f8 hc hm hk
    obtain ⟨k, rfl⟩ : ∃ m, k = m + 1 := ⟨k - 1, by omega⟩
    simp only [impl_reaches.l0, RI]
    rw [if_neg (by omega)]
  | succ m ih =>
    intro k c f0 p f2 f3 f4 f5 f6 f7 f8 hc hm hk
    obtain ⟨k, rfl⟩ : ∃ m, k = m + 2 := ⟨k - 2, by omega⟩
    have hw : wrap64 (c + 1) = c + 1 := by unfold wrap64; omega
    simp only [impl_reaches.l0, impl_reaches.j1, RI, k_nodeAt, Option.bind_some, hw]
    rw [if_pos (by omega)]
    rcases atI_range l p with h | ⟨h0, h1⟩
    · simp only [if_pos h, if_true]
    · simp only [if_neg (show ¬ atI l p < 0 by omega), if_pos h0, if_pos h1]
      cases hd : (rd_T52 l (atI l p)).f3 with
      | false => simp only [Bool.not_false, if_true, Bool.false_eq_true, if_false]
      | true =>
        simp only [Bool.not_true, Bool.false_eq_true, if_false, if_true]
        by_cases e : (rd_T52 l (atI l p)).f0 = 1
        · rw [if_pos e, if_pos e]
        · rw [if_neg e, if_neg e]
          exact ih k (c + 1) _ _ _ _ _ _ _ _ _ (by omega) (by omega) (by omega)
/-- Is there a node ahead with this parent and name? -/
def dupB (l : List S52) (i : Nat) (x : S52) : Bool := (l.take i).any (impl_dupI.p x.f1 x.f2)
theorem k_dup_loop (l : List S52) (b : Int) (hl : l.length ≤ 1048576) (i : Nat) (hi : i ≤ l.length) (x : S52) : ∀ (d k : Nat) (j : Int), 0 ≤ j → (i : Int) - j = d → d + 1048590 < k →
    spec_l10Node.l0 k (i : Int) j l b x.f0 x.f1 x.f2 x.f3 x.f4 x.f5 x.f6 x.f7 x.f8 = some (!(((l.take i).drop j.toNat).any (impl_dupI.p x.f1 x.f2)) && SI l 4 x.f0) := by
  intro d
  induction d with
  | zero =>
    intro k j h0 h1 hk
    obtain ⟨k, rfl⟩ : ∃ m, k = m + 1 := ⟨k - 1, by omega⟩
    rw [List.drop_eq_nil_of_le (by rw [List.length_take]; omega)]
    simp only [spec_l10Node.l0, List.any_nil, Bool.not_false, Bool.true_and]
    rw [if_neg (by omega)]
    exact k_l1 l b hl 4 k _ 0 (by omega) (by omega) (by omega)
  | succ d ih =>
    intro k j h0 h1 hk
    obtain ⟨k, rfl⟩ : ∃ m, k = m + 1 := ⟨k - 1, by omega⟩
    have hw : wrap64 (j + 1) = j + 1 := by unfold wrap64; omega
    have hj : j.toNat < (l.take i).length := by rw [List.length_take]; omega
    have hj2 : j.toNat < l.length := by omega
    have e := ih k (j + 1) (by omega) (by omega) (by omega)
    rw [show (j + 1).toNat = j.toNat + 1 by omega] at e
    rw [List.drop_eq_getElem_cons hj]
    simp only [spec_l10Node.l0, hw, e, List.any_cons, List.getElem_take, t_rd l j hj2, impl_dupI.p]
    rw [if_pos (by omega), if_pos h0, if_pos (by omega)]
    by_cases c1 : l[j.toNat].f1 = x.f1
    · by_cases c2 : l[j.toNat].f2.toList = x.f2.toList
      · rw [if_pos c1, if_pos c2]; simp [c1, c2]
      · rw [if_pos c1, if_neg c2]; simp only [c1, c2, decide_true, decide_false, Bool.and_false, Bool.false_or]
    · rw [if_neg c1]; simp only [c1, decide_false, Bool.false_and, Bool.false_or]
/-- What the reference asks of the node at i. -/
def rootOk (x : S52) : Bool := decide (x.f0 = 1 ∧ x.f1 = 0 ∧ x.f2.toList = [] ∧ x.f3 = true ∧ x.f4 ≠ 0)
def frontB (l : List S52) (nx : Int) (i : Nat) : Bool := decide ((rd_T52 l i).f0 < nx ∧ (0 < i → (rd_T52 l ((i : Int) - 1)).f0 < (rd_T52 l i).f0))
def upB (l : List S52) (x : S52) : Bool := decide (0 ≤ atI l x.f1 ∧ (rd_T52 l (atI l x.f1)).f3 = true)
def spN (l : List S52) (nx : Int) (i : Nat) : Bool :=
  (frontB l nx i && (decide (0 < i) || rootOk (rd_T52 l i))) && (ndOk (rd_T52 l i) && (decide (i = 0) || ((nm (rd_T52 l i).f2 && upB l (rd_T52 l i)) && (!(dupB l i (rd_T52 l i)) && SI l 4 (rd_T52 l i).f0))))
theorem k_j2 (l : List S52) (b : Int) (hl : l.length ≤ 1048576) (i : Nat) (hi : i ≤ l.length) (x : S52) (k : Nat) (hk : 2097170 < k) (t : Bool) :
    spec_l10Node.j2 k (i : Int) t l b x.f0 x.f1 x.f2 x.f3 x.f4 x.f5 x.f6 x.f7 x.f8 = some (!t && (!(dupB l i x) && SI l 4 x.f0)) := by
  obtain ⟨k, rfl⟩ : ∃ m, k = m + 1 := ⟨k - 1, by omega⟩
  cases t with
  | true => simp [spec_l10Node.j2]
  | false =>
    simp only [spec_l10Node.j2, Bool.false_eq_true, if_false, Bool.not_false, Bool.true_and]
    rw [k_dup_loop l b hl i hi x i k 0 (by omega) (by omega) (by omega)]
    try rfl
theorem k_j1 (l : List S52) (b : Int) (hl : l.length ≤ 1048576) (i : Nat) (hi : i ≤ l.length) (x : S52) (hx : x.f2.size ≤ 1048576) (k : Nat) (hk : 2097180 < k) (t : Bool) :
    spec_l10Node.j1 k (i : Int) t l b x.f0 x.f1 x.f2 x.f3 x.f4 x.f5 x.f6 x.f7 x.f8 = some (!t && (decide (i = 0) || ((nm x.f2 && upB l x) && (!(dupB l i x) && SI l 4 x.f0)))) := by
  obtain ⟨k, rfl⟩ : ∃ m, k = m + 1 := ⟨k - 1, by omega⟩
  cases t with
  | true => simp [spec_l10Node.j1]
  | false =>
    simp only [spec_l10Node.j1, Bool.false_eq_true, if_false, Bool.not_false, Bool.true_and, k_at l b hl x.f1 k (by omega), (k_name x.f2 hx k (by omega)).1, Option.bind_some, k_j2 l b hl i hi x k (by omega)]
    by_cases c : (i : Int) = 0
    · rw [if_pos c]; simp [show i = 0 by omega]
    · rw [if_neg c, decide_eq_false (show ¬ i = 0 by omega), Bool.false_or]
      cases nm x.f2 with
      | false => simp
      | true =>
        simp only [if_true, Bool.true_and]
        unfold upB
        rcases atI_range l x.f1 with h | ⟨h0, h1⟩
        · rw [if_pos h, decide_eq_false (fun q => by omega)]; simp
        · rw [if_neg (by omega), if_pos h0, if_pos h1]
          cases (rd_T52 l (atI l x.f1)).f3 with
          | true => simp [h0]
          | false => simp
theorem k_j0 (l : List S52) (b : Int) (hl : l.length ≤ 1048576) (i : Nat) (hi : i ≤ l.length) (x : S52) (hx : x.f2.size ≤ 1048576) (hq : x.f7.length ≤ 1048576) (k : Nat) (hk : 2097190 < k) (t : Bool) :
    spec_l10Node.j0 k (i : Int) t l b x.f0 x.f1 x.f2 x.f3 x.f4 x.f5 x.f6 x.f7 x.f8 = some (!t && (ndOk x && (decide (i = 0) || ((nm x.f2 && upB l x) && (!(dupB l i x) && SI l 4 x.f0))))) := by
  obtain ⟨k, rfl⟩ : ∃ m, k = m + 1 := ⟨k - 1, by omega⟩
  cases t with
  | true => simp [spec_l10Node.j0]
  | false =>
    simp only [spec_l10Node.j0, Bool.false_eq_true, if_false, Bool.not_false, Bool.true_and, k_sin, Option.bind_some, k_j1 l b hl i hi x hx k (by omega)]
    cases hf : x.f3 with
    | false =>
      have e := k_file x hf hq k (by omega)
      rw [hf] at e
      have e2 := k_j1 l b hl i hi x hx k (by omega) (!ndOk x)
      rw [hf, Bool.not_not] at e2
      simp only [Bool.false_eq_true, if_false, e, Option.bind_some, e2, Bool.not_not]
    | true =>
      have e2 := fun t => k_j1 l b hl i hi x hx k (by omega) t
      rw [hf] at e2
      simp only [if_true, e2]
      unfold ndOk
      rw [hf]
      simp only [if_true]
      by_cases c1 : 0 ≤ x.f4 ∧ x.f4 ≤ 3
      · by_cases c2 : 0 ≤ x.f5 ∧ x.f5 ≤ 1000
        · by_cases c3 : x.f6 = 0
          · by_cases c4 : (x.f7.length : Int) > 0
            · simp only [decide_eq_true c1, decide_eq_true c2, if_true, if_pos c3, if_pos c4, Bool.not_true, Bool.false_and]
              rw [decide_eq_false (fun h => by omega), Bool.false_and]
            · by_cases c5 : x.f8 = 0
              · simp only [decide_eq_true c1, decide_eq_true c2, if_true, if_pos c3, if_neg c4, if_pos c5, Bool.not_false, Bool.true_and]
                rw [decide_eq_true (show (0 ≤ x.f4 ∧ x.f4 ≤ 3) ∧ (0 ≤ x.f5 ∧ x.f5 ≤ 1000) ∧ x.f6 = 0 ∧ (x.f7.length : Int) = 0 ∧ x.f8 = 0 from ⟨c1, c2, c3, by omega, c5⟩), Bool.true_and]
              · simp only [decide_eq_true c1, decide_eq_true c2, if_true, if_pos c3, if_neg c4, if_neg c5, Bool.not_true, Bool.false_and]
                rw [decide_eq_false (fun h => c5 h.2.2.2.2), Bool.false_and]
          · simp only [decide_eq_true c1, decide_eq_true c2, if_true, if_neg c3, Bool.not_true, Bool.false_and]
            rw [decide_eq_false (fun h => c3 h.2.2.1), Bool.false_and]
        · simp only [decide_eq_true c1, decide_eq_false c2, if_true, Bool.false_eq_true, if_false, Bool.not_true, Bool.false_and]
          rw [decide_eq_false (fun h => c2 h.2.1), Bool.false_and]
      · simp only [decide_eq_false c1, Bool.false_eq_true, if_false, Bool.not_true, Bool.false_and]
        rw [decide_eq_false (fun h => c1 h.1), Bool.false_and]
theorem k_node (l : List S52) (nx : Int) (hl : l.length ≤ 1048576) (hx : ∀ x ∈ l, x.f2.size ≤ 1048576 ∧ x.f7.length ≤ 1048576) (i : Nat) (hi : i < l.length) (k : Nat) (hk : 2097190 < k) : spec_l10Node.f k l nx (i : Int) = some (spN l nx i) := by
  have hm := t_rd l (i : Int) (by simpa using hi)
  obtain ⟨x, hxe⟩ : ∃ x, x = rd_T52 l (i : Int) := ⟨_, rfl⟩
  have hxm : x ∈ l := by rw [hxe, hm]; exact List.getElem_mem _
  have e := k_j0 l nx hl i (by omega) x (hx x hxm).1 (hx x hxm).2 k hk
  unfold spec_l10Node.f spN
  rw [← hxe]
  simp only [e, ← hxe, frontB]
  rw [if_pos (by omega), if_pos (by omega)]
  by_cases c1 : x.f0 ≥ nx
  · rw [if_pos c1, decide_eq_false (show ¬ (x.f0 < nx ∧ (0 < i → (rd_T52 l ((i : Int) - 1)).f0 < x.f0)) from fun h => by omega)]
    simp
  · rw [if_neg c1]
    by_cases c2 : (i : Int) > 0
    · have hw : wrap64 ((i : Int) - 1) = (i : Int) - 1 := by unfold wrap64; omega
      rw [hw, if_pos c2, if_pos (show 0 ≤ (i : Int) - 1 by omega), if_pos (show (i : Int) - 1 < (l.length : Int) by omega)]
      by_cases c3 : (rd_T52 l ((i : Int) - 1)).f0 ≥ x.f0
      · rw [if_pos c3, decide_eq_false (show ¬ (x.f0 < nx ∧ (0 < i → (rd_T52 l ((i : Int) - 1)).f0 < x.f0)) from fun h => by have := h.2 (by omega); omega)]
        simp
      · rw [if_neg c3, if_neg (show ¬ (i : Int) = 0 by omega), decide_eq_true (show x.f0 < nx ∧ (0 < i → (rd_T52 l ((i : Int) - 1)).f0 < x.f0) from ⟨by omega, fun _ => by omega⟩), decide_eq_true (show 0 < i by omega)]
        simp
    · have hi0 : i = 0 := by omega
      rw [if_neg c2, if_pos (show (i : Int) = 0 by omega), decide_eq_true (show x.f0 < nx ∧ (0 < i → (rd_T52 l ((i : Int) - 1)).f0 < x.f0) from ⟨by omega, fun _ => by omega⟩), decide_eq_false (show ¬ 0 < i by omega)]
      by_cases d1 : x.f0 = 1
      · by_cases d2 : x.f1 = 0
        · by_cases d3 : x.f2.toList = []
          · by_cases d4 : x.f3 = true
            · rw [if_pos d1, if_pos d2, if_pos d3, if_pos d4]
              by_cases d5 : x.f4 = 0
              · rw [show rootOk x = false from decide_eq_false (fun h => h.2.2.2.2 d5)]; simp [d5]
              · rw [show rootOk x = true from decide_eq_true ⟨d1, d2, d3, d4, d5⟩]; simp [d5]
            · rw [if_pos d1, if_pos d2, if_pos d3, if_neg d4, show rootOk x = false from decide_eq_false (fun h => d4 h.2.2.2.1)]; simp
          · rw [if_pos d1, if_pos d2, if_neg d3, show rootOk x = false from decide_eq_false (fun h => d3 h.2.2.1)]; simp
        · rw [if_pos d1, if_neg d2, show rootOk x = false from decide_eq_false (fun h => d2 h.2.1)]; simp
      · rw [if_neg d1, show rootOk x = false from decide_eq_false (fun h => d1 h.1)]; simp
def allF (p : Nat → Bool) : Nat → Nat → Bool
  | _, 0 => true
  | i, d + 1 => p i && allF p (i + 1) d
theorem allF_iff (p : Nat → Bool) : ∀ (d i : Nat), allF p i d = true ↔ ∀ j, i ≤ j → j < i + d → p j = true
  | 0, i => ⟨fun _ j h1 h2 => by omega, fun _ => rfl⟩
  | d + 1, i => by
    simp only [allF, Bool.and_eq_true, allF_iff p d (i + 1)]
    refine ⟨fun ⟨h1, h2⟩ j h3 h4 => ?_, fun h => ⟨h i (by omega) (by omega), fun j h3 h4 => h j (by omega) (by omega)⟩⟩
    by_cases e : j = i
    · rw [e]; exact h1
    · exact h2 j (by omega) (by omega)
theorem k_sloop (l : List S52) (nx : Int) (hl : l.length ≤ 1048576) (hx : ∀ x ∈ l, x.f2.size ≤ 1048576 ∧ x.f7.length ≤ 1048576) : ∀ (d k i : Nat), i + d = l.length → d + 2097191 < k → spec_TreeOk.l0 k (i : Int) l nx = some (allF (spN l nx) i d) := by
  intro d
  induction d with
  | zero =>
    intro k i h hk
    obtain ⟨k, rfl⟩ : ∃ m, k = m + 1 := ⟨k - 1, by omega⟩
    simp only [spec_TreeOk.l0, allF]
    rw [if_neg (by omega)]
  | succ d ih =>
    intro k i h hk
    obtain ⟨k, rfl⟩ : ∃ m, k = m + 1 := ⟨k - 1, by omega⟩
    have hw : wrap64 ((i : Int) + 1) = ((i + 1 : Nat) : Int) := by unfold wrap64; omega
    simp only [spec_TreeOk.l0, allF, k_node l nx hl hx i (by omega) k (by omega), Option.bind_some, hw, ih k (i + 1) (by omega) (by omega)]
    rw [if_pos (by omega)]
    cases spN l nx i <;> simp
/-- What the program asks of the node at i. -/
def imN (l : List S52) (nx : Int) (i : Nat) : Bool :=
  (ndOk (rd_T52 l i) && frontB l nx i) && ((decide (i = 0) || (nm (rd_T52 l i).f2 && RI l 4 (rd_T52 l i).f1)) && !(dupB l i (rd_T52 l i)))
theorem k_iloop (l : List S52) (nx : Int) (hl : l.length ≤ 1048576) (hx : ∀ x ∈ l, x.f2.size ≤ 1048576 ∧ x.f7.length ≤ 1048576) : ∀ (d k i : Nat), i + d = l.length → 3 * d + 2097191 < k → impl_TreeOk.l0 k l (l.length : Int) (i : Int) l nx = some (allF (imN l nx) i d) := by
  intro d
  induction d with
  | zero =>
    intro k i h hk
    obtain ⟨k, rfl⟩ : ∃ m, k = m + 1 := ⟨k - 1, by omega⟩
    simp only [impl_TreeOk.l0, allF]
    rw [if_neg (by omega)]
  | succ d ih =>
    intro k i h hk
    obtain ⟨k, rfl⟩ : ∃ m, k = m + 3 := ⟨k - 3, by omega⟩
    have hw : wrap64 ((i : Int) + 1) = ((i + 1 : Nat) : Int) := by unfold wrap64; omega
    have e4 : ∀ (t : Bool) f0 f1 f2 f3 f4 f5 f6 f7 f8, impl_TreeOk.j4 (k + 1) (i : Int) l (l.length : Int) (i : Int) t l nx f0 f1 f2 f3 f4 f5 f6 f7 f8 = some (!t && (!((l.take i).any (impl_dupI.p f1 f2)) && allF (imN l nx) (i + 1) d)) := by
      intro t f0 f1 f2 f3 f4 f5 f6 f7 f8
      simp only [impl_TreeOk.j4, impl_dupI.f, Option.bind_some, hw, ih k (i + 1) (by omega) (by omega), Int.toNat_natCast]
      rw [if_pos (show (0 : Int) ≤ (i : Int) by omega), if_pos (show (i : Int) ≤ (l.length : Int) by omega)]
      cases t <;> cases (l.take i).any (impl_dupI.p f1 f2) <;> simp
    have hm := t_rd l (i : Int) (by simp; omega)
    obtain ⟨x, hxe⟩ : ∃ x, x = rd_T52 l (i : Int) := ⟨_, rfl⟩
    have hxm : x ∈ l := by rw [hxe, hm]; exact List.getElem_mem _
    have e3 : ∀ t : Bool, impl_TreeOk.j3 (k + 2) (i : Int) l (l.length : Int) (i : Int) t l nx x.f0 x.f1 x.f2 x.f3 x.f4 x.f5 x.f6 x.f7 x.f8 = some (!t && ((decide (i = 0) || (nm x.f2 && RI l 4 x.f1)) && (!(dupB l i x) && allF (imN l nx) (i + 1) d))) := by
      intro t
      simp only [impl_TreeOk.j3, (k_name x.f2 (hx x hxm).1 (k + 1) (by omega)).2, impl_reaches.f, k_reaches l nx 4 (k + 1) 0 _ _ _ _ _ _ _ _ _ (by omega) (by omega) (by omega), Option.bind_some, e4, dupB]
      cases t with
      | true => simp
      | false =>
        simp only [Bool.false_eq_true, if_false, Bool.not_false, Bool.true_and]
        by_cases c : (i : Int) > 0
        · rw [if_pos c, decide_eq_false (show ¬ i = 0 by omega)]
          cases nm x.f2 <;> cases RI l 4 x.f1 <;> simp
        · rw [if_neg c, decide_eq_true (show i = 0 by omega)]
          simp
    simp only [impl_TreeOk.l0, allF, imN, ← hxe, k_inodeOk x (hx x hxm).2 (k + 2) (by omega), Option.bind_some, e3, frontB]
    rw [if_pos (show (i : Int) < (l.length : Int) by omega), if_pos (show (0 : Int) ≤ (i : Int) by omega), if_pos (show (i : Int) < (l.length : Int) by omega)]
    cases hn : ndOk x with
    | false => simp
    | true =>
      simp only [if_true, Bool.true_and]
      by_cases c1 : x.f0 ≥ nx
      · rw [if_pos c1, decide_eq_false (show ¬ (x.f0 < nx ∧ (0 < i → (rd_T52 l ((i : Int) - 1)).f0 < x.f0)) from fun h => by omega)]
        simp
      · rw [if_neg c1]
        by_cases c2 : (i : Int) > 0
        · have hw2 : wrap64 ((i : Int) - 1) = (i : Int) - 1 := by unfold wrap64; omega
          rw [hw2, if_pos c2, if_pos (show 0 ≤ (i : Int) - 1 by omega), if_pos (show (i : Int) - 1 < (l.length : Int) by omega)]
          by_cases c3 : (rd_T52 l ((i : Int) - 1)).f0 ≥ x.f0
          · rw [decide_eq_true c3, decide_eq_false (show ¬ (x.f0 < nx ∧ (0 < i → (rd_T52 l ((i : Int) - 1)).f0 < x.f0)) from fun h => by have := h.2 (by omega); omega)]
            simp
          · rw [decide_eq_false c3, decide_eq_true (show x.f0 < nx ∧ (0 < i → (rd_T52 l ((i : Int) - 1)).f0 < x.f0) from ⟨by omega, fun _ => by omega⟩)]
            simp only [Bool.not_false, Bool.true_and, Bool.and_assoc]
        · rw [if_neg c2, decide_eq_true (show x.f0 < nx ∧ (0 < i → (rd_T52 l ((i : Int) - 1)).f0 < x.f0) from ⟨by omega, fun _ => by omega⟩)]
          simp only [Bool.not_false, Bool.true_and, Bool.and_assoc]
def bndB (l : List S52) (nx : Int) : Bool := decide ((1 ≤ (l.length : Int) ∧ (l.length : Int) ≤ 14) ∧ nx ≤ 100000)
theorem k_spec (l : List S52) (nx : Int) (hl : l.length ≤ 1048576) (hx : ∀ x ∈ l, x.f2.size ≤ 1048576 ∧ x.f7.length ≤ 1048576) (k : Nat) (hk : 4194304 < k) : spec_TreeOk.f k l nx = some (bndB l nx && allF (spN l nx) 0 l.length) := by
  obtain ⟨k, rfl⟩ : ∃ m, k = m + 1 := ⟨k - 1, by omega⟩
  have e := k_sloop l nx hl hx l.length k 0 (by omega) (by omega)
  unfold spec_TreeOk.f bndB
  simp only [k_sin, Option.bind_some, spec_TreeOk.j0]
  rw [show ((0 : Nat) : Int) = 0 from rfl] at e
  rw [e]
  by_cases c1 : 1 ≤ (l.length : Int) ∧ (l.length : Int) ≤ 14
  · by_cases c2 : nx > 100000
    · rw [decide_eq_true c1, decide_eq_true c2, decide_eq_false (fun h => by omega)]; simp
    · rw [decide_eq_true c1, decide_eq_false c2, decide_eq_true (show (1 ≤ (l.length : Int) ∧ (l.length : Int) ≤ 14) ∧ nx ≤ 100000 from ⟨c1, by omega⟩)]; simp
  · rw [decide_eq_false c1, decide_eq_false (show ¬ ((1 ≤ (l.length : Int) ∧ (l.length : Int) ≤ 14) ∧ nx ≤ 100000) from fun h => c1 h.1)]; simp
theorem k_impl (l : List S52) (nx : Int) (hl : l.length ≤ 1048576) (hx : ∀ x ∈ l, x.f2.size ≤ 1048576 ∧ x.f7.length ≤ 1048576) (k : Nat) (hk : 8388608 < k) : impl_TreeOk.f k l nx = some (bndB l nx && (rootOk (rd_T52 l 0) && allF (imN l nx) 0 l.length)) := by
  obtain ⟨k, rfl⟩ : ∃ m, k = m + 2 := ⟨k - 2, by omega⟩
  have e := k_iloop l nx hl hx l.length k 0 (by omega) (by omega)
  unfold impl_TreeOk.f bndB
  rw [show ((0 : Nat) : Int) = 0 from rfl] at e
  simp only [k_in, Option.bind_some, impl_TreeOk.j0, impl_TreeOk.j1, e]
  by_cases c1 : 1 ≤ (l.length : Int) ∧ (l.length : Int) ≤ 14
  · by_cases c2 : nx > 100000
    · rw [decide_eq_true c1, decide_eq_true c2, decide_eq_false (fun h => by omega)]; simp
    · rw [decide_eq_true c1, decide_eq_false c2, decide_eq_true (show (1 ≤ (l.length : Int) ∧ (l.length : Int) ≤ 14) ∧ nx ≤ 100000 from ⟨c1, by omega⟩)]
      simp only [if_true, Bool.false_eq_true, if_false, Bool.true_and]
      rw [if_pos (show 0 < (l.length : Int) by omega)]
      generalize rd_T52 l 0 = x
      by_cases d1 : x.f0 = 1
      · by_cases d2 : x.f1 = 0
        · by_cases d3 : x.f2.toList = []
          · by_cases d4 : x.f3 = true
            · rw [if_pos d1, if_pos d2, if_pos d3, if_pos d4]
              by_cases d5 : x.f4 = 0
              · rw [show rootOk x = false from decide_eq_false (fun h => h.2.2.2.2 d5)]; simp [d5]
              · rw [show rootOk x = true from decide_eq_true ⟨d1, d2, d3, d4, d5⟩]; simp [d5]
            · rw [if_pos d1, if_pos d2, if_pos d3, if_neg d4, show rootOk x = false from decide_eq_false (fun h => d4 h.2.2.2.1)]; simp
          · rw [if_pos d1, if_pos d2, if_neg d3, show rootOk x = false from decide_eq_false (fun h => d3 h.2.2.1)]; simp
        · rw [if_pos d1, if_neg d2, show rootOk x = false from decide_eq_false (fun h => d2 h.2.1)]; simp
      · rw [if_neg d1, show rootOk x = false from decide_eq_false (fun h => d1 h.1)]; simp
  · rw [decide_eq_false c1, decide_eq_false (show ¬ ((1 ≤ (l.length : Int) ∧ (l.length : Int) ≤ 14) ∧ nx ≤ 100000) from fun h => c1 h.1)]; simp
/-- The ids ascend, and the first is the root's. -/
structure Ascends (l : List S52) : Prop where
  pos : 0 < l.length
  root : rootOk (rd_T52 l 0) = true
  asc : ∀ i : Nat, 0 < i → i < l.length → (rd_T52 l ((i : Int) - 1)).f0 < (rd_T52 l i).f0
theorem Ascends.lt {l : List S52} (h : Ascends l) : ∀ (d i : Nat), i + d + 1 < l.length → (rd_T52 l i).f0 < (rd_T52 l ((i + d + 1 : Nat) : Int)).f0 := by
  intro d
  induction d with
  | zero =>
    intro i hi
    have := h.asc (i + 1) (by omega) hi
    rw [show ((i + 1 : Nat) : Int) - 1 = (i : Int) by omega] at this
    exact this
  | succ d ih =>
    intro i hi
    have h1 := ih i (by omega)
    have h2 := h.asc (i + (d + 1) + 1) (by omega) hi
    rw [show ((i + (d + 1) + 1 : Nat) : Int) - 1 = ((i + d + 1 : Nat) : Int) by omega] at h2
    omega
theorem Ascends.inj {l : List S52} (h : Ascends l) (i j : Nat) (hi : i < l.length) (hj : j < l.length) (e : (rd_T52 l i).f0 = (rd_T52 l j).f0) : i = j := by
  rcases Nat.lt_trichotomy i j with c | c | c
  · have := h.lt (j - i - 1) i (by omega)
    rw [show i + (j - i - 1) + 1 = j by omega] at this
    omega
  · exact c
  · have := h.lt (i - j - 1) j (by omega)
    rw [show j + (i - j - 1) + 1 = i by omega] at this
    omega
theorem Ascends.at {l : List S52} (h : Ascends l) (i : Nat) (hi : i < l.length) : atI l (rd_T52 l i).f0 = i := by
  rcases atI_spec l (rd_T52 l i).f0 with ⟨_, h2⟩ | ⟨t, h1, h2, h3, _⟩
  · exact absurd rfl (h2 i hi)
  · rw [h2, h.inj t i h1 hi h3]
theorem Ascends.at0 {l : List S52} (h : Ascends l) : (rd_T52 l 0).f0 = 1 ∧ (rd_T52 l 0).f1 = 0 ∧ (rd_T52 l 0).f3 = true ∧ (rd_T52 l 0).f4 ≠ 0 := by
  have := of_decide_eq_true h.root
  exact ⟨this.1, this.2.1, this.2.2.2.1, this.2.2.2.2⟩
theorem Ascends.ge {l : List S52} (h : Ascends l) (i : Nat) (hi : i < l.length) : 1 ≤ (rd_T52 l i).f0 := by
  have h0 := h.at0.1
  by_cases c : i = 0
  · subst c; exact Int.le_of_eq h0.symm
  · have := h.lt (i - 1) 0 (by omega)
    rw [show 0 + (i - 1) + 1 = i by omega] at this
    rw [show ((0 : Nat) : Int) = 0 from rfl] at this
    omega
theorem Ascends.atOne {l : List S52} (h : Ascends l) : atI l 1 = 0 := by
  have := h.at 0 h.pos
  rw [show ((0 : Nat) : Int) = 0 from rfl, h.at0.1] at this
  exact this
theorem Ascends.atZero {l : List S52} (h : Ascends l) : atI l 0 = -1 := by
  rcases atI_spec l 0 with ⟨h1, _⟩ | ⟨t, h1, h2, h3, _⟩
  · exact h1
  · have := h.ge t h1
    omega
/-- The node that is found has the id that is looked for. -/
theorem atI_id (l : List S52) (id : Int) (h : 0 ≤ atI l id) : (rd_T52 l (atI l id)).f0 = id ∧ ∃ t : Nat, t < l.length ∧ atI l id = t := by
  rcases atI_spec l id with ⟨h1, _⟩ | ⟨t, h1, h2, h3, _⟩
  · omega
  · rw [h2]; exact ⟨h3, t, h1, rfl⟩
theorem chain_sr {l : List S52} (h : Ascends l) (hu : ∀ i : Nat, 0 < i → i < l.length → upB l (rd_T52 l i) = true) : ∀ (m : Nat) (id : Int), SI l m id = true → RI l m (rd_T52 l (atI l id)).f1 = true := by
  intro m
  induction m with
  | zero => intro id hs; simp [SI] at hs
  | succ m ih =>
    intro id hs
    rw [SI] at hs
    rw [RI]
    by_cases c : atI l id < 0
    · rw [if_pos c] at hs; simp at hs
    · rw [if_neg c] at hs
      obtain ⟨_, t, ht, et⟩ := atI_id l id (by omega)
      rw [et] at hs ⊢
      by_cases c1 : (rd_T52 l t).f1 = 1
      · rw [c1, h.atOne, h.at0.2.2.1, h.at0.1]
        simp
      · rw [if_neg c1] at hs
        by_cases c2 : t = 0
        · subst c2
          rw [show ((0 : Nat) : Int) = 0 from rfl, h.at0.2.1] at hs
          cases m with
          | zero => simp [SI] at hs
          | succ m => rw [SI, if_pos (by rw [h.atZero]; decide)] at hs; simp at hs
        · have hd := of_decide_eq_true (hu t (by omega) ht)
          rw [if_neg (show ¬ atI l (rd_T52 l t).f1 < 0 by omega), if_pos hd.2]
          by_cases c3 : (rd_T52 l (atI l (rd_T52 l t).f1)).f0 = 1
          · rw [if_pos c3]
          · rw [if_neg c3]
            exact ih _ hs
theorem chain_rs {l : List S52} (h : Ascends l) : ∀ (m : Nat) (id : Int), 0 ≤ atI l id → RI l m (rd_T52 l (atI l id)).f1 = true → SI l m id = true := by
  intro m
  induction m with
  | zero => intro id _ hs; simp [RI] at hs
  | succ m ih =>
    intro id h0 hs
    rw [RI] at hs
    rw [SI, if_neg (show ¬ atI l id < 0 by omega)]
    by_cases c1 : (rd_T52 l (atI l id)).f1 = 1
    · rw [if_pos c1]
    · rw [if_neg c1]
      by_cases c : atI l (rd_T52 l (atI l id)).f1 < 0
      · rw [if_pos c] at hs; simp at hs
      · rw [if_neg c] at hs
        obtain ⟨e, _⟩ := atI_id l _ (show 0 ≤ atI l (rd_T52 l (atI l id)).f1 by omega)
        by_cases c2 : (rd_T52 l (atI l (rd_T52 l (atI l id)).f1)).f3 = true
        · rw [if_pos c2, if_neg (by rw [e]; exact c1)] at hs
          exact ih _ (by omega) hs
        · rw [if_neg c2] at hs; simp at hs
theorem up_of_RI (l : List S52) (x : S52) (m : Nat) (h : RI l (m + 1) x.f1 = true) : upB l x = true := by
  rw [RI] at h
  by_cases c : atI l x.f1 < 0
  · rw [if_pos c] at h; simp at h
  · rw [if_neg c] at h
    by_cases c2 : (rd_T52 l (atI l x.f1)).f3 = true
    · exact decide_eq_true ⟨by omega, c2⟩
    · rw [if_neg c2] at h; simp at h
/-- Is a tree right? Both say the same. -/
def okB (l : List S52) (nx : Int) : Bool := bndB l nx && allF (spN l nx) 0 l.length
theorem ok_asc {l : List S52} {nx : Int} (hb : bndB l nx = true) (hr : rootOk (rd_T52 l 0) = true) (hf : ∀ i, i < l.length → frontB l nx i = true) : Ascends l := ⟨by have := of_decide_eq_true hb; omega, hr, fun i h0 hi => (of_decide_eq_true (hf i hi)).2 h0⟩
theorem ok_both (l : List S52) (nx : Int) : (bndB l nx && (rootOk (rd_T52 l 0) && allF (imN l nx) 0 l.length)) = okB l nx := by
  unfold okB
  cases hb : bndB l nx with
  | false => simp
  | true =>
    simp only [Bool.true_and]
    have hpos : 0 < l.length := by have := of_decide_eq_true hb; omega
    rw [Bool.eq_iff_iff, Bool.and_eq_true, allF_iff, allF_iff]
    constructor
    · rintro ⟨hr, h⟩ i _ hi
      have hA : Ascends l := ok_asc hb hr fun i hi => by
        have := h i (by omega) (by omega)
        simp only [imN, Bool.and_eq_true] at this
        exact this.1.2
      have h1 := h i (by omega) hi
      simp only [imN, Bool.and_eq_true] at h1
      obtain ⟨⟨h2, h3⟩, h4, h5⟩ := h1
      simp only [spN, h2, h3, h5, Bool.true_and, Bool.and_true]
      by_cases c : i = 0
      · subst c
        simp only [Nat.lt_irrefl, decide_false, Bool.false_or, decide_true, Bool.true_or, Bool.and_true]
        exact hr
      · rw [decide_eq_false c, Bool.false_or, Bool.and_eq_true] at h4
        have hc := chain_rs hA 4 (rd_T52 l i).f0 (by rw [hA.at i (by omega)]; omega) (by rw [hA.at i (by omega)]; exact h4.2)
        simp [h4.1, up_of_RI l _ 3 h4.2, hc, show 0 < i by omega]
    · intro h
      have hf : ∀ i, i < l.length → frontB l nx i = true := fun i hi => by
        have := h i (by omega) (by omega)
        simp only [spN, Bool.and_eq_true] at this
        exact this.1.1
      have hr : rootOk (rd_T52 l 0) = true := by
        have := h 0 (by omega) (by omega)
        simp only [spN, Bool.and_eq_true, Nat.lt_irrefl, decide_false, Bool.false_or] at this
        exact this.1.2
      have hA : Ascends l := ok_asc hb hr hf
      have hu : ∀ i : Nat, 0 < i → i < l.length → upB l (rd_T52 l i) = true := fun i h0 hi => by
        have := h i (by omega) (by omega)
        simp only [spN, Bool.and_eq_true, decide_eq_false (show ¬ i = 0 by omega), Bool.false_or] at this
        exact this.2.2.1.2
      refine ⟨hr, fun i _ hi => ?_⟩
      have h1 := h i (by omega) hi
      simp only [spN, Bool.and_eq_true] at h1
      obtain ⟨⟨h2, h3⟩, h4, h5⟩ := h1
      simp only [imN, h2, h4, Bool.true_and]
      by_cases c : i = 0
      · subst c
        simp [dupB]
      · rw [decide_eq_false c, Bool.false_or, Bool.and_eq_true, Bool.and_eq_true, Bool.and_eq_true] at h5
        have hc := chain_sr hA hu 4 (rd_T52 l i).f0 h5.2.2
        rw [hA.at i (by omega)] at hc
        simp only [h5.1.1, hc, h5.2.1, Bool.and_self, Bool.or_true]
theorem tree_both (l : List S52) (nx : Int) (hl : l.length ≤ 1048576) (hx : ∀ x ∈ l, x.f2.size ≤ 1048576 ∧ x.f7.length ≤ 1048576) (k : Nat) (hk : 8388608 < k) : spec_TreeOk.f k l nx = some (okB l nx) ∧ impl_TreeOk.f k l nx = some (okB l nx) :=
  ⟨k_spec l nx hl hx k (by omega), by rw [k_impl l nx hl hx k hk, ok_both]⟩
theorem t_conv_all (l : List S70) (h : ∀ x ∈ l, x.f2.size ≤ 1048576 ∧ x.f7.length ≤ 1048576) : ∀ x ∈ l.map t_conv, x.f2.size ≤ 1048576 ∧ x.f7.length ≤ 1048576 := fun x hx => by
  obtain ⟨y, hy, rfl⟩ := List.mem_map.1 hx
  exact ⟨(h y hy).1, by simpa [t_conv] using (h y hy).2⟩
theorem ok_parts {l : List S52} {nx : Int} (h : okB l nx = true) : bndB l nx = true ∧ Ascends l ∧ ∀ i : Nat, i < l.length → spN l nx i = true := by
  unfold okB at h
  rw [Bool.and_eq_true] at h
  obtain ⟨hb, ha⟩ := h
  rw [allF_iff] at ha
  have hpos : 0 < l.length := by have := of_decide_eq_true hb; omega
  refine ⟨hb, ok_asc hb ?_ fun i hi => ?_, fun i hi => ha i (by omega) (by omega)⟩
  · have := ha 0 (by omega) (by omega)
    simp only [spN, Bool.and_eq_true, Nat.lt_irrefl, decide_false, Bool.false_or] at this
    exact this.1.2
  · have := ha i (by omega) (by omega)
    simp only [spN, Bool.and_eq_true] at this
    exact this.1.1
/-- A node that is there is the root's or leads to it. -/
theorem ok_reach {l : List S52} {nx : Int} (h : okB l nx = true) (id : Int) (h0 : 0 ≤ atI l id) : id = 1 ∨ SI l 4 id = true := by
  obtain ⟨_, hA, hs⟩ := ok_parts h
  obtain ⟨e, t, ht, et⟩ := atI_id l id h0
  rw [et] at e
  by_cases c : t = 0
  · subst c
    rw [show ((0 : Nat) : Int) = 0 from rfl, hA.at0.1] at e
    exact .inl e.symm
  · have := hs t ht
    simp only [spN, Bool.and_eq_true, decide_eq_false c, Bool.false_or] at this
    rw [← e]
    exact .inr this.2.2.2.2
theorem SI_at {l : List S52} {m : Nat} {id : Int} (h : SI l (m + 1) id = true) : 0 ≤ atI l id ∧ ((rd_T52 l (atI l id)).f1 = 1 ∨ SI l m (rd_T52 l (atI l id)).f1 = true) := by
  rw [SI] at h
  by_cases c : atI l id < 0
  · rw [if_pos c] at h; simp at h
  · rw [if_neg c] at h
    refine ⟨by omega, ?_⟩
    by_cases c1 : (rd_T52 l (atI l id)).f1 = 1
    · exact .inl c1
    · rw [if_neg c1] at h; exact .inr h
theorem reach_at {l : List S52} (hA : Ascends l) {m : Nat} {id : Int} (h : id = 1 ∨ SI l m id = true) : 0 ≤ atI l id ∧ atI l id < (l.length : Int) := by
  have h0 : 0 ≤ atI l id := by
    rcases h with rfl | h
    · rw [hA.atOne]; omega
    · cases m with
      | zero => simp [SI] at h
      | succ m => exact (SI_at h).1
  rcases atI_range l id with c | c
  · omega
  · exact c
theorem below_one (l : List S52) (nx : Int) (hl : l.length ≤ 1048576) (hA : Ascends l) (top : Int) (ht : 0 ≤ atI l top) : ∀ (m : Nat) (id n : Int), 0 ≤ n → n + m + 1 ≤ 14 → (id = 1 ∨ SI l m id = true) →
    ∃ (b : Bool) (j : Nat), j ≤ m + 1 ∧ (∀ k, 1048585 + m < k → spec_l10Below.l0 k id top n l nx = some b) ∧
      ∀ (k : Nat) (q : List Int) (i : Int) (g0 g1 : Int) (g2 : ByteArray) (g3 : Bool) (g4 g5 g6 : Int) (g7 : List S64) (g8 : Int), q.length < 17592186044416 →
        impl_BelowOf.l1 (k + j) top q l (l.length : Int) i l nx g0 g1 g2 g3 g4 g5 g6 g7 g8 (rd_T52 l (atI l id)).f0 (rd_T52 l (atI l id)).f1 (rd_T52 l (atI l id)).f2 (rd_T52 l (atI l id)).f3 (rd_T52 l (atI l id)).f4 (rd_T52 l (atI l id)).f5 (rd_T52 l (atI l id)).f6 (rd_T52 l (atI l id)).f7 (rd_T52 l (atI l id)).f8 =
          if b = true then impl_BelowOf.l0 k top (q ++ [g0]) l (l.length : Int) (wrap64 (i + 1)) l nx else impl_BelowOf.l0 k top q l (l.length : Int) (wrap64 (i + 1)) l nx := by
  have htop0 : ¬ top = 0 := fun e => by rw [e, hA.atZero] at ht; omega
  have hone : ∀ (n : Int), 0 ≤ n → n + 1 ≤ 14 → ∃ (b : Bool) (j : Nat), j ≤ 1 ∧ (∀ k, 1048585 < k → spec_l10Below.l0 k 1 top n l nx = some b) ∧
      ∀ (k : Nat) (q : List Int) (i : Int) (g0 g1 : Int) (g2 : ByteArray) (g3 : Bool) (g4 g5 g6 : Int) (g7 : List S64) (g8 : Int), q.length < 17592186044416 →
        impl_BelowOf.l1 (k + j) top q l (l.length : Int) i l nx g0 g1 g2 g3 g4 g5 g6 g7 g8 (rd_T52 l (atI l 1)).f0 (rd_T52 l (atI l 1)).f1 (rd_T52 l (atI l 1)).f2 (rd_T52 l (atI l 1)).f3 (rd_T52 l (atI l 1)).f4 (rd_T52 l (atI l 1)).f5 (rd_T52 l (atI l 1)).f6 (rd_T52 l (atI l 1)).f7 (rd_T52 l (atI l 1)).f8 =
          if b = true then impl_BelowOf.l0 k top (q ++ [g0]) l (l.length : Int) (wrap64 (i + 1)) l nx else impl_BelowOf.l0 k top q l (l.length : Int) (wrap64 (i + 1)) l nx := by
    intro n h0 h1
    have hp := hA.pos
    have hw : wrap64 (n + 1) = n + 1 := by unfold wrap64; omega
    have h10 := hA.at0.1
    refine ⟨decide (1 = top), 1, by omega, fun k hk => ?_, fun k q i g0 g1 g2 g3 g4 g5 g6 g7 g8 hq => ?_⟩
    · obtain ⟨k, rfl⟩ : ∃ m, k = m + 2 := ⟨k - 2, by omega⟩
      by_cases c : 1 = top
      · rw [spec_l10Below.l0, if_pos (by omega), if_pos c, decide_eq_true c]
      · rw [spec_l10Below.l0, if_pos (by omega), if_neg c, k_at l nx hl 1 (k + 1) (by omega), Option.bind_some, hA.atOne, if_neg (by omega), if_pos (by omega), if_pos (by omega), hw, hA.at0.2.1, decide_eq_false c]
        rw [spec_l10Below.l0, if_pos (by omega), if_neg (fun e => htop0 e.symm), k_at l nx hl 0 k (by omega), Option.bind_some, hA.atZero, if_pos (by decide)]
    · rw [hA.atOne, h10, impl_BelowOf.l1]
      by_cases c : 1 = top
      · rw [if_pos c, if_pos hq, decide_eq_true c, if_pos rfl]
      · rw [if_neg c, if_pos rfl, decide_eq_false c, if_neg (by decide)]
  intro m
  induction m with
  | zero =>
    intro id n h0 h1 h4
    have hid : id = 1 := by
      rcases h4 with h | h
      · exact h
      · simp [SI] at h
    subst hid
    obtain ⟨b, j, hj, hs, hi⟩ := hone n h0 (by omega)
    exact ⟨b, j, by omega, fun k hk => hs k (by omega), hi⟩
  | succ m ih =>
    intro id n h0 h1 h4
    by_cases hid : id = 1
    · subst hid
      obtain ⟨b, j, hj, hs, hi⟩ := hone n h0 (by omega)
      exact ⟨b, j, by omega, fun k hk => hs k (by omega), hi⟩
    · have hn := (SI_at (h4.resolve_left hid)).2
      obtain ⟨ha, hb⟩ := reach_at hA h4
      obtain ⟨ha2, hb2⟩ := reach_at hA hn
      have he := (atI_id l id ha).1
      have hw : wrap64 (n + 1) = n + 1 := by unfold wrap64; omega
      by_cases c : id = top
      · refine ⟨true, 1, by omega, fun k hk => ?_, fun k q i g0 g1 g2 g3 g4 g5 g6 g7 g8 hq => ?_⟩
        · obtain ⟨k, rfl⟩ : ∃ m, k = m + 1 := ⟨k - 1, by omega⟩
          rw [spec_l10Below.l0, if_pos (by omega), if_pos c]
        · rw [impl_BelowOf.l1, he, if_pos c, if_pos hq, if_pos rfl]
      · obtain ⟨b, j, hj, hs, hi⟩ := ih (rd_T52 l (atI l id)).f1 (n + 1) (by omega) (by omega) hn
        refine ⟨b, j + 1, by omega, fun k hk => ?_, fun k q i g0 g1 g2 g3 g4 g5 g6 g7 g8 hq => ?_⟩
        · obtain ⟨k, rfl⟩ : ∃ m, k = m + 1 := ⟨k - 1, by omega⟩
          rw [spec_l10Below.l0, if_pos (by omega), if_neg c, k_at l nx hl id k (by omega), Option.bind_some, if_neg (by omega), if_pos ha, if_pos hb, hw, hs k (by omega)]
        · rw [show k + (j + 1) = (k + j) + 1 by omega, impl_BelowOf.l1, he, if_neg c, if_neg hid, k_nodeAt, Option.bind_some, if_pos ha2, if_pos hb2]
          exact hi k q i g0 g1 g2 g3 g4 g5 g6 g7 g8 hq
theorem below_loop (l : List S52) (nx : Int) (hl : l.length ≤ 1048576) (h : okB l nx = true) (top : Int) (ht : 0 ≤ atI l top) : ∀ (d i : Nat) (q : List Int), i + d = l.length → q.length ≤ i → (∀ e ∈ q, 0 ≤ atI l e) →
    ∃ r : List Int, (∀ e ∈ r, 0 ≤ atI l e) ∧ r.length ≤ l.length ∧ ∀ k, 1048600 + 7 * d < k → spec_BelowOf.l0 k top q (i : Int) l nx = some r ∧ impl_BelowOf.l0 k top q l (l.length : Int) (i : Int) l nx = some r := by
  obtain ⟨_, hA, _⟩ := ok_parts h
  intro d
  induction d with
  | zero =>
    intro i q h1 h2 h3
    refine ⟨q, h3, by omega, fun k hk => ?_⟩
    obtain ⟨k, rfl⟩ : ∃ m, k = m + 1 := ⟨k - 1, by omega⟩
    rw [spec_BelowOf.l0, impl_BelowOf.l0, if_neg (by omega), if_neg (by omega)]
    exact ⟨rfl, rfl⟩
  | succ d ih =>
    intro i q h1 h2 h3
    have hlen : q.length < 17592186044416 := by omega
    have hw : wrap64 ((i : Int) + 1) = ((i + 1 : Nat) : Int) := by unfold wrap64; omega
    have hat := hA.at i (by omega)
    have h0 : 0 ≤ atI l (rd_T52 l i).f0 := by rw [hat]; omega
    obtain ⟨b, j, hj, hs, hi⟩ := below_one l nx hl hA top ht 4 (rd_T52 l i).f0 0 (by omega) (by omega) (ok_reach h _ h0)
    rw [hat] at hi
    cases b with
    | true =>
      obtain ⟨r, hr1, hr2, hr⟩ := ih (i + 1) (q ++ [(rd_T52 l i).f0]) (by omega) (by simp; omega) (fun e he => by
        rcases List.mem_append.1 he with he | he
        · exact h3 e he
        · rw [List.mem_singleton.1 he]; exact h0)
      refine ⟨r, hr1, hr2, fun k hk => ?_⟩
      obtain ⟨k, rfl⟩ : ∃ m, k = m + 1 := ⟨k - 1, by omega⟩
      refine ⟨?_, ?_⟩
      · rw [spec_BelowOf.l0, if_pos (by omega), if_pos (by omega), spec_l10Below.f, hs k (by omega), Option.bind_some, if_pos rfl, if_pos hlen, hw, (hr k (by omega)).1]
      · rw [impl_BelowOf.l0, if_pos (by omega), if_pos (by omega), if_pos (by omega)]
        obtain ⟨k, rfl⟩ : ∃ m, k = m + j := ⟨k - j, by omega⟩
        rw [hi k q i _ _ _ _ _ _ _ _ _ hlen, if_pos rfl, hw, (hr k (by omega)).2]
    | false =>
      obtain ⟨r, hr1, hr2, hr⟩ := ih (i + 1) q (by omega) (by omega) h3
      refine ⟨r, hr1, hr2, fun k hk => ?_⟩
      obtain ⟨k, rfl⟩ : ∃ m, k = m + 1 := ⟨k - 1, by omega⟩
      refine ⟨?_, ?_⟩
      · rw [spec_BelowOf.l0, if_pos (by omega), if_pos (by omega), spec_l10Below.f, hs k (by omega), Option.bind_some, if_neg (by decide), hw, (hr k (by omega)).1]
      · rw [impl_BelowOf.l0, if_pos (by omega), if_pos (by omega), if_pos (by omega)]
        obtain ⟨k, rfl⟩ : ∃ m, k = m + j := ⟨k - j, by omega⟩
        rw [hi k q i _ _ _ _ _ _ _ _ _ hlen, if_neg (by decide), hw, (hr k (by omega)).2]
theorem below_both (l : List S52) (nx : Int) (hl : l.length ≤ 1048576) (hx : ∀ x ∈ l, x.f2.size ≤ 1048576 ∧ x.f7.length ≤ 1048576) (id : Int) :
    ∃ r : List Int, (∀ e ∈ r, 0 ≤ atI l e) ∧ r.length ≤ l.length ∧ ∀ k, 9437400 < k → spec_BelowOf.f k l nx id = some r ∧ impl_BelowOf.f k l nx id = some r := by
  cases h : okB l nx with
  | false =>
    refine ⟨[], fun e he => by simp at he, by simp, fun k hk => ?_⟩
    obtain ⟨k, rfl⟩ : ∃ m, k = m + 2 := ⟨k - 2, by omega⟩
    obtain ⟨e1, e2⟩ := tree_both l nx hl hx (k + 2) (by omega)
    rw [h] at e1 e2
    unfold spec_BelowOf.f impl_BelowOf.f
    rw [e1, e2]
    exact ⟨by simp, by simp [impl_BelowOf.j0]⟩
  | true =>
    by_cases c : atI l id < 0
    · refine ⟨[], fun e he => by simp at he, by simp, fun k hk => ?_⟩
      obtain ⟨k, rfl⟩ : ∃ m, k = m + 2 := ⟨k - 2, by omega⟩
      obtain ⟨e1, e2⟩ := tree_both l nx hl hx (k + 2) (by omega)
      rw [h] at e1 e2
      unfold spec_BelowOf.f impl_BelowOf.f
      rw [e1, e2]
      refine ⟨?_, by simp [impl_BelowOf.j0, k_nodeAt, c]⟩
      rw [Option.bind_some, if_pos rfl, Option.bind_some, k_at l nx hl id (k + 2) (by omega), Option.bind_some, if_pos c]
    · obtain ⟨r, hr1, hr2, hr⟩ := below_loop l nx hl h id (by omega) l.length 0 [] (by omega) (by simp) (fun e he => by simp at he)
      rw [show ((0 : Nat) : Int) = 0 from rfl] at hr
      refine ⟨r, hr1, hr2, fun k hk => ?_⟩
      obtain ⟨k, rfl⟩ : ∃ m, k = m + 2 := ⟨k - 2, by omega⟩
      obtain ⟨e1, e2⟩ := tree_both l nx hl hx (k + 2) (by omega)
      rw [h] at e1 e2
      unfold spec_BelowOf.f impl_BelowOf.f
      rw [e1, e2]
      refine ⟨?_, ?_⟩
      · rw [Option.bind_some, if_pos rfl, Option.bind_some, k_at l nx hl id (k + 2) (by omega), Option.bind_some, if_neg c, (hr (k + 2) (by omega)).1]
      · rw [Option.bind_some, if_pos rfl, k_nodeAt, Option.bind_some, decide_eq_false c, impl_BelowOf.j0, if_neg (by decide), (hr (k + 1) (by omega)).2]
theorem used_loop (l : List S52) (nx : Int) (hl : l.length ≤ 1048576) (q : List Int) (hq : q.length ≤ 1048576) (hp : ∀ e ∈ q, 0 ≤ atI l e) : ∀ (d i : Nat) (s : Int), i + d = q.length →
    ∃ r, ∀ k, 1048600 + d < k → spec_UsedBelow.l0 k q s (i : Int) l nx = some r ∧ impl_UsedBelow.l0 k s q (q.length : Int) (i : Int) l nx = some r := by
  intro d
  induction d with
  | zero =>
    intro i s h
    refine ⟨s, fun k hk => ?_⟩
    obtain ⟨k, rfl⟩ : ∃ m, k = m + 1 := ⟨k - 1, by omega⟩
    rw [spec_UsedBelow.l0, impl_UsedBelow.l0, if_neg (by omega), if_neg (by omega)]
    exact ⟨rfl, rfl⟩
  | succ d ih =>
    intro i s h
    have hw : wrap64 ((i : Int) + 1) = ((i + 1 : Nat) : Int) := by unfold wrap64; omega
    have hm : rd q (i : Int) ∈ q := by
      unfold rd
      rw [List.getD_eq_getElem?_getD, List.getElem?_eq_getElem (show (i : Int).toNat < q.length by simp; omega)]
      exact List.getElem_mem _
    have h0 := hp _ hm
    have h1 : atI l (rd q (i : Int)) < (l.length : Int) := by
      rcases atI_range l (rd q (i : Int)) with c | c
      · omega
      · exact c.2
    obtain ⟨r, hr⟩ := ih (i + 1) (wrap64 (s + (rd_T52 l (atI l (rd q (i : Int)))).f6)) (by omega)
    refine ⟨r, fun k hk => ?_⟩
    obtain ⟨k, rfl⟩ : ∃ m, k = m + 1 := ⟨k - 1, by omega⟩
    obtain ⟨e1, e2⟩ := hr k (by omega)
    refine ⟨?_, ?_⟩
    · rw [spec_UsedBelow.l0, if_pos (by omega), if_pos (by omega), k_at l nx hl _ k (by omega), Option.bind_some, if_pos h0, if_pos h1, hw, e1]
    · rw [impl_UsedBelow.l0, if_pos (by omega), if_pos (by omega), if_pos (by omega), k_nodeAt, Option.bind_some, if_pos h0, if_pos h1, hw, e2]
theorem used_both (l : List S52) (nx : Int) (hl : l.length ≤ 1048576) (hx : ∀ x ∈ l, x.f2.size ≤ 1048576 ∧ x.f7.length ≤ 1048576) (id : Int) :
    ∃ r, ∀ k, 9437400 < k → spec_UsedBelow.f k l nx id = some r ∧ impl_UsedBelow.f k l nx id = some r := by
  obtain ⟨q, h1, h2, h3⟩ := below_both l nx hl hx id
  obtain ⟨r, hr⟩ := used_loop l nx hl q (by omega) h1 q.length 0 0 (by omega)
  refine ⟨r, fun k hk => ?_⟩
  obtain ⟨e1, e2⟩ := h3 k hk
  obtain ⟨e3, e4⟩ := hr k (by omega)
  unfold spec_UsedBelow.f impl_UsedBelow.f
  rw [e1, e2, Option.bind_some, Option.bind_some]
  exact ⟨e3, e4⟩
theorem ok_quota {l : List S52} {nx : Int} (h : okB l nx = true) (t : Int) (h0 : 0 ≤ t) (h1 : t < (l.length : Int)) (hq : (rd_T52 l t).f5 > 0) : (rd_T52 l t).f3 = true := by
  obtain ⟨_, _, hs⟩ := ok_parts h
  have := hs t.toNat (by omega)
  rw [spN, show ((t.toNat : Nat) : Int) = t by omega] at this
  simp only [Bool.and_eq_true] at this
  have hn := this.2.1
  unfold ndOk at hn
  by_cases c : (rd_T52 l t).f3 = true
  · exact c
  · rw [if_neg c, Bool.and_eq_true] at hn
    have := of_decide_eq_true hn.1
    omega
theorem room_loop (l : List S52) (nx : Int) (hl : l.length ≤ 1048576) (hx : ∀ x ∈ l, x.f2.size ≤ 1048576 ∧ x.f7.length ≤ 1048576) (h : okB l nx = true) (x : Int) : ∀ (m : Nat) (id n : Int), 0 ≤ n → n + m + 1 ≤ 14 → (id = 1 ∨ SI l m id = true) →
    ∃ b, ∀ k, 9437410 + 2 * m < k → spec_RoomFor.l0 k id x n l nx = some b ∧ impl_RoomFor.l0 k id x l nx = some b := by
  have hA := (ok_parts h).2.1
  intro m
  induction m with
  | zero =>
    intro id n h0 h1 h4
    have hid : id = 1 := by
      rcases h4 with h | h
      · exact h
      · simp [SI] at h
    subst hid
    have hp := hA.pos
    have hw : wrap64 (n + 1) = n + 1 := by unfold wrap64; omega
    obtain ⟨u, hu⟩ := used_both l nx hl hx 1
    have hq := ok_quota h 0 (by omega) (by omega)
    have last : ∀ k, 9437400 < k → spec_RoomFor.l0 k 0 x (n + 1) l nx = some true := fun k hk => by
      obtain ⟨k, rfl⟩ : ∃ m, k = m + 1 := ⟨k - 1, by omega⟩
      rw [spec_RoomFor.l0, if_pos (by omega), k_at l nx hl 0 k (by omega), Option.bind_some, hA.atZero, if_pos (by decide), decide_eq_true (by omega)]
    by_cases c : (rd_T52 l 0).f5 > 0
    · by_cases c2 : x > wrap64 ((rd_T52 l 0).f5 - u)
      · refine ⟨false, fun k hk => ?_⟩
        obtain ⟨k, rfl⟩ : ∃ m, k = m + 2 := ⟨k - 2, by omega⟩
        refine ⟨?_, ?_⟩
        · rw [spec_RoomFor.l0, if_pos (by omega), k_at l nx hl 1 (k + 1) (by omega), Option.bind_some, hA.atOne, if_neg (by omega), if_pos (by omega), if_pos (by omega), if_pos (hq c), if_pos c, (hu (k + 1) (by omega)).1, Option.bind_some, if_pos c2]
        · rw [impl_RoomFor.l0, k_nodeAt, Option.bind_some, hA.atOne, if_pos (by omega), if_pos (by omega), if_pos c, (hu (k + 1) (by omega)).2, Option.bind_some, decide_eq_true c2, impl_RoomFor.j2, if_pos rfl]
      · refine ⟨true, fun k hk => ?_⟩
        obtain ⟨k, rfl⟩ : ∃ m, k = m + 2 := ⟨k - 2, by omega⟩
        refine ⟨?_, ?_⟩
        · rw [spec_RoomFor.l0, if_pos (by omega), k_at l nx hl 1 (k + 1) (by omega), Option.bind_some, hA.atOne, if_neg (by omega), if_pos (by omega), if_pos (by omega), if_pos (hq c), if_pos c, (hu (k + 1) (by omega)).1, Option.bind_some, if_neg c2, hA.at0.2.1, hw, last (k + 1) (by omega)]
        · rw [impl_RoomFor.l0, k_nodeAt, Option.bind_some, hA.atOne, if_pos (by omega), if_pos (by omega), if_pos c, (hu (k + 1) (by omega)).2, Option.bind_some, decide_eq_false c2, impl_RoomFor.j2, if_neg (by decide), if_pos rfl]
    · refine ⟨true, fun k hk => ?_⟩
      obtain ⟨k, rfl⟩ : ∃ m, k = m + 2 := ⟨k - 2, by omega⟩
      refine ⟨?_, ?_⟩
      · rw [spec_RoomFor.l0, if_pos (by omega), k_at l nx hl 1 (k + 1) (by omega), Option.bind_some, hA.atOne, if_neg (by omega), if_pos (by omega), if_pos (by omega), if_pos hA.at0.2.2.1, if_neg c, hA.at0.2.1, hw, last (k + 1) (by omega)]
      · rw [impl_RoomFor.l0, k_nodeAt, Option.bind_some, hA.atOne, if_pos (by omega), if_pos (by omega), if_neg c, impl_RoomFor.j2, if_neg (by decide), if_pos rfl]
  | succ m ih =>
    intro id n h0 h1 h4
    by_cases hid : id = 1
    · obtain ⟨b, hb⟩ := ih id n h0 (by omega) (.inl hid)
      exact ⟨b, fun k hk => hb k (by omega)⟩
    · have hn := (SI_at (h4.resolve_left hid)).2
      obtain ⟨ha, hb⟩ := reach_at hA h4
      have hw : wrap64 (n + 1) = n + 1 := by unfold wrap64; omega
      obtain ⟨u, hu⟩ := used_both l nx hl hx id
      have hq := ok_quota h (atI l id) ha hb
      obtain ⟨r, hr⟩ := ih (rd_T52 l (atI l id)).f1 (n + 1) (by omega) (by omega) hn
      by_cases c : (rd_T52 l (atI l id)).f5 > 0
      · by_cases c2 : x > wrap64 ((rd_T52 l (atI l id)).f5 - u)
        · refine ⟨false, fun k hk => ?_⟩
          obtain ⟨k, rfl⟩ : ∃ m, k = m + 2 := ⟨k - 2, by omega⟩
          refine ⟨?_, ?_⟩
          · rw [spec_RoomFor.l0, if_pos (by omega), k_at l nx hl id (k + 1) (by omega), Option.bind_some, if_neg (by omega), if_pos ha, if_pos hb, if_pos (hq c), if_pos c, (hu (k + 1) (by omega)).1, Option.bind_some, if_pos c2]
          · rw [impl_RoomFor.l0, k_nodeAt, Option.bind_some, if_pos ha, if_pos hb, if_pos c, (hu (k + 1) (by omega)).2, Option.bind_some, decide_eq_true c2, impl_RoomFor.j2, if_pos rfl]
        · refine ⟨r, fun k hk => ?_⟩
          obtain ⟨k, rfl⟩ : ∃ m, k = m + 2 := ⟨k - 2, by omega⟩
          refine ⟨?_, ?_⟩
          · rw [spec_RoomFor.l0, if_pos (by omega), k_at l nx hl id (k + 1) (by omega), Option.bind_some, if_neg (by omega), if_pos ha, if_pos hb, if_pos (hq c), if_pos c, (hu (k + 1) (by omega)).1, Option.bind_some, if_neg c2, hw, (hr (k + 1) (by omega)).1]
          · rw [impl_RoomFor.l0, k_nodeAt, Option.bind_some, if_pos ha, if_pos hb, if_pos c, (hu (k + 1) (by omega)).2, Option.bind_some, decide_eq_false c2, impl_RoomFor.j2, if_neg (by decide), if_neg hid, (hr k (by omega)).2]
      · refine ⟨r, fun k hk => ?_⟩
        obtain ⟨k, rfl⟩ : ∃ m, k = m + 2 := ⟨k - 2, by omega⟩
        refine ⟨?_, ?_⟩
        · rw [spec_RoomFor.l0, if_pos (by omega), k_at l nx hl id (k + 1) (by omega), Option.bind_some, if_neg (by omega), if_pos ha, if_pos hb]
          by_cases c3 : (rd_T52 l (atI l id)).f3 = true
          · rw [if_pos c3, if_neg c, hw, (hr (k + 1) (by omega)).1]
          · rw [if_neg c3, hw, (hr (k + 1) (by omega)).1]
        · rw [impl_RoomFor.l0, k_nodeAt, Option.bind_some, if_pos ha, if_pos hb, if_neg c, impl_RoomFor.j2, if_neg (by decide), if_neg hid, (hr k (by omega)).2]
theorem room_both (l : List S52) (nx : Int) (hl : l.length ≤ 1048576) (hx : ∀ x ∈ l, x.f2.size ≤ 1048576 ∧ x.f7.length ≤ 1048576) (id x : Int) (k : Nat) (hk : 9437430 < k) : ∃ r, spec_RoomFor.f k l nx id x = some r ∧ impl_RoomFor.f k l nx id x = some r := by
  obtain ⟨k, rfl⟩ : ∃ m, k = m + 2 := ⟨k - 2, by omega⟩
  obtain ⟨e1, e2⟩ := tree_both l nx hl hx (k + 2) (by omega)
  unfold spec_RoomFor.f impl_RoomFor.f
  rw [e1, e2]
  cases h : okB l nx with
  | false => exact ⟨false, by simp, by simp [impl_RoomFor.j0]⟩
  | true =>
    by_cases c : atI l id < 0
    · refine ⟨false, ?_, ?_⟩
      · rw [Option.bind_some, if_pos rfl, spec_RoomFor.l0, if_pos (by omega), k_at l nx hl id (k + 1) (by omega), Option.bind_some, if_pos c, decide_eq_false (by omega)]
      · simp [impl_RoomFor.j0, k_nodeAt, c]
    · obtain ⟨r, hr⟩ := room_loop l nx hl hx h x 4 id 0 (by omega) (by omega) (ok_reach h id (by omega))
      refine ⟨r, ?_, ?_⟩
      · rw [Option.bind_some, if_pos rfl, (hr (k + 2) (by omega)).1]
      · rw [Option.bind_some, if_pos rfl, k_nodeAt, Option.bind_some, decide_eq_false c, impl_RoomFor.j0, if_neg (by decide), (hr (k + 1) (by omega)).2]
theorem FnExactRoomFor (l : List S70) (b id x : Int) (hi : TreeIn l b) (_ : (Lit.int .i64 id).wf = true) (_ : (Lit.int .i64 x).wf = true) : ∃ k, laws_FnExactRoomFor.f k l b id x = some true := by
  have ho := t_in hi
  obtain ⟨K, hK⟩ : ∃ K : Nat, K = 9437500 := ⟨_, rfl⟩
  refine ⟨K, ?_⟩
  obtain ⟨r, e, hr⟩ := t_sz l b ho.1 ho.2 K (by omega)
  unfold laws_FnExactRoomFor.f
  rw [e]
  simp only [Option.bind_some]
  by_cases c : r < 0
  · rw [if_pos c]
  · rw [if_neg c]
    obtain ⟨hl2, hs2⟩ := hr (by omega)
    have hx := t_conv_all l hs2
    have e2 := t_to l b hl2 (fun x h => (hs2 x h).2) K (by omega)
    have e3 := t_eq (l.map t_conv) b (by simpa using hl2) (fun x h => (hx x h).2) K (by omega)
    obtain ⟨q, e4, e5⟩ := room_both (l.map t_conv) b (by simpa using hl2) hx id x K (by omega)
    simp only [e2, Option.bind_some, e4, e5, bne_self_eq_false, Bool.false_eq_true, if_false, if_true, e3]
end Go.Proofs.Ytnhbfbgflgplcaa.Pure
