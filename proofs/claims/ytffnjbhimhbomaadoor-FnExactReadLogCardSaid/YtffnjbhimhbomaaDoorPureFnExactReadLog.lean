/- The program's ReadLog returns what the reference's returns: the law is true for every text. -/
import Derived.Test.YtffnjbhimhbomaaDoorQTG
import Derived.Test.YtffnjbhimhbomaaDoorPureFnExactReadEdit
namespace Go.Proofs.YtffnjbhimhbomaaDoor.Pure
open Go.RowKit Go.Proofs.YtffnjbhimhbomaaDoor.QTA Go.Proofs.YtffnjbhimhbomaaDoor.QTB Go.Proofs.YtffnjbhimhbomaaDoor.QTC Go.Proofs.YtffnjbhimhbomaaDoor.QTD Go.Proofs.YtffnjbhimhbomaaDoor.QTE Go.Proofs.YtffnjbhimhbomaaDoor.QTF Go.Proofs.YtffnjbhimhbomaaDoor.QTG Go.Proofs.YtffnjbhimhbomaaDoorW.PrintWords Go.Proofs.YtffnjbhimhbomaaDoorW.PrintLast Go.Proofs.YtffnjbhimhbomaaDoorW.PrintMore
set_option linter.unusedSimpArgs false
set_option linter.unusedVariables false
theorem sum_same : ∀ k, (∀ x0 x1 x5, impl_SumMore.l0 k x0 x1 x5 = spec_SumMore.l0 k x0 x1 x5) ∧ (∀ x0 x1 x5 x6, impl_SumMore.l1 k x0 x1 x5 x6 = spec_SumMore.l1 k x0 x1 x5 x6)
  | 0 => ⟨fun _ _ _ => by simp only [impl_SumMore.l0, spec_SumMore.l0], fun _ _ _ _ => by simp only [impl_SumMore.l1, spec_SumMore.l1]⟩
  | k + 1 => by
    obtain ⟨h0, h1⟩ := sum_same k
    exact ⟨fun _ _ _ => by simp only [impl_SumMore.l0, spec_SumMore.l0, h1], fun _ _ _ _ => by simp only [impl_SumMore.l1, spec_SumMore.l1, h0, h1]⟩
theorem sum_key (t : ByteArray) (i : Int) : ∀ (d : Nat) (s x : Int), 0 ≤ x → (8 : Int) - x = d → ∃ s', ∀ k, spec_SumMore.l1 (k + d + 1) s t i x = spec_SumMore.l0 k s' t (wrap64 (i + 1)) := by
  intro d
  induction d with
  | zero =>
    intro s x h0 h1
    refine ⟨s, fun k => ?_⟩
    simp only [spec_SumMore.l1, Nat.add_zero]
    rw [if_neg (by omega)]
  | succ d ih =>
    intro s x h0 h1
    have hw : wrap64 (x + 1) = x + 1 := by unfold wrap64; omega
    by_cases c : Int.tmod s 2 = 1
    · obtain ⟨s', hs⟩ := ih (Go.bits .xor .u32 ((Int.tdiv s 2) % 4294967296) 3558460437) (x + 1) (by omega) (by omega)
      refine ⟨s', fun k => ?_⟩
      rw [show k + (d + 1) + 1 = (k + d + 1) + 1 from by omega]
      simp only [spec_SumMore.l1, hw]
      rw [if_pos (by omega), if_pos c]
      exact hs k
    · obtain ⟨s', hs⟩ := ih ((Int.tdiv s 2) % 4294967296) (x + 1) (by omega) (by omega)
      refine ⟨s', fun k => ?_⟩
      rw [show k + (d + 1) + 1 = (k + d + 1) + 1 from by omega]
      simp only [spec_SumMore.l1, hw]
      rw [if_pos (by omega), if_neg c]
      exact hs k
theorem sum_ends (t : ByteArray) (ht : t.size ≤ 1048576) : ∀ (d : Nat) (s i : Int), 0 ≤ i → (t.size : Int) - i = d → ∃ r, ∀ k, 10 * d < k → spec_SumMore.l0 k s t i = some r := by
  intro d
  induction d with
  | zero =>
    intro s i h0 h1
    refine ⟨s, fun k hk => ?_⟩
    obtain ⟨k, rfl⟩ : ∃ m, k = m + 1 := ⟨k - 1, by omega⟩
    simp only [spec_SumMore.l0]
    rw [if_neg (by omega)]
  | succ d ih =>
    intro s i h0 h1
    have hw : wrap64 (i + 1) = i + 1 := by unfold wrap64; omega
    obtain ⟨s', hs⟩ := sum_key t i 8 (Go.bits .xor .u32 s ((bt t i) % 4294967296)) 0 (by omega) (by omega)
    obtain ⟨r, hr⟩ := ih s' (i + 1) (by omega) (by omega)
    refine ⟨r, fun k hk => ?_⟩
    obtain ⟨k, rfl⟩ : ∃ m, k = m + 8 + 1 + 1 := ⟨k - 10, by omega⟩
    rw [spec_SumMore.l0, if_pos (by omega), if_pos h0, hs k, hw]
    exact hr k (by omega)
noncomputable def sumV (t : ByteArray) : Int := open Classical in if h : t.size ≤ 1048576 then Classical.choose (sum_ends t h t.size 4294967295 0 (by omega) (by omega)) else 0
theorem sum_spec (t : ByteArray) (ht : t.size ≤ 1048576) (k : Nat) (hk : 10485770 < k) : spec_SumOf.f k t = some (sumV t) := by
  have h := Classical.choose_spec (sum_ends t ht t.size 4294967295 0 (by omega) (by omega)) k (by omega)
  unfold spec_SumOf.f spec_SumMore.f sumV
  rw [dif_pos ht, h]
  rfl
theorem sum_impl (t : ByteArray) (ht : t.size ≤ 1048576) (k : Nat) (hk : 10485770 < k) : impl_SumOf.f k t = some (sumV t) := by
  have h := Classical.choose_spec (sum_ends t ht t.size 4294967295 0 (by omega) (by omega)) k (by omega)
  unfold impl_SumOf.f impl_SumMore.f sumV
  rw [(sum_same k).1, dif_pos ht, h]
  rfl
noncomputable def frV (t : ByteArray) : ByteArray × Bool :=
  if 1 ≤ (t.size : Int) ∧ (t.size : Int) ≤ 9000 then ((varT t.size ++ strOfNums [(sumV t / 16777216) % 256, (sumV t / 65536) % 256, (sumV t / 256) % 256, (sumV t) % 256]) ++ t, true) else (⟨#[]⟩, false)
theorem fr_spec (t : ByteArray) (k : Nat) (hk : 10485770 < k) : spec_Frame.f k t = some (frV t) := by
  unfold spec_Frame.f frV
  rw [in_spec, Option.bind_some]
  by_cases c : 1 ≤ (t.size : Int) ∧ (t.size : Int) ≤ 9000
  · have s0 := strOf_size [(sumV t / 16777216) % 256, (sumV t / 65536) % 256, (sumV t / 256) % 256, (sumV t) % 256]
    have s1 := varT_size t.size
    simp only [List.length_cons, List.length_nil] at s0
    rw [if_pos c, decide_eq_true c.1, decide_eq_true c.2]
    simp only [spec_l02Four.f, var_spec (t.size : Int) (by omega) (by omega) k (by omega), sum_spec t (by omega) k hk, Option.bind_some, Bool.and_self, if_true, ByteArray.size_append]
    rw [if_pos (by omega), if_pos (by omega)]
  · rw [if_neg c, if_neg]
    simp only [Bool.and_eq_true, decide_eq_true_eq]
    exact c
theorem fr_impl (t : ByteArray) (k : Nat) (hk : 10485770 < k) : impl_Frame.f k t = some (frV t) := by
  unfold impl_Frame.f frV
  rw [in_impl, Option.bind_some]
  by_cases c : 1 ≤ (t.size : Int) ∧ (t.size : Int) ≤ 9000
  · have s0 := strOf_size [(sumV t / 16777216) % 256, (sumV t / 65536) % 256, (sumV t / 256) % 256, (sumV t) % 256]
    have s1 := varT_size t.size
    simp only [List.length_cons, List.length_nil] at s0
    rw [if_pos c, decide_eq_true c.1, decide_eq_true c.2]
    simp only [var_impl (t.size : Int) (by omega) (by omega) k (by omega), sum_impl t (by omega) k hk, Option.bind_some, Bool.and_self, if_true, ByteArray.size_append]
    rw [if_pos (by omega), if_pos (by omega)]
  · rw [if_neg c, if_neg]
    simp only [Bool.and_eq_true, decide_eq_true_eq]
    exact c
theorem rd34_at (l : List S34) (i : Int) (hi : i.toNat < l.length) : rd_T34 l i = l[i.toNat] := by
  unfold rd_T34
  rw [List.getD_eq_getElem?_getD, List.getElem?_eq_getElem hi]
  rfl
theorem rd34_set (l : List S34) (i : Int) (v : S34) (hi : i.toNat < l.length) : rd_T34 (l.set i.toNat v) i = v := by
  rw [rd34_at _ _ (by rw [List.length_set]; exact hi), List.getElem_set_self]
theorem e34_loop (l : List S34) (hl : l.length ≤ 1048576) : ∀ (d k : Nat) (i : Int), 0 ≤ i → (l.length : Int) - i = d → d < k → laws_eqEditS.l0 k l l i = some true := by
  intro d
  induction d with
  | zero =>
    intro k i h0 h1 hk
    obtain ⟨k, rfl⟩ : ∃ m, k = m + 1 := ⟨k - 1, by omega⟩
    simp only [laws_eqEditS.l0]
    rw [if_neg (by omega)]
  | succ d ih =>
    intro k i h0 h1 hk
    obtain ⟨k, rfl⟩ : ∃ m, k = m + 1 := ⟨k - 1, by omega⟩
    have hw : wrap64 (i + 1) = i + 1 := by unfold wrap64; omega
    simp only [laws_eqEditS.l0, laws_eqEdit.f, if_true, Option.bind_some, hw]
    rw [if_pos (by omega), if_pos h0, if_pos (by omega)]
    exact ih k (i + 1) (by omega) (by omega) (by omega)
theorem e34_eq (l : List S34) (hl : l.length ≤ 1048576) (k : Nat) (hk : l.length < k) : laws_eqEditS.f k l l = some true := by
  unfold laws_eqEditS.f
  rw [if_pos rfl]
  exact e34_loop l hl l.length k 0 (by omega) (by omega) hk
noncomputable def mk34 (m : Int) : S34 := ⟨m, m_t (m + 1), m_t (m + 1 + 1), m + 1 + 1 + 1, m + 1 + 1 + 1 + 1⟩
theorem m34_loop : ∀ (d k : Nat) (xs : List S34) (m i : Int), xs.length ≤ 1048576 → 0 ≤ i → 0 ≤ m → m ≤ 1048576 + 5 * i → (xs.length : Int) - i = d → d + 21 < k →
    ∃ ys, laws_markEditS.l0 k xs m i = some (m + 5 * d, ys) ∧ ys.length = xs.length ∧ (∀ j : Nat, (j : Int) < i → ys[j]? = xs[j]?) ∧ ∀ j : Nat, i ≤ (j : Int) → j < xs.length → ys[j]? = some (mk34 (m + 5 * (j - i))) := by
  intro d
  induction d with
  | zero =>
    intro k xs m i hx h0 _ _ h1 hk
    obtain ⟨k, rfl⟩ : ∃ m, k = m + 1 := ⟨k - 1, by omega⟩
    refine ⟨xs, ?_, rfl, fun _ _ => rfl, fun j _ _ => by omega⟩
    simp only [laws_markEditS.l0]
    rw [if_neg (by omega)]
    simp
  | succ d ih =>
    intro k xs m i hx h0 hm0 hm h1 hk
    obtain ⟨k, rfl⟩ : ∃ m, k = m + 1 := ⟨k - 1, by omega⟩
    have hw : wrap64 (i + 1) = i + 1 := by unfold wrap64; omega
    have hwm1 : wrap64 (m + 1) = m + 1 := by unfold wrap64; omega
    have hwm2 : wrap64 (m + 1 + 1) = m + 1 + 1 := by unfold wrap64; omega
    have hwm3 : wrap64 (m + 1 + 1 + 1) = m + 1 + 1 + 1 := by unfold wrap64; omega
    have hwm4 : wrap64 (m + 1 + 1 + 1 + 1) = m + 1 + 1 + 1 + 1 := by unfold wrap64; omega
    have hwm5 : wrap64 (m + 1 + 1 + 1 + 1 + 1) = m + 1 + 1 + 1 + 1 + 1 := by unfold wrap64; omega
    have hp : i < (xs.length : Int) := by omega
    have hi : i.toNat < xs.length := by omega
    have t1 := m_is (m + 1) (by omega) (by omega) k (by omega)
    have t2 := m_is (m + 1 + 1) (by omega) (by omega) k (by omega)
    have t3 := m_is (m + 1 + 1 + 1) (by omega) (by omega) k (by omega)
    obtain ⟨ys, e, hl, ha, hb⟩ := ih k (xs.set i.toNat (mk34 m)) (m + 5) (i + 1) (by simpa using hx) (by omega) (by omega) (by omega) (by simp; omega) (by omega)
    rw [List.length_set] at hl hb
    refine ⟨ys, ?_, hl, fun j hj => ?_, fun j hj0 hj => ?_⟩
    · simp only [laws_markEditS.l0, hw, hwm1, hwm2, hwm3, hwm4, hwm5, t1, t2, t3, Option.bind_some, List.set_set, rd34_set xs i _ hi]
      rw [if_pos hp, if_pos h0]
      unfold mk34 at e
      rw [show m + 1 + 1 + 1 + 1 + 1 = m + 5 by omega, e]
      congr 2
      push_cast
      omega
    · rw [ha j (by omega), List.getElem?_set_ne (by omega)]
    · by_cases he : (j : Int) = i
      · rw [ha j (by omega), show i.toNat = j by omega, List.getElem?_set_self (by omega)]
        congr 2
        omega
      · rw [hb j (by omega) hj]
        congr 2
        omega
theorem m34_held (ys : List S34) (hy : ys.length ≤ 1048576) : ∀ (d k : Nat) (m i : Int), 0 ≤ i → 0 ≤ m → m ≤ 1048576 + 5 * i → (ys.length : Int) - i = d → d + 21 < k → (∀ j : Nat, i ≤ (j : Int) → j < ys.length → ys[j]? = some (mk34 (m + 5 * (j - i)))) →
    laws_heldEditS.l0 k ys m i = some (m + 5 * d) := by
  intro d
  induction d with
  | zero =>
    intro k m i h0 _ _ h1 hk _
    obtain ⟨k, rfl⟩ : ∃ m, k = m + 1 := ⟨k - 1, by omega⟩
    simp only [laws_heldEditS.l0]
    rw [if_neg (by omega)]
    simp
  | succ d ih =>
    intro k m i h0 hm0 hm h1 hk hall
    obtain ⟨k, rfl⟩ : ∃ m, k = m + 1 := ⟨k - 1, by omega⟩
    have hw : wrap64 (i + 1) = i + 1 := by unfold wrap64; omega
    have hwm1 : wrap64 (m + 1) = m + 1 := by unfold wrap64; omega
    have hwm2 : wrap64 (m + 1 + 1) = m + 1 + 1 := by unfold wrap64; omega
    have hwm3 : wrap64 (m + 1 + 1 + 1) = m + 1 + 1 + 1 := by unfold wrap64; omega
    have hwm4 : wrap64 (m + 1 + 1 + 1 + 1) = m + 1 + 1 + 1 + 1 := by unfold wrap64; omega
    have hwm5 : wrap64 (m + 1 + 1 + 1 + 1 + 1) = m + 1 + 1 + 1 + 1 + 1 := by unfold wrap64; omega
    have hp : i < (ys.length : Int) := by omega
    have hi : i.toNat < ys.length := by omega
    have t1 := m_is (m + 1) (by omega) (by omega) k (by omega)
    have t2 := m_is (m + 1 + 1) (by omega) (by omega) k (by omega)
    have t3 := m_is (m + 1 + 1 + 1) (by omega) (by omega) k (by omega)
    have he : rd_T34 ys i = mk34 m := by
      rw [rd34_at ys i hi]
      have h := hall i.toNat (by omega) hi
      rw [List.getElem?_eq_getElem hi] at h
      injection h with h
      rw [h]
      congr 1
      omega
    have ih' := ih k (m + 5) (i + 1) (by omega) (by omega) (by omega) (by omega) (by omega) (fun j hj hj' => by rw [hall j (by omega) hj']; congr 2; omega)
    simp only [laws_heldEditS.l0, hw, hwm1, hwm2, hwm3, hwm4, hwm5, he, mk34, t1, t2, t3, Option.bind_some, if_true]
    rw [if_pos hp, if_pos h0, show m + 1 + 1 + 1 + 1 + 1 = m + 5 by omega, ih']
    congr 1
    push_cast
    omega
theorem m34_all (xs : List S34) (hx : xs.length ≤ 1048576) (k : Nat) (hk : 1048600 < k) : ∃ ys, laws_markEditS.f k xs 1 = some (1 + 5 * (xs.length : Int), ys) ∧ ∀ k, 1048600 < k → laws_heldEditS.f k ys 1 = some (1 + 5 * (xs.length : Int)) := by
  obtain ⟨ys, e, hl, _, hall⟩ := m34_loop xs.length k xs 1 0 hx (by omega) (by omega) (by omega) (by omega) (by omega)
  refine ⟨ys, e, fun k hk => ?_⟩
  unfold laws_heldEditS.f
  rw [m34_held ys (by omega) ys.length k 1 0 (by omega) (by omega) (by omega) (by omega) (by omega) (fun j hj hj' => hall j hj (by omega)), hl]
noncomputable def unL (p : ByteArray) : Nat → List ByteArray → Int → List ByteArray × Int
  | 0, acc, a => (acc, a)
  | r + 1, acc, a =>
    if (rvV p a).2.2 = true then
      (if (rvV p a).1 > (p.size : Int) - (rvV p a).2.1 - 4 then (acc, a)
       else if (frV (p.extract ((rvV p a).2.1 + 4).toNat ((rvV p a).2.1 + 4 + (rvV p a).1).toNat)).2 = true then
         (if (frV (p.extract ((rvV p a).2.1 + 4).toNat ((rvV p a).2.1 + 4 + (rvV p a).1).toNat)).1.toList = (p.extract a.toNat ((rvV p a).2.1 + 4 + (rvV p a).1).toNat).toList then
           unL p r (acc ++ [p.extract ((rvV p a).2.1 + 4).toNat ((rvV p a).2.1 + 4 + (rvV p a).1).toNat]) ((rvV p a).2.1 + 4 + (rvV p a).1)
          else (acc, a))
       else (acc, a))
    else (acc, a)
theorem rv_end (p : ByteArray) : (rvV p p.size).2.2 = false := by
  unfold rvV
  rw [if_pos ⟨by omega, by omega⟩]
  unfold rvL
  rw [if_neg (by omega)]
theorem un_spec_loop (p : ByteArray) (hp : p.size ≤ 20000) : ∀ (r k : Nat) (acc : List ByteArray) (a : Int), 0 ≤ a → a ≤ p.size → (p.size : Int) - a < r → (acc.length : Int) ≤ a → 2 * r + 10485800 < k →
    spec_Unframe.l0 k p acc a = some (unL p r acc a) := by
  intro r
  induction r with
  | zero => intro k acc a h0 h1 h2; omega
  | succ r ih =>
    intro k acc a h0 h1 h2 h3 hk
    obtain ⟨k, rfl⟩ : ∃ m, k = m + 2 := ⟨k - 2, by omega⟩
    have hv := rv_ok p a
    have hend := rv_end p
    simp only [spec_Unframe.l0, spec_Unframe.j1]
    unfold unL
    by_cases c : a < (p.size : Int)
    · rw [if_pos c, rv_spec p (by omega) a (k + 1) (by omega), Option.bind_some]
      generalize rvV p a = v at hv ⊢
      obtain ⟨n, nx, b⟩ := v
      dsimp only at hv ⊢
      cases b with
      | false => rfl
      | true =>
        obtain ⟨_, g1, g2, g3, g4, _⟩ := hv rfl
        have e1 : wrap64 ((p.size : Int) - nx) = (p.size : Int) - nx := by unfold wrap64; omega
        have e2 : wrap64 ((p.size : Int) - nx - 4) = (p.size : Int) - nx - 4 := by unfold wrap64; omega
        have e3 : wrap64 (nx + 4) = nx + 4 := by unfold wrap64; omega
        have e4 : wrap64 (nx + 4 + n) = nx + 4 + n := by unfold wrap64; omega
        rw [e1, e2, e3, e4, if_pos rfl, if_pos rfl]
        by_cases c2 : n > (p.size : Int) - nx - 4
        · rw [decide_eq_true c2, if_pos rfl, if_pos c2]
        · rw [decide_eq_false c2, if_neg (by decide), if_neg c2, if_pos (by omega), if_pos (by omega), if_pos (by omega), fr_spec _ k (by omega), Option.bind_some]
          by_cases c3 : (frV (p.extract (nx + 4).toNat (nx + 4 + n).toNat)).2 = true
          · rw [if_pos c3, if_pos c3, if_pos (by omega), if_pos (by omega)]
            by_cases c4 : (frV (p.extract (nx + 4).toNat (nx + 4 + n).toNat)).1.toList = (p.extract a.toNat (nx + 4 + n).toNat).toList
            · rw [if_pos c4, if_pos c4, if_pos (by omega)]
              exact ih k _ _ (by omega) (by omega) (by omega) (by rw [List.length_append]; simp only [List.length_cons, List.length_nil]; omega) (by omega)
            · rw [if_neg c4, if_neg c4]
          · rw [if_neg c3, if_neg c3]
    · obtain rfl : a = (p.size : Int) := by omega
      rw [if_neg c, if_neg (by rw [hend]; decide)]
theorem un_impl_loop (p : ByteArray) (hp : p.size ≤ 20000) : ∀ (r k : Nat) (acc : List ByteArray) (a : Int), 0 ≤ a → a ≤ p.size → (p.size : Int) - a < r → (acc.length : Int) ≤ a → 2 * r + 10485800 < k →
    impl_Unframe.l0 k p acc a = some (unL p r acc a) := by
  intro r
  induction r with
  | zero => intro k acc a h0 h1 h2; omega
  | succ r ih =>
    intro k acc a h0 h1 h2 h3 hk
    obtain ⟨k, rfl⟩ : ∃ m, k = m + 2 := ⟨k - 2, by omega⟩
    have hv := rv_ok p a
    simp only [impl_Unframe.l0, impl_Unframe.j1]
    unfold unL
    rw [rv_impl p (by omega) a (k + 1) (by omega), Option.bind_some]
    generalize rvV p a = v at hv ⊢
    obtain ⟨n, nx, b⟩ := v
    dsimp only at hv ⊢
    cases b with
    | false => rfl
    | true =>
      obtain ⟨_, g1, g2, g3, g4, _⟩ := hv rfl
      have e1 : wrap64 ((p.size : Int) - nx) = (p.size : Int) - nx := by unfold wrap64; omega
      have e2 : wrap64 ((p.size : Int) - nx - 4) = (p.size : Int) - nx - 4 := by unfold wrap64; omega
      have e3 : wrap64 (nx + 4) = nx + 4 := by unfold wrap64; omega
      have e4 : wrap64 (nx + 4 + n) = nx + 4 + n := by unfold wrap64; omega
      rw [e1, e2, e3, e4, if_pos rfl, if_pos rfl]
      by_cases c2 : n > (p.size : Int) - nx - 4
      · rw [decide_eq_true c2, if_pos rfl, if_pos c2]
      · rw [decide_eq_false c2, if_neg (by decide), if_neg c2, if_pos (by omega), if_pos (by omega), if_pos (by omega), fr_impl _ k (by omega), Option.bind_some]
        by_cases c3 : (frV (p.extract (nx + 4).toNat (nx + 4 + n).toNat)).2 = true
        · rw [if_pos c3, if_pos c3, if_pos (by omega), if_pos (by omega)]
          by_cases c4 : (frV (p.extract (nx + 4).toNat (nx + 4 + n).toNat)).1.toList = (p.extract a.toNat (nx + 4 + n).toNat).toList
          · rw [if_pos c4, if_pos c4, if_pos (by omega)]
            exact ih k _ _ (by omega) (by omega) (by omega) (by rw [List.length_append]; simp only [List.length_cons, List.length_nil]; omega) (by omega)
          · rw [if_neg c4, if_neg c4]
        · rw [if_neg c3, if_neg c3]
theorem un_ok (p : ByteArray) : ∀ (r : Nat) (acc : List ByteArray) (a : Int), 0 ≤ a → a ≤ p.size → (acc.length : Int) ≤ a → (∀ t ∈ acc, t.size ≤ p.size) →
    (unL p r acc a).1.length ≤ p.size ∧ ∀ t ∈ (unL p r acc a).1, t.size ≤ p.size := by
  intro r
  induction r with
  | zero => intro acc a h0 h1 h2 h3; exact ⟨by unfold unL; dsimp only; omega, h3⟩
  | succ r ih =>
    intro acc a h0 h1 h2 h3
    have hv := rv_ok p a
    have stop : acc.length ≤ p.size ∧ ∀ t ∈ acc, t.size ≤ p.size := ⟨by omega, h3⟩
    unfold unL
    generalize rvV p a = v at hv ⊢
    obtain ⟨n, nx, b⟩ := v
    dsimp only at hv ⊢
    cases b with
    | false => exact stop
    | true =>
      obtain ⟨_, g1, g2, g3, g4, _⟩ := hv rfl
      rw [if_pos rfl]
      by_cases c2 : n > (p.size : Int) - nx - 4
      · rw [if_pos c2]; exact stop
      · rw [if_neg c2]
        by_cases c3 : (frV (p.extract (nx + 4).toNat (nx + 4 + n).toNat)).2 = true
        · rw [if_pos c3]
          by_cases c4 : (frV (p.extract (nx + 4).toNat (nx + 4 + n).toNat)).1.toList = (p.extract a.toNat (nx + 4 + n).toNat).toList
          · rw [if_pos c4]
            refine ih _ _ (by omega) (by omega) (by rw [List.length_append]; simp only [List.length_cons, List.length_nil]; omega) (fun t ht => ?_)
            rw [List.mem_append] at ht
            rcases ht with ht | ht
            · exact h3 t ht
            · obtain rfl : t = p.extract (nx + 4).toNat (nx + 4 + n).toNat := by simpa using ht
              rw [ByteArray.size_extract]
              omega
          · rw [if_neg c4]; exact stop
        · rw [if_neg c3]; exact stop
noncomputable def unV (p : ByteArray) : List ByteArray × Int := if (p.size : Int) > 20000 then ([], 0) else unL p (p.size + 1) [] 0
theorem un_spec (p : ByteArray) (k : Nat) (hk : 10600000 < k) : spec_Unframe.f k p = some (unV p) := by
  unfold spec_Unframe.f unV
  rw [Option.bind_some]
  by_cases c : (p.size : Int) > 20000
  · rw [if_pos c, if_pos c]
  · rw [if_neg c, if_neg c]
    exact un_spec_loop p (by omega) (p.size + 1) k [] 0 (by omega) (by omega) (by omega) (by simp) (by omega)
theorem un_impl (p : ByteArray) (k : Nat) (hk : 10600000 < k) : impl_Unframe.f k p = some (unV p) := by
  unfold impl_Unframe.f unV
  by_cases c : (p.size : Int) > 20000
  · rw [if_pos c, if_pos c]
  · rw [if_neg c, if_neg c]
    exact un_impl_loop p (by omega) (p.size + 1) k [] 0 (by omega) (by omega) (by omega) (by simp) (by omega)
theorem unV_ok (p : ByteArray) : (unV p).1.length ≤ 20000 ∧ ∀ t ∈ (unV p).1, t.size ≤ 20000 := by
  unfold unV
  by_cases c : (p.size : Int) > 20000
  · rw [if_pos c]; exact ⟨Nat.zero_le _, fun t ht => by cases ht⟩
  · rw [if_neg c]
    have h := un_ok p (p.size + 1) [] 0 (by omega) (by omega) (by simp) (fun t ht => by cases ht)
    exact ⟨by omega, fun t ht => by have := h.2 t ht; omega⟩
noncomputable def rlL (l : List ByteArray) : Nat → List S34 → Int → Int → List S34 × Int
  | 0, acc, a, _ => (acc, a)
  | r + 1, acc, a, i =>
    if i < (l.length : Int) then
      (if (reV (rdOf ByteArray.empty l i)).2.2.2.2.2 = true then
        rlL l r (acc ++ [⟨(reV (rdOf ByteArray.empty l i)).1, (reV (rdOf ByteArray.empty l i)).2.1, (reV (rdOf ByteArray.empty l i)).2.2.1, (reV (rdOf ByteArray.empty l i)).2.2.2.1, (reV (rdOf ByteArray.empty l i)).2.2.2.2.1⟩]) (a + ((frV (rdOf ByteArray.empty l i)).1.size : Int)) (i + 1)
       else (acc, a))
    else (acc, a)
theorem fr_size (t : ByteArray) : (frV t).1.size ≤ 10000 := by
  unfold frV
  by_cases c : 1 ≤ (t.size : Int) ∧ (t.size : Int) ≤ 9000
  · have s0 := strOf_size [(sumV t / 16777216) % 256, (sumV t / 65536) % 256, (sumV t / 256) % 256, (sumV t) % 256]
    have s1 := varT_size t.size
    simp only [List.length_cons, List.length_nil] at s0
    rw [if_pos c]
    simp only [ByteArray.size_append]
    omega
  · rw [if_neg c]; exact Nat.zero_le _
theorem rd_size (l : List ByteArray) (hs : ∀ t ∈ l, t.size ≤ 20000) (i : Int) : (rdOf ByteArray.empty l i).size ≤ 20000 := by
  by_cases h : i.toNat < l.length
  · rw [s_rd l i h]
    exact hs _ (List.getElem_mem h)
  · unfold rdOf
    rw [List.getD_eq_getElem?_getD, List.getElem?_eq_none (by omega)]
    exact Nat.zero_le _
theorem rl_spec_loop (l : List ByteArray) (hl : l.length ≤ 20000) (hs : ∀ t ∈ l, t.size ≤ 20000) : ∀ (r k : Nat) (acc : List S34) (a i : Int), 0 ≤ i → i ≤ l.length → (l.length : Int) - i < r → 0 ≤ a → a ≤ 10000 * i → (acc.length : Int) = i → r + 10600000 < k →
    spec_ReadLog.l0 k acc a l i = some (rlL l r acc a i) := by
  intro r
  induction r with
  | zero => intro k acc a i h0 h1 h2; omega
  | succ r ih =>
    intro k acc a i h0 h1 h2 h3 h4 h5 hk
    obtain ⟨k, rfl⟩ : ∃ m, k = m + 1 := ⟨k - 1, by omega⟩
    have hz := rd_size l hs i
    have hf := fr_size (rdOf ByteArray.empty l i)
    have e1 : wrap64 (a + ((frV (rdOf ByteArray.empty l i)).1.size : Int)) = a + ((frV (rdOf ByteArray.empty l i)).1.size : Int) := by unfold wrap64; omega
    have e2 : wrap64 (i + 1) = i + 1 := by unfold wrap64; omega
    simp only [spec_ReadLog.l0, re_spec (rdOf ByteArray.empty l i) (by omega) k (by omega), fr_spec (rdOf ByteArray.empty l i) k (by omega), Option.bind_some, e1, e2]
    unfold rlL
    by_cases c : i < (l.length : Int)
    · rw [if_pos c, if_pos c, if_pos h0]
      by_cases c2 : (reV (rdOf ByteArray.empty l i)).2.2.2.2.2 = true
      · rw [if_pos c2, if_pos c2, if_pos (by omega)]
        exact ih k _ _ _ (by omega) (by omega) (by omega) (by omega) (by omega) (by rw [List.length_append]; simp only [List.length_cons, List.length_nil]; omega) (by omega)
      · rw [if_neg c2, if_neg c2]
    · rw [if_neg c, if_neg c]
theorem rl_impl_loop (l : List ByteArray) (hl : l.length ≤ 20000) (hs : ∀ t ∈ l, t.size ≤ 20000) : ∀ (r k : Nat) (acc : List S34) (a i : Int), 0 ≤ i → i ≤ l.length → (l.length : Int) - i < r → 0 ≤ a → a ≤ 10000 * i → (acc.length : Int) = i → r + 10600000 < k →
    impl_ReadLog.l0 k acc a l (l.length : Int) i = some (rlL l r acc a i) := by
  intro r
  induction r with
  | zero => intro k acc a i h0 h1 h2; omega
  | succ r ih =>
    intro k acc a i h0 h1 h2 h3 h4 h5 hk
    obtain ⟨k, rfl⟩ : ∃ m, k = m + 1 := ⟨k - 1, by omega⟩
    have hz := rd_size l hs i
    have hf := fr_size (rdOf ByteArray.empty l i)
    have e1 : wrap64 (a + ((frV (rdOf ByteArray.empty l i)).1.size : Int)) = a + ((frV (rdOf ByteArray.empty l i)).1.size : Int) := by unfold wrap64; omega
    have e2 : wrap64 (i + 1) = i + 1 := by unfold wrap64; omega
    simp only [impl_ReadLog.l0, re_impl (rdOf ByteArray.empty l i) (by omega) k (by omega), fr_impl (rdOf ByteArray.empty l i) k (by omega), Option.bind_some, e1, e2]
    unfold rlL
    by_cases c : i < (l.length : Int)
    · rw [if_pos c, if_pos c, if_pos h0, if_pos c]
      by_cases c2 : (reV (rdOf ByteArray.empty l i)).2.2.2.2.2 = true
      · rw [if_pos c2, if_pos c2, if_pos (by omega)]
        exact ih k _ _ _ (by omega) (by omega) (by omega) (by omega) (by omega) (by rw [List.length_append]; simp only [List.length_cons, List.length_nil]; omega) (by omega)
      · rw [if_neg c2, if_neg c2]
    · rw [if_neg c, if_neg c]
theorem rl_len (l : List ByteArray) : ∀ (r : Nat) (acc : List S34) (a i : Int), (rlL l r acc a i).1.length ≤ acc.length + r := by
  intro r
  induction r with
  | zero => intro acc a i; exact Nat.le_refl _
  | succ r ih =>
    intro acc a i
    unfold rlL
    repeat' split
    · have := ih (acc ++ [⟨(reV (rdOf ByteArray.empty l i)).1, (reV (rdOf ByteArray.empty l i)).2.1, (reV (rdOf ByteArray.empty l i)).2.2.1, (reV (rdOf ByteArray.empty l i)).2.2.2.1, (reV (rdOf ByteArray.empty l i)).2.2.2.2.1⟩]) (a + ((frV (rdOf ByteArray.empty l i)).1.size : Int)) (i + 1)
      rw [List.length_append] at this
      simp only [List.length_cons, List.length_nil] at this
      omega
    · dsimp only; omega
    · dsimp only; omega
noncomputable def rlV (p : ByteArray) : List S34 × Int := rlL (unV p).1 ((unV p).1.length + 1) [] 0 0
theorem rl_spec (p : ByteArray) (k : Nat) (hk : 10700000 < k) : spec_ReadLog.f k p = some (rlV p) := by
  have h := unV_ok p
  unfold spec_ReadLog.f rlV
  rw [un_spec p k (by omega), Option.bind_some]
  exact rl_spec_loop (unV p).1 h.1 h.2 _ k [] 0 0 (by omega) (by omega) (by omega) (by omega) (by omega) rfl (by omega)
theorem rl_impl (p : ByteArray) (k : Nat) (hk : 10700000 < k) : impl_ReadLog.f k p = some (rlV p) := by
  have h := unV_ok p
  unfold impl_ReadLog.f rlV
  rw [un_impl p k (by omega), Option.bind_some]
  exact rl_impl_loop (unV p).1 h.1 h.2 _ k [] 0 0 (by omega) (by omega) (by omega) (by omega) (by omega) rfl (by omega)
theorem rlV_len (p : ByteArray) : (rlV p).1.length ≤ 20001 := by
  have h := unV_ok p
  have h2 := rl_len (unV p).1 ((unV p).1.length + 1) [] 0 0
  unfold rlV
  simp only [List.length_nil] at h2
  omega
theorem FnExactReadLog (a0 : ByteArray) (_ : a0.size ≤ 140737488351232) : ∃ k, laws_FnExactReadLog.f k a0 = some true := by
  obtain ⟨K, hK⟩ : ∃ K : Nat, 20000000 < K := ⟨20000001, by decide⟩
  refine ⟨K + 2, ?_⟩
  unfold laws_FnExactReadLog.f
  by_cases c : (a0.size : Int) > 1048576
  · rw [if_pos c]
  · rw [if_neg c]
    have hl := rlV_len a0
    have e1 := rl_spec a0 (K + 2) (by omega)
    have e2 := fun k => rl_impl a0 k
    obtain ⟨ys, m1, m2⟩ := m34_all (rlV a0).1 (by omega) (K + 1) (by omega)
    simp only [Option.bind_some, e1, e2 (K + 2) (by omega), e2 (K + 1) (by omega), e34_eq (rlV a0).1 (by omega) (K + 2) (by omega), e34_eq (rlV a0).1 (by omega) (K + 1) (by omega), if_true, bne_self_eq_false, laws_FnExactReadLog.j0, laws_FnExactReadLog.j1, Bool.false_eq_true, if_false, m1, m2 (K + 1) (by omega), m2 K (by omega)]
    rw [if_neg (by omega), if_neg (by omega)]
end Go.Proofs.YtffnjbhimhbomaaDoor.Pure
