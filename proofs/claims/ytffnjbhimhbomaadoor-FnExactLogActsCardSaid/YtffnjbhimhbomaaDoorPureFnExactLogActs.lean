/- The program's LogActs returns what the reference's returns: the law is true for every record. -/
import Derived.Test.YtffnjbhimhbomaaDoorQTF
import Derived.Test.YtffnjbhimhbomaaDoorPureFnExactEditText
namespace Go.Proofs.YtffnjbhimhbomaaDoor.Pure
open Go.RowKit Go.Proofs.YtffnjbhimhbomaaDoor.QTA Go.Proofs.YtffnjbhimhbomaaDoor.QTB Go.Proofs.YtffnjbhimhbomaaDoor.QTC Go.Proofs.YtffnjbhimhbomaaDoor.QTD Go.Proofs.YtffnjbhimhbomaaDoor.QTF Go.Proofs.YtffnjbhimhbomaaDoorW.PrintWords Go.Proofs.YtffnjbhimhbomaaDoorW.PrintLast Go.Proofs.YtffnjbhimhbomaaDoorW.PrintMore
set_option linter.unusedSimpArgs false
set_option linter.unusedVariables false
theorem sum_same : ∀ k, (∀ x0 x1 x5, impl_SumMore.l0 k x0 x1 x5 = spec_SumMore.l0 k x0 x1 x5) ∧ (∀ x0 x1 x5 x6, impl_SumMore.l1 k x0 x1 x5 x6 = spec_SumMore.l1 k x0 x1 x5 x6)
  | 0 => ⟨fun _ _ _ => by simp only [impl_SumMore.l0, spec_SumMore.l0], fun _ _ _ _ => by simp only [impl_SumMore.l1, spec_SumMore.l1]⟩
  | k + 1 => by
    obtain ⟨h0, h1⟩ := sum_same k
    exact ⟨fun _ _ _ => by simp only [impl_SumMore.l0, spec_SumMore.l0, h1], fun _ _ _ _ => by simp only [impl_SumMore.l1, spec_SumMore.l1, h0, h1]⟩
theorem sum_key (t : ByteArray) (i : Int) : ∀ (d : Nat) (s x : Int), 0 ≤ x → (8 : Int) - x = d → ∃ s', ∀ k, spec_SumMore.l1 (k + d + 1) s t i x = spec_SumMore.l0 k s' t (wrap64 (i + 1)) := by
  intro d
  induction d with
  | zero =>
    intro s x h0 h1
    refine ⟨s, fun k => ?_⟩
    simp only [spec_SumMore.l1, Nat.add_zero]
    rw [if_neg (by omega)]
  | succ d ih =>
    intro s x h0 h1
    have hw : wrap64 (x + 1) = x + 1 := by unfold wrap64; omega
    by_cases c : Int.tmod s 2 = 1
    · obtain ⟨s', hs⟩ := ih (Go.bits .xor .u32 ((Int.tdiv s 2) % 4294967296) 3558460437) (x + 1) (by omega) (by omega)
      refine ⟨s', fun k => ?_⟩
      rw [show k + (d + 1) + 1 = (k + d + 1) + 1 from by omega]
      simp only [spec_SumMore.l1, hw]
      rw [if_pos (by omega), if_pos c]
      exact hs k
    · obtain ⟨s', hs⟩ := ih ((Int.tdiv s 2) % 4294967296) (x + 1) (by omega) (by omega)
      refine ⟨s', fun k => ?_⟩
      rw [show k + (d + 1) + 1 = (k + d + 1) + 1 from by omega]
      simp only [spec_SumMore.l1, hw]
      rw [if_pos (by omega), if_neg c]
      exact hs k
theorem sum_ends (t : ByteArray) (ht : t.size ≤ 1048576) : ∀ (d : Nat) (s i : Int), 0 ≤ i → (t.size : Int) - i = d → ∃ r, ∀ k, 10 * d < k → spec_SumMore.l0 k s t i = some r := by
  intro d
  induction d with
  | zero =>
    intro s i h0 h1
    refine ⟨s, fun k hk => ?_⟩
    obtain ⟨k, rfl⟩ : ∃ m, k = m + 1 := ⟨k - 1, by omega⟩
    simp only [spec_SumMore.l0]
    rw [if_neg (by omega)]
  | succ d ih =>
    intro s i h0 h1
    have hw : wrap64 (i + 1) = i + 1 := by unfold wrap64; omega
    obtain ⟨s', hs⟩ := sum_key t i 8 (Go.bits .xor .u32 s ((bt t i) % 4294967296)) 0 (by omega) (by omega)
    obtain ⟨r, hr⟩ := ih s' (i + 1) (by omega) (by omega)
    refine ⟨r, fun k hk => ?_⟩
    obtain ⟨k, rfl⟩ : ∃ m, k = m + 8 + 1 + 1 := ⟨k - 10, by omega⟩
    rw [spec_SumMore.l0, if_pos (by omega), if_pos h0, hs k, hw]
    exact hr k (by omega)
noncomputable def sumV (t : ByteArray) : Int := open Classical in if h : t.size ≤ 1048576 then Classical.choose (sum_ends t h t.size 4294967295 0 (by omega) (by omega)) else 0
theorem sum_spec (t : ByteArray) (ht : t.size ≤ 1048576) (k : Nat) (hk : 10485770 < k) : spec_SumOf.f k t = some (sumV t) := by
  have h := Classical.choose_spec (sum_ends t ht t.size 4294967295 0 (by omega) (by omega)) k (by omega)
  unfold spec_SumOf.f spec_SumMore.f sumV
  rw [dif_pos ht, h]
  rfl
theorem sum_impl (t : ByteArray) (ht : t.size ≤ 1048576) (k : Nat) (hk : 10485770 < k) : impl_SumOf.f k t = some (sumV t) := by
  have h := Classical.choose_spec (sum_ends t ht t.size 4294967295 0 (by omega) (by omega)) k (by omega)
  unfold impl_SumOf.f impl_SumMore.f sumV
  rw [(sum_same k).1, dif_pos ht, h]
  rfl
noncomputable def frV (t : ByteArray) : ByteArray × Bool :=
  if 1 ≤ (t.size : Int) ∧ (t.size : Int) ≤ 9000 then ((varT t.size ++ strOfNums [(sumV t / 16777216) % 256, (sumV t / 65536) % 256, (sumV t / 256) % 256, (sumV t) % 256]) ++ t, true) else (⟨#[]⟩, false)
theorem fr_spec (t : ByteArray) (k : Nat) (hk : 10485770 < k) : spec_Frame.f k t = some (frV t) := by
  unfold spec_Frame.f frV
  rw [in_spec, Option.bind_some]
  by_cases c : 1 ≤ (t.size : Int) ∧ (t.size : Int) ≤ 9000
  · have s0 := strOf_size [(sumV t / 16777216) % 256, (sumV t / 65536) % 256, (sumV t / 256) % 256, (sumV t) % 256]
    have s1 := varT_size t.size
    simp only [List.length_cons, List.length_nil] at s0
    rw [if_pos c, decide_eq_true c.1, decide_eq_true c.2]
    simp only [spec_l02Four.f, var_spec (t.size : Int) (by omega) (by omega) k (by omega), sum_spec t (by omega) k hk, Option.bind_some, Bool.and_self, if_true, ByteArray.size_append]
    rw [if_pos (by omega), if_pos (by omega)]
  · rw [if_neg c, if_neg]
    simp only [Bool.and_eq_true, decide_eq_true_eq]
    exact c
theorem fr_impl (t : ByteArray) (k : Nat) (hk : 10485770 < k) : impl_Frame.f k t = some (frV t) := by
  unfold impl_Frame.f frV
  rw [in_impl, Option.bind_some]
  by_cases c : 1 ≤ (t.size : Int) ∧ (t.size : Int) ≤ 9000
  · have s0 := strOf_size [(sumV t / 16777216) % 256, (sumV t / 65536) % 256, (sumV t / 256) % 256, (sumV t) % 256]
    have s1 := varT_size t.size
    simp only [List.length_cons, List.length_nil] at s0
    rw [if_pos c, decide_eq_true c.1, decide_eq_true c.2]
    simp only [var_impl (t.size : Int) (by omega) (by omega) k (by omega), sum_impl t (by omega) k hk, Option.bind_some, Bool.and_self, if_true, ByteArray.size_append]
    rw [if_pos (by omega), if_pos (by omega)]
  · rw [if_neg c, if_neg]
    simp only [Bool.and_eq_true, decide_eq_true_eq]
    exact c
theorem rd66_at (l : List S66) (i : Int) (hi : i.toNat < l.length) : rd_T66 l i = l[i.toNat] := by
  unfold rd_T66
  rw [List.getD_eq_getElem?_getD, List.getElem?_eq_getElem hi]
  rfl
theorem rd66_set (l : List S66) (i : Int) (v : S66) (hi : i.toNat < l.length) : rd_T66 (l.set i.toNat v) i = v := by
  rw [rd66_at _ _ (by rw [List.length_set]; exact hi), List.getElem_set_self]
theorem e66_loop (l : List S66) (hl : l.length ≤ 1048576) : ∀ (d k : Nat) (i : Int), 0 ≤ i → (l.length : Int) - i = d → d < k → laws_eqActS.l0 k l l i = some true := by
  intro d
  induction d with
  | zero =>
    intro k i h0 h1 hk
    obtain ⟨k, rfl⟩ : ∃ m, k = m + 1 := ⟨k - 1, by omega⟩
    simp only [laws_eqActS.l0]
    rw [if_neg (by omega)]
  | succ d ih =>
    intro k i h0 h1 hk
    obtain ⟨k, rfl⟩ : ∃ m, k = m + 1 := ⟨k - 1, by omega⟩
    have hw : wrap64 (i + 1) = i + 1 := by unfold wrap64; omega
    simp only [laws_eqActS.l0, laws_eqAct.f, if_true, Option.bind_some, hw]
    rw [if_pos (by omega), if_pos h0, if_pos (by omega)]
    exact ih k (i + 1) (by omega) (by omega) (by omega)
theorem e66_eq (l : List S66) (hl : l.length ≤ 1048576) (k : Nat) (hk : l.length < k) : laws_eqActS.f k l l = some true := by
  unfold laws_eqActS.f
  rw [if_pos rfl]
  exact e66_loop l hl l.length k 0 (by omega) (by omega) hk
noncomputable def mk66 (m : Int) : S66 := ⟨m, m_t (m + 1), m_t (m + 1 + 1), m_t (m + 1 + 1 + 1)⟩
theorem m66_loop : ∀ (d k : Nat) (xs : List S66) (m i : Int), xs.length ≤ 1048576 → 0 ≤ i → 0 ≤ m → m ≤ 1048576 + 4 * i → (xs.length : Int) - i = d → d + 21 < k →
    ∃ ys, laws_markActS.l0 k xs m i = some (m + 4 * d, ys) ∧ ys.length = xs.length ∧ (∀ j : Nat, (j : Int) < i → ys[j]? = xs[j]?) ∧ ∀ j : Nat, i ≤ (j : Int) → j < xs.length → ys[j]? = some (mk66 (m + 4 * (j - i))) := by
  intro d
  induction d with
  | zero =>
    intro k xs m i hx h0 _ _ h1 hk
    obtain ⟨k, rfl⟩ : ∃ m, k = m + 1 := ⟨k - 1, by omega⟩
    refine ⟨xs, ?_, rfl, fun _ _ => rfl, fun j _ _ => by omega⟩
    simp only [laws_markActS.l0]
    rw [if_neg (by omega)]
    simp
  | succ d ih =>
    intro k xs m i hx h0 hm0 hm h1 hk
    obtain ⟨k, rfl⟩ : ∃ m, k = m + 1 := ⟨k - 1, by omega⟩
    have hw : wrap64 (i + 1) = i + 1 := by unfold wrap64; omega
    have hwm1 : wrap64 (m + 1) = m + 1 := by unfold wrap64; omega
    have hwm2 : wrap64 (m + 1 + 1) = m + 1 + 1 := by unfold wrap64; omega
    have hwm3 : wrap64 (m + 1 + 1 + 1) = m + 1 + 1 + 1 := by unfold wrap64; omega
    have hwm4 : wrap64 (m + 1 + 1 + 1 + 1) = m + 1 + 1 + 1 + 1 := by unfold wrap64; omega
    have hwm5 : wrap64 (m + 1 + 1 + 1 + 1 + 1) = m + 1 + 1 + 1 + 1 + 1 := by unfold wrap64; omega
    have hp : i < (xs.length : Int) := by omega
    have hi : i.toNat < xs.length := by omega
    have t1 := m_is (m + 1) (by omega) (by omega) k (by omega)
    have t2 := m_is (m + 1 + 1) (by omega) (by omega) k (by omega)
    have t3 := m_is (m + 1 + 1 + 1) (by omega) (by omega) k (by omega)
    obtain ⟨ys, e, hl, ha, hb⟩ := ih k (xs.set i.toNat (mk66 m)) (m + 4) (i + 1) (by simpa using hx) (by omega) (by omega) (by omega) (by simp; omega) (by omega)
    rw [List.length_set] at hl hb
    refine ⟨ys, ?_, hl, fun j hj => ?_, fun j hj0 hj => ?_⟩
    · simp only [laws_markActS.l0, hw, hwm1, hwm2, hwm3, hwm4, hwm5, t1, t2, t3, Option.bind_some, List.set_set, rd66_set xs i _ hi]
      rw [if_pos hp, if_pos h0]
      unfold mk66 at e
      rw [show m + 1 + 1 + 1 + 1 = m + 4 by omega, e]
      congr 2
      push_cast
      omega
    · rw [ha j (by omega), List.getElem?_set_ne (by omega)]
    · by_cases he : (j : Int) = i
      · rw [ha j (by omega), show i.toNat = j by omega, List.getElem?_set_self (by omega)]
        congr 2
        omega
      · rw [hb j (by omega) hj]
        congr 2
        omega
theorem m66_held (ys : List S66) (hy : ys.length ≤ 1048576) : ∀ (d k : Nat) (m i : Int), 0 ≤ i → 0 ≤ m → m ≤ 1048576 + 4 * i → (ys.length : Int) - i = d → d + 21 < k → (∀ j : Nat, i ≤ (j : Int) → j < ys.length → ys[j]? = some (mk66 (m + 4 * (j - i)))) →
    laws_heldActS.l0 k ys m i = some (m + 4 * d) := by
  intro d
  induction d with
  | zero =>
    intro k m i h0 _ _ h1 hk _
    obtain ⟨k, rfl⟩ : ∃ m, k = m + 1 := ⟨k - 1, by omega⟩
    simp only [laws_heldActS.l0]
    rw [if_neg (by omega)]
    simp
  | succ d ih =>
    intro k m i h0 hm0 hm h1 hk hall
    obtain ⟨k, rfl⟩ : ∃ m, k = m + 1 := ⟨k - 1, by omega⟩
    have hw : wrap64 (i + 1) = i + 1 := by unfold wrap64; omega
    have hwm1 : wrap64 (m + 1) = m + 1 := by unfold wrap64; omega
    have hwm2 : wrap64 (m + 1 + 1) = m + 1 + 1 := by unfold wrap64; omega
    have hwm3 : wrap64 (m + 1 + 1 + 1) = m + 1 + 1 + 1 := by unfold wrap64; omega
    have hwm4 : wrap64 (m + 1 + 1 + 1 + 1) = m + 1 + 1 + 1 + 1 := by unfold wrap64; omega
    have hwm5 : wrap64 (m + 1 + 1 + 1 + 1 + 1) = m + 1 + 1 + 1 + 1 + 1 := by unfold wrap64; omega
    have hp : i < (ys.length : Int) := by omega
    have hi : i.toNat < ys.length := by omega
    have t1 := m_is (m + 1) (by omega) (by omega) k (by omega)
    have t2 := m_is (m + 1 + 1) (by omega) (by omega) k (by omega)
    have t3 := m_is (m + 1 + 1 + 1) (by omega) (by omega) k (by omega)
    have he : rd_T66 ys i = mk66 m := by
      rw [rd66_at ys i hi]
      have h := hall i.toNat (by omega) hi
      rw [List.getElem?_eq_getElem hi] at h
      injection h with h
      rw [h]
      congr 1
      omega
    have ih' := ih k (m + 4) (i + 1) (by omega) (by omega) (by omega) (by omega) (by omega) (fun j hj hj' => by rw [hall j (by omega) hj']; congr 2; omega)
    simp only [laws_heldActS.l0, hw, hwm1, hwm2, hwm3, hwm4, hwm5, he, mk66, t1, t2, t3, Option.bind_some, if_true]
    rw [if_pos hp, if_pos h0, show m + 1 + 1 + 1 + 1 = m + 4 by omega, ih']
    congr 1
    push_cast
    omega
theorem m66_all (xs : List S66) (hx : xs.length ≤ 1048576) (k : Nat) (hk : 1048600 < k) : ∃ ys, laws_markActS.f k xs 1 = some (1 + 4 * (xs.length : Int), ys) ∧ ∀ k, 1048600 < k → laws_heldActS.f k ys 1 = some (1 + 4 * (xs.length : Int)) := by
  obtain ⟨ys, e, hl, _, hall⟩ := m66_loop xs.length k xs 1 0 hx (by omega) (by omega) (by omega) (by omega) (by omega)
  refine ⟨ys, e, fun k hk => ?_⟩
  unfold laws_heldActS.f
  rw [m66_held ys (by omega) ys.length k 1 0 (by omega) (by omega) (by omega) (by omega) (by omega) (fun j hj hj' => hall j hj (by omega)), hl]
noncomputable def laV (kd : Int) (path tt : ByteArray) (num who : Int) : List S66 × Bool :=
  if (etV kd path tt num who).2 = true then ([⟨1, ⟨#[108, 111, 103]⟩, (frV (etV kd path tt num who).1).1, ⟨#[]⟩⟩, ⟨2, ⟨#[108, 111, 103]⟩, ⟨#[]⟩, ⟨#[]⟩⟩], true) else ([], false)
theorem la_frame (kd : Int) (path tt : ByteArray) (num who : Int) (h : (etV kd path tt num who).2 = true) : (frV (etV kd path tt num who).1).2 = true := by
  by_cases c : eoV kd path tt num who = true
  · obtain ⟨f1, f2, f3, f4, _⟩ := eo_facts kd path tt num who c
    have s0 := strOf_size [kd % 256, who % 256]
    have s1 := varT_size path.size
    have s2 := varT_size tt.size
    have s3 := varT_size num
    simp only [List.length_cons, List.length_nil] at s0
    have hz : (etV kd path tt num who).1.size = 2 + (varT path.size).size + path.size + (varT tt.size).size + tt.size + (varT num).size := by
      unfold etV
      rw [if_pos c]
      simp only [ByteArray.size_append]
      omega
    unfold frV
    rw [if_pos (by omega)]
  · unfold etV at h
    rw [if_neg c] at h
    cases h
theorem la_spec (kd : Int) (path tt : ByteArray) (num who : Int) (hp : path.size ≤ 1048576) (ht : tt.size ≤ 1048576) (k : Nat) (hk : 10485770 < k) :
    spec_LogActs.f k kd path tt num who = some (laV kd path tt num who) := by
  have hf := la_frame kd path tt num who
  unfold spec_LogActs.f laV
  rw [et_spec kd path tt num who hp ht k (by omega), Option.bind_some, fr_spec _ k hk, Option.bind_some]
  by_cases c : (etV kd path tt num who).2 = true
  · rw [if_pos c, if_pos c, if_pos (hf c)]
  · rw [if_neg c, if_neg c]
theorem la_impl (kd : Int) (path tt : ByteArray) (num who : Int) (hp : path.size ≤ 1048576) (ht : tt.size ≤ 1048576) (k : Nat) (hk : 10485770 < k) :
    impl_LogActs.f k kd path tt num who = some (laV kd path tt num who) := by
  unfold impl_LogActs.f laV
  rw [et_impl kd path tt num who hp ht k (by omega), Option.bind_some]
  by_cases c : (etV kd path tt num who).2 = true
  · rw [if_pos c, if_pos c, fr_impl _ k hk, Option.bind_some]
  · rw [if_neg c, if_neg c]
theorem la_len (kd : Int) (path tt : ByteArray) (num who : Int) : (laV kd path tt num who).1.length ≤ 2 := by
  unfold laV
  split
  · exact Nat.le_refl _
  · exact Nat.zero_le _
theorem FnExactLogActs (kd : Int) (path tt : ByteArray) (num who : Int) (h : (Lit.int .i64 kd).wf = true ∧ path.size ≤ maxLen ∧ tt.size ≤ maxLen ∧ (Lit.int .i64 num).wf = true ∧ (Lit.int .i64 who).wf = true) :
    ∃ k, laws_FnExactLogActs.f k kd path tt num who = some true := by
  obtain ⟨K, hK⟩ : ∃ K : Nat, 20000000 < K := ⟨20000001, by decide⟩
  refine ⟨K + 2, ?_⟩
  unfold laws_FnExactLogActs.f
  rcases sz_edit kd path tt num who h.2.1 h.2.2.1 with e | ⟨z, e, h0, hs⟩
  · rw [e]; rfl
  · rw [e, Option.bind_some, if_neg (by omega)]
    have hl := la_len kd path tt num who
    have e1 := la_spec kd path tt num who (by omega) (by omega) (K + 2) (by omega)
    have e2 := fun k => la_impl kd path tt num who (by omega) (by omega) k
    obtain ⟨ys, m1, m2⟩ := m66_all (laV kd path tt num who).1 (by omega) (K + 1) (by omega)
    simp only [laws_toEdit.f, Option.bind_some, e1, e2 (K + 2) (by omega), e2 (K + 1) (by omega), e66_eq (laV kd path tt num who).1 (by omega) (K + 2) (by omega), e66_eq (laV kd path tt num who).1 (by omega) (K + 1) (by omega), if_true, bne_self_eq_false, laws_FnExactLogActs.j0, laws_FnExactLogActs.j1, Bool.false_eq_true, if_false, m1, m2 (K + 1) (by omega), m2 K (by omega)]
    rw [if_neg (by omega), if_neg (by omega)]
end Go.Proofs.YtffnjbhimhbomaaDoor.Pure
