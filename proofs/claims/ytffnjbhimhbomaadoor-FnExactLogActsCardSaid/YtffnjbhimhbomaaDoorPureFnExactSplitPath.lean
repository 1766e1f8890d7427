/- The program's SplitPath returns what the reference's returns: the law is true for every text. -/
import Derived.Test.YtffnjbhimhbomaaDoorQTA
namespace Go.Proofs.YtffnjbhimhbomaaDoor.Pure
open Go.RowKit Go.Proofs.YtffnjbhimhbomaaDoor.QTA Go.Proofs.YtffnjbhimhbomaaDoorW.PrintWords Go.Proofs.YtffnjbhimhbomaaDoorW.PrintLast Go.Proofs.YtffnjbhimhbomaaDoorW.PrintMore
set_option linter.unusedSimpArgs false
set_option linter.unusedVariables false
theorem s_rd (l : List ByteArray) (i : Int) (hi : i.toNat < l.length) : rdOf ByteArray.empty l i = l[i.toNat] := by
  unfold rdOf
  rw [List.getD_eq_getElem?_getD, List.getElem?_eq_getElem hi]
  rfl
theorem m_loop : ∀ (d : Nat) (n : Int) (acc : ByteArray), 0 ≤ n → n < 10 ^ d → acc.size + d ≤ 1000 → ∃ r : ByteArray, ∀ k, d < k → laws_markText.l0 k n acc = some r := by
  intro d
  induction d with
  | zero =>
    intro n acc h0 h1 ha
    refine ⟨(⟨#[109]⟩ : ByteArray) ++ acc, fun k hk => ?_⟩
    obtain ⟨k, rfl⟩ : ∃ m, k = m + 1 := ⟨k - 1, by omega⟩
    simp only [laws_markText.l0]
    rw [if_neg (by simp at h1; omega), if_pos (by omega)]
  | succ d ih =>
    intro n acc h0 h1 ha
    by_cases c : n > 0
    · have hsz : (strOfNums [(wrap64 (48 + (Int.tmod n 10))) % 256]).size = 1 := rfl
      have ht : Int.tdiv n 10 = n / 10 := Int.tdiv_eq_ediv_of_nonneg h0
      have h2 : n / 10 < 10 ^ d := by
        have : (10 : Int) ^ (d + 1) = 10 ^ d * 10 := Int.pow_succ ..
        omega
      by_cases big : n / 10 ≤ 9223372036854775807
      · have hw : wrap64 (n / 10) = n / 10 := by unfold wrap64; omega
        obtain ⟨r, hr⟩ := ih (n / 10) (strOfNums [(wrap64 (48 + (Int.tmod n 10))) % 256] ++ acc) (by omega) h2 (by rw [ByteArray.size_append, hsz]; omega)
        refine ⟨r, fun k hk => ?_⟩
        obtain ⟨k, rfl⟩ : ∃ m, k = m + 1 := ⟨k - 1, by omega⟩
        simp only [laws_markText.l0, Option.bind_some, ht, hw]
        rw [if_pos c, if_pos (by rw [hsz]; omega)]
        exact hr k (by omega)
      · obtain ⟨r, hr⟩ : ∃ r : ByteArray, r = ⟨#[]⟩ := ⟨_, rfl⟩
        have hw0 : 0 ≤ wrap64 (n / 10) ∨ wrap64 (n / 10) < 0 := by omega
        rcases hw0 with h | h
        · by_cases hlt : wrap64 (n / 10) < 10 ^ d
          · obtain ⟨r, hr⟩ := ih (wrap64 (n / 10)) (strOfNums [(wrap64 (48 + (Int.tmod n 10))) % 256] ++ acc) h hlt (by rw [ByteArray.size_append, hsz]; omega)
            refine ⟨r, fun k hk => ?_⟩
            obtain ⟨k, rfl⟩ : ∃ m, k = m + 1 := ⟨k - 1, by omega⟩
            simp only [laws_markText.l0, Option.bind_some, ht]
            rw [if_pos c, if_pos (by rw [hsz]; omega)]
            exact hr k (by omega)
          · unfold wrap64 at hlt h
            omega
        · refine ⟨(⟨#[109]⟩ : ByteArray) ++ (strOfNums [(wrap64 (48 + (Int.tmod n 10))) % 256] ++ acc), fun k hk => ?_⟩
          obtain ⟨k, rfl⟩ : ∃ m, k = m + 1 := ⟨k - 1, by omega⟩
          obtain ⟨k, rfl⟩ : ∃ m, k = m + 1 := ⟨k - 1, by omega⟩
          simp only [laws_markText.l0, Option.bind_some, ht]
          rw [if_pos c, if_pos (by rw [hsz]; omega), if_neg (by omega), if_pos (by rw [ByteArray.size_append, hsz]; omega)]
    · refine ⟨(⟨#[109]⟩ : ByteArray) ++ acc, fun k hk => ?_⟩
      obtain ⟨k, rfl⟩ : ∃ m, k = m + 1 := ⟨k - 1, by omega⟩
      simp only [laws_markText.l0]
      rw [if_neg c, if_pos (by omega)]
theorem m_text (n : Int) (h0 : 0 ≤ n) (h1 : n < 10 ^ 20) : ∃ r : ByteArray, ∀ k, 20 < k → laws_markText.f k n = some r := by
  unfold laws_markText.f
  by_cases c : n ≤ 0
  · exact ⟨_, fun k _ => by rw [if_pos c]⟩
  · obtain ⟨r, hr⟩ := m_loop 20 n ⟨#[]⟩ h0 h1 (by decide)
    exact ⟨r, fun k hk => by rw [if_neg c]; exact hr k hk⟩
noncomputable def m_t (n : Int) : ByteArray := open Classical in if h : 0 ≤ n ∧ n < 10 ^ 20 then Classical.choose (m_text n h.1 h.2) else ⟨#[]⟩
theorem m_is (n : Int) (h0 : 0 ≤ n) (h1 : n ≤ 100000000) (k : Nat) (hk : 20 < k) : laws_markText.f k n = some (m_t n) := by
  unfold m_t
  rw [dif_pos ⟨h0, by omega⟩]
  exact Classical.choose_spec (m_text n h0 (by omega)) k hk
theorem n_same : ∀ (k : Nat) (s : ByteArray) (i : Int), spec_NameOk.l0 k s i = impl_NameOk.l0 k s i
  | 0, _, _ => rfl
  | k + 1, s, i => by simp only [spec_NameOk.l0, impl_NameOk.l0, n_same k, spec_l01In.f, impl_within.f]
theorem n_impl (s : ByteArray) (hs : s.size ≤ 4294967296) (d : Nat) : impl_NameOk.f (s.size + 1 + d) s = some (impl_SplitPath.nm s) := by
  induction d with
  | zero => exact impl_SplitPath.name s hs
  | succ d ih => exact impl_NameOk.mono s _ _ ih
theorem n_is (s : ByteArray) (hs : s.size ≤ 4294967296) (k : Nat) (hk : s.size < k) : spec_NameOk.f k s = some (impl_SplitPath.nm s) := by
  have h := n_impl s hs (k - (s.size + 1))
  rw [show s.size + 1 + (k - (s.size + 1)) = k by omega] at h
  unfold spec_NameOk.f
  rw [n_same]
  exact h
def pcs (s : ByteArray) : List ByteArray := Lib.splitB ⟨#[47]⟩ 0 (Lib.countB s ⟨#[47]⟩) s
theorem occ1 (l : List UInt8) (j : Nat) : Lib.occAt l [47] j = (l[j]? == some 47) := by
  unfold Lib.occAt
  rw [← List.head?_drop]
  cases l.drop j with
  | nil => rfl
  | cons x r =>
    by_cases h : x = 47
    · subst h
      rfl
    · have h2 : ¬ (47 : UInt8) = x := fun e => h e.symm
      simp [List.isPrefixOf, h, h2]
      rw [beq_eq_false_iff_ne.mpr h2, beq_eq_false_iff_ne.mpr h]
theorem pcs_none (s : ByteArray) (h : ∀ j : Nat, s.data.toList[j]? ≠ some 47) : pcs s = [s] := by
  have hi : Lib.indexB s ⟨#[47]⟩ = -1 := Lib.index_none (fun j _ => by
    show Lib.occAt s.data.toList [47] j = false
    rw [occ1]
    exact beq_eq_false_iff_ne.mpr (h j))
  unfold pcs
  rw [Lib.splitB_miss _ _ _ _ hi]
theorem pcs_hit (s : ByteArray) (i : Nat) (h1 : s.data.toList[i]? = some 47) (h2 : ∀ j, j < i → s.data.toList[j]? ≠ some 47) : pcs s = s.extract 0 i :: pcs (s.extract (i + 1) s.size) := by
  have hi : Lib.indexB s ⟨#[47]⟩ = i := Lib.index_first (i := i) (by
      have := (List.getElem?_eq_some_iff.mp h1).1
      omega) (by
      show Lib.occAt s.data.toList [47] i = true
      rw [occ1, h1]
      rfl) (fun j hj => by
      show Lib.occAt s.data.toList [47] j = false
      rw [occ1]
      exact beq_eq_false_iff_ne.mpr (h2 j hj))
  have hc := Lib.countB_hit s ⟨#[47]⟩ i (by decide) hi
  unfold pcs
  rw [hc, Nat.add_comm, Lib.splitB_hit _ _ _ _ i hi]
  rfl
theorem pat_get (p : ByteArray) (b j : Nat) : (p.extract b p.size).data.toList[j]? = p.data.toList[b + j]? := by
  rw [Lib.extract_to_end, List.getElem?_drop]
theorem pat_none (p : ByteArray) (b : Nat) (h : ∀ j, b ≤ j → p.data.toList[j]? ≠ some 47) : pcs (p.extract b p.size) = [p.extract b p.size] :=
  pcs_none _ (fun j => by rw [pat_get]; exact h _ (by omega))
theorem pat_hit (p : ByteArray) (b i : Nat) (hb : b ≤ i) (hi : i < p.size) (h1 : p.data.toList[i]? = some 47) (h2 : ∀ j, b ≤ j → j < i → p.data.toList[j]? ≠ some 47) : pcs (p.extract b p.size) = p.extract b i :: pcs (p.extract (i + 1) p.size) := by
  have h := pcs_hit (p.extract b p.size) (i - b) (by rw [pat_get, show b + (i - b) = i by omega]; exact h1) (fun j hj => by rw [pat_get]; exact h2 _ (by omega) (by omega))
  rw [h]
  have e1 : (p.extract b p.size).extract 0 (i - b) = p.extract b i := by
    rw [ByteArray.extract_extract]
    congr 1
    omega
  have e2 : (p.extract b p.size).extract (i - b + 1) (p.extract b p.size).size = p.extract (i + 1) p.size := by
    rw [ByteArray.extract_extract, ByteArray.size_extract]
    congr 1
    · omega
    · omega
  rw [e1, e2]
theorem bt_47 (p : ByteArray) (i : Int) (h : i.toNat < p.size) : bt p i = 47 ↔ p.data.toList[i.toNat]? = some 47 := by
  have e : p.data.toList[i.toNat]? = some (p[i.toNat]'h) := by
    rw [List.getElem?_eq_getElem (by rw [← Lib.size_eq]; exact h)]
    rfl
  rw [e]
  unfold bt
  rw [dif_pos h]
  constructor
  · intro h2
    congr 1
    exact UInt8.toNat_inj.mp (by have : (47 : UInt8).toNat = 47 := rfl
                                 omega)
  · intro h2
    rw [Option.some.inj h2]
    rfl
def fin (acc ps : List ByteArray) : List ByteArray × Bool :=
  if ps.all impl_SplitPath.nm = true then (if acc.length + ps.length > 4 then ([], false) else (acc ++ ps, true)) else ([], false)
theorem fin_cons (acc : List ByteArray) (x : ByteArray) (ps : List ByteArray) (h : impl_SplitPath.nm x = true) : fin (acc ++ [x]) ps = fin acc (x :: ps) := by
  unfold fin
  simp only [List.all_cons, h, Bool.true_and, List.length_append, List.length_cons, List.length_nil, List.append_assoc, List.singleton_append]
  rw [show acc.length + (0 + 1) + ps.length = acc.length + (ps.length + 1) by omega]
theorem fin_no (acc : List ByteArray) (x : ByteArray) (ps : List ByteArray) (h : impl_SplitPath.nm x = false) : fin acc (x :: ps) = ([], false) := by
  unfold fin
  simp [h]
theorem sp_loop (p : ByteArray) (hp : p.size ≤ 4294967280) : ∀ (d k : Nat) (acc : List ByteArray) (b i : Int), 1 ≤ b → b ≤ i → i ≤ p.size → (p.size : Int) + 1 - i = d → (acc.length : Int) ≤ i → 2 * d + p.size + 4 < k →
    (∀ j : Nat, b ≤ (j : Int) → (j : Int) < i → p.data.toList[j]? ≠ some 47) → spec_SplitPath.l0 k p acc b i = some (fin acc (pcs (p.extract b.toNat p.size))) := by
  intro d
  induction d with
  | zero =>
    intro k acc b i h1 h2 h3 h4 h5 hk hn
    omega
  | succ d ih =>
    intro k acc b i h1 h2 h3 h4 h5 hk hn
    obtain ⟨k, rfl⟩ : ∃ m, k = m + 2 := ⟨k - 2, by omega⟩
    have hw : wrap64 (i + 1) = i + 1 := by unfold wrap64; omega
    have hsz : (p.extract b.toNat i.toNat).size ≤ p.size := by rw [ByteArray.size_extract]; omega
    have hN := n_is (p.extract b.toNat i.toNat) (by omega) k (by omega)
    simp only [spec_SplitPath.l0, spec_SplitPath.j2, if_pos h3, hw, hN, Option.bind_some]
    rw [if_pos (show 0 ≤ b by omega), if_pos h2]
    by_cases c : i < (p.size : Int)
    · rw [if_pos c, if_pos (show 0 ≤ i by omega)]
      have hlt : i.toNat < p.size := by omega
      by_cases h47 : bt p i = 47
      · rw [if_neg (by rw [h47]; decide)]
        have hh := pat_hit p b.toNat i.toNat (by omega) hlt ((bt_47 p i hlt).mp h47) (fun j hj hj2 => hn j (by omega) (by omega))
        rw [hh]
        cases hx : impl_SplitPath.nm (p.extract b.toNat i.toNat) with
        | true =>
          rw [if_pos rfl, if_pos (by omega), ih k _ (i + 1) (i + 1) (by omega) (by omega) (by omega) (by omega) (by simp; omega) (by omega) (fun j hj hj2 => by omega), show (i + 1).toNat = i.toNat + 1 by omega, fin_cons _ _ _ hx]
        | false =>
          rw [if_neg (by decide), fin_no _ _ _ hx]
      · rw [if_pos (bne_iff_ne.mpr h47)]
        exact ih k acc b (i + 1) h1 (by omega) (by omega) (by omega) (by omega) (by omega) (fun j hj hj2 => by
          by_cases e : (j : Int) = i
          · have ej : j = i.toNat := by omega
            subst ej
            exact fun e2 => h47 ((bt_47 p i hlt).mpr e2)
          · exact hn j hj (by omega))
    · have hi : i = (p.size : Int) := by omega
      rw [if_neg c, if_neg (by decide)]
      have hh := pat_none p b.toNat (fun j hj => by
        by_cases e : j < p.size
        · exact hn j (by omega) (by omega)
        · rw [List.getElem?_eq_none (by rw [← Lib.size_eq]; omega)]
          exact fun e => by cases e)
      have ei : i.toNat = p.size := by omega
      rw [hh, ei]
      rw [ei] at hN
      cases hx : impl_SplitPath.nm (p.extract b.toNat p.size) with
      | true =>
        obtain ⟨k, rfl⟩ : ∃ m, k = m + 1 := ⟨k - 1, by omega⟩
        rw [if_pos rfl, if_pos (by omega)]
        simp only [spec_SplitPath.l0]
        rw [if_neg (by omega)]
        unfold fin
        simp only [List.all_cons, hx, List.all_nil, Bool.and_true, if_true, List.length_append, List.length_cons, List.length_nil]
        by_cases c4 : acc.length + (0 + 1) > 4
        · rw [if_pos (by omega), if_pos c4]
        · rw [if_neg (by omega), if_neg c4]
      | false =>
        rw [if_neg (by decide), fin_no _ _ _ hx]
def spV (p : ByteArray) : List ByteArray × Bool :=
  if Lib.hasPrefix p.data.toList [47] = true then (if p.size = 1 then ([], true) else fin [] (pcs (p.extract 1 p.size))) else ([], false)
theorem sp_pre (p : ByteArray) : Lib.hasPrefix p.data.toList [47] = (p.data.toList[0]? == some 47) := by
  have := occ1 p.data.toList 0
  unfold Lib.occAt at this
  rw [List.drop_zero] at this
  exact this
theorem sp_spec (p : ByteArray) (hp : p.size ≤ 4294967280) (k : Nat) (hk : 3 * p.size + 10 < k) : spec_SplitPath.f k p = some (spV p) := by
  obtain ⟨k, rfl⟩ : ∃ m, k = m + 1 := ⟨k - 1, by omega⟩
  unfold spec_SplitPath.f spV
  rw [sp_pre]
  simp only [Option.bind_some, spec_SplitPath.j0]
  by_cases c0 : (p.size : Int) = 0
  · rw [if_pos c0, List.getElem?_eq_none (by rw [← Lib.size_eq]; omega)]
    simp
  · rw [if_neg c0, if_pos (by omega)]
    have hb := bt_47 p 0 (by simp; omega)
    rw [show (0 : Int).toNat = 0 from rfl] at hb
    by_cases h : bt p 0 = 47
    · rw [hb.mp h, h]
      simp only [bne_self_eq_false, Bool.false_eq_true, if_false, beq_self_eq_true, if_true]
      by_cases c1 : p.size = 1
      · have e : p.toList = [47] := by
          rw [Lib.toList_data]
          have h3 := hb.mp h
          have h4 : p.data.toList.length = 1 := by rw [← Lib.size_eq]; exact c1
          match hl : p.data.toList, h4, h3 with
          | [x], _, h3 => simpa using h3
        rw [if_pos e, if_pos c1]
      · have e : ¬ p.toList = [47] := fun e => c1 (by rw [Lib.size_eq, ← Lib.toList_data, e]; rfl)
        rw [if_neg e, if_neg c1]
        exact sp_loop p hp p.size k [] 1 1 (by omega) (by omega) (by omega) (by omega) (by simp) (by omega) (fun j hj hj2 => by omega)
    · have h2 : (p.data.toList[0]? == some 47) = false := beq_eq_false_iff_ne.mpr (fun e => h (hb.mpr e))
      rw [h2, if_pos (bne_iff_ne.mpr h)]
      simp
theorem sp_impl (p : ByteArray) (hp : p.size ≤ 4294967280) (k : Nat) : impl_SplitPath.f k p = some (spV p) := by
  unfold impl_SplitPath.f spV
  rw [if_pos (by omega)]
  by_cases h : Lib.hasPrefix p.data.toList [47] = true
  · rw [if_pos h, if_pos h]
    have h0 := h
    rw [sp_pre] at h0
    have h1 : p.data.toList[0]? = some 47 := beq_iff_eq.mp h0
    have hpos : 0 < p.size := by
      rw [Lib.size_eq]
      exact (List.getElem?_eq_some_iff.mp h1).1
    have hr : impl_SplitPath.rest p = p.extract 1 p.size := by
      unfold impl_SplitPath.rest Lib.trimPrefix
      rw [if_pos h]
      apply ByteArray.ext
      apply Array.toList_inj.mp
      rw [Lib.extract_to_end]
      rfl
    have hps : impl_SplitPath.ps p = pcs (p.extract 1 p.size) := by
      unfold impl_SplitPath.ps pcs
      rw [hr]
    rw [hr, hps, Lib.toList_data, Lib.extract_to_end]
    by_cases c1 : p.size = 1
    · rw [if_pos c1, if_pos (List.drop_eq_nil_of_le (by rw [← Lib.size_eq]; omega))]
    · rw [if_neg c1, if_neg (fun e => c1 (by have := List.drop_eq_nil_iff.mp e; rw [← Lib.size_eq] at this; omega))]
      have ha : ∀ ps : List ByteArray, (ps.any fun s => !impl_SplitPath.nm s) = !(ps.all impl_SplitPath.nm) := fun ps => by rw [List.not_all_eq_any_not]
      generalize pcs (p.extract 1 p.size) = ps
      unfold fin
      rw [ha, List.length_nil, Nat.zero_add, List.nil_append]
      cases ps.all impl_SplitPath.nm with
      | true =>
        by_cases c4 : ps.length > 4
        · rw [if_pos (show (ps.length : Int) > 4 by omega), if_pos rfl, if_pos c4]
        · rw [if_neg (show ¬ (ps.length : Int) > 4 by omega), if_pos rfl, if_neg c4]
          simp
      | false => simp
  · rw [if_neg h, if_neg h]
theorem spV_len (p : ByteArray) : (spV p).1.length ≤ 4 := by
  unfold spV fin
  repeat' split
  all_goals simp
  omega
end Go.Proofs.YtffnjbhimhbomaaDoor.Pure
