/- A drawn right record comes back from its text; drawn bytes that are one are the bytes of it: the law is true for every code. -/
import Derived.Test.YtmgdekfajjdcdaaDoorQPB
namespace Go.Proofs.YtmgdekfajjdcdaaDoor.Pure
open Go.RowKit Go.Proofs.YtmgdekfajjdcdaaDoor.QPA Go.Proofs.YtmgdekfajjdcdaaDoor.QPB Go.Proofs.YtmgdekfajjdcdaaDoorW.PrintWords Go.Proofs.YtmgdekfajjdcdaaDoorW.PrintLast Go.Proofs.YtmgdekfajjdcdaaDoorW.PrintMore
set_option linter.unusedSimpArgs false
set_option linter.unusedVariables false
theorem and_255 (x : Int) : 0 ≤ Go.bits .and .i64 x 255 ∧ Go.bits .and .i64 x 255 ≤ 255 := by
  have h : (BitVec.ofInt 64 x &&& BitVec.ofInt 64 255).toNat ≤ 255 := by
    rw [BitVec.toNat_and]
    exact Nat.le_trans Nat.and_le_right (by decide)
  have e : Go.bits .and .i64 x 255 = IntKind.i64.wrap ((BitVec.ofInt 64 x &&& BitVec.ofInt 64 255).toNat : Int) := rfl
  rw [e, IntKind.wrap_i64]
  omega
theorem new_ends (l : List Int) (hl : l.length ≤ 1048576) : ∀ (d k : Nat) (h i : Int), 0 ≤ i → (l.length : Int) - i = d → d < k → ∃ h', spec_l01New.l0 k l h i = some (l, 0, h') := by
  intro d
  induction d with
  | zero =>
    intro k h i h0 h1 hk
    obtain ⟨k, rfl⟩ : ∃ m, k = m + 1 := ⟨k - 1, by omega⟩
    refine ⟨h, ?_⟩
    simp only [spec_l01New.l0]
    rw [if_neg (by omega)]
  | succ d ih =>
    intro k h i h0 h1 hk
    obtain ⟨k, rfl⟩ : ∃ m, k = m + 1 := ⟨k - 1, by omega⟩
    have hw : wrap64 (i + 1) = i + 1 := by unfold wrap64; omega
    simp only [spec_l01New.l0, hw]
    rw [if_pos (by omega)]
    by_cases c : i < 4000
    · rw [if_pos c, if_pos h0]
      exact ih k _ (i + 1) (by omega) (by omega) (by omega)
    · rw [if_neg c]
      exact ⟨h, rfl⟩
theorem byte_some (l : List Int) (i h : Int) (hi : 0 ≤ i) (hb : i ≤ 1048576) (hl : l.length ≤ 1048576) : ∃ x i' h', spec_l01Byte.f l i h = some (x, i', h') ∧ 0 ≤ x ∧ x ≤ 255 ∧ 0 ≤ i' ∧ i' ≤ 1048576 := by
  unfold spec_l01Byte.f
  by_cases c : i < (l.length : Int)
  · have hw : wrap64 (i + 1) = i + 1 := by unfold wrap64; omega
    rw [if_pos c, if_pos hi, hw]
    exact ⟨_, _, _, rfl, (and_255 _).1, (and_255 _).2, by omega, by omega⟩
  · rw [if_neg c]
    exact ⟨_, _, _, rfl, (and_255 _).1, (and_255 _).2, hi, hb⟩
theorem below_some (l : List Int) (i h n : Int) (hi : 0 ≤ i) (hb : i ≤ 1048576) (hl : l.length ≤ 1048576) (hn : 1 ≤ n) (hn' : n ≤ 4294967296) :
    ∃ x i' h', spec_l01Below.f l i h n = some (x, i', h') ∧ 0 ≤ x ∧ x < n ∧ 0 ≤ i' ∧ i' ≤ 1048576 := by
  unfold spec_l01Below.f
  rw [if_neg (by omega)]
  obtain ⟨x1, i1, h1, e1, a1, b1, c1, d1⟩ := byte_some l i h hi hb hl
  rw [e1]
  simp only [Option.bind_some]
  by_cases c : n ≤ 256
  · rw [if_pos c, if_neg (by omega)]
    refine ⟨_, _, _, rfl, Int.tmod_nonneg _ a1, ?_, c1, d1⟩
    rw [Int.tmod_eq_emod_of_nonneg a1]
    exact Int.emod_lt_of_pos _ (by omega)
  · rw [if_neg c]
    obtain ⟨x2, i2, h2, e2, a2, b2, c2, d2⟩ := byte_some l i1 h1 c1 d1 hl
    rw [e2]
    simp only [Option.bind_some]
    obtain ⟨x3, i3, h3, e3, a3, b3, c3, d3⟩ := byte_some l i2 h2 c2 d2 hl
    rw [e3]
    simp only [Option.bind_some]
    obtain ⟨x4, i4, h4, e4, a4, b4, c4, d4⟩ := byte_some l i3 h3 c3 d3 hl
    rw [e4]
    simp only [Option.bind_some]
    rw [if_neg (by omega)]
    have hs : 0 ≤ wrap64 (wrap64 (wrap64 (wrap64 (x1 * 16777216) + wrap64 (x2 * 65536)) + wrap64 (x3 * 256)) + x4) := by unfold wrap64; omega
    refine ⟨_, _, _, rfl, Int.tmod_nonneg _ hs, ?_, c4, d4⟩
    rw [Int.tmod_eq_emod_of_nonneg hs]
    exact Int.emod_lt_of_pos _ (by omega)
theorem s_rd (l : List ByteArray) (i : Int) (hi : i.toNat < l.length) : rdOf ByteArray.empty l i = l[i.toNat] := by
  unfold rdOf
  rw [List.getD_eq_getElem?_getD, List.getElem?_eq_getElem hi]
  rfl
theorem n_same : ∀ (k : Nat) (s : ByteArray) (i : Int), spec_NameOk.l0 k s i = impl_NameOk.l0 k s i
  | 0, _, _ => rfl
  | k + 1, s, i => by simp only [spec_NameOk.l0, impl_NameOk.l0, n_same k, spec_l01In.f, impl_within.f]
theorem n_impl (s : ByteArray) (hs : s.size ≤ 4294967296) (d : Nat) : impl_NameOk.f (s.size + 1 + d) s = some (impl_SplitPath.nm s) := by
  induction d with
  | zero => exact impl_SplitPath.name s hs
  | succ d ih => exact impl_NameOk.mono s _ _ ih
theorem n_is (s : ByteArray) (hs : s.size ≤ 4294967296) (k : Nat) (hk : s.size < k) : spec_NameOk.f k s = some (impl_SplitPath.nm s) := by
  have h := n_impl s hs (k - (s.size + 1))
  rw [show s.size + 1 + (k - (s.size + 1)) = k by omega] at h
  unfold spec_NameOk.f
  rw [n_same]
  exact h
def pcs (s : ByteArray) : List ByteArray := Lib.splitB ⟨#[47]⟩ 0 (Lib.countB s ⟨#[47]⟩) s
theorem occ1 (l : List UInt8) (j : Nat) : Lib.occAt l [47] j = (l[j]? == some 47) := by
  unfold Lib.occAt
  rw [← List.head?_drop]
  cases l.drop j with
  | nil => rfl
  | cons x r =>
    by_cases h : x = 47
    · subst h
      rfl
    · have h2 : ¬ (47 : UInt8) = x := fun e => h e.symm
      simp [List.isPrefixOf, h, h2]
      rw [beq_eq_false_iff_ne.mpr h2, beq_eq_false_iff_ne.mpr h]
theorem pcs_none (s : ByteArray) (h : ∀ j : Nat, s.data.toList[j]? ≠ some 47) : pcs s = [s] := by
  have hi : Lib.indexB s ⟨#[47]⟩ = -1 := Lib.index_none (fun j _ => by
    show Lib.occAt s.data.toList [47] j = false
    rw [occ1]
    exact beq_eq_false_iff_ne.mpr (h j))
  unfold pcs
  rw [Lib.splitB_miss _ _ _ _ hi]
theorem pcs_hit (s : ByteArray) (i : Nat) (h1 : s.data.toList[i]? = some 47) (h2 : ∀ j, j < i → s.data.toList[j]? ≠ some 47) : pcs s = s.extract 0 i :: pcs (s.extract (i + 1) s.size) := by
  have hi : Lib.indexB s ⟨#[47]⟩ = i := Lib.index_first (i := i) (by
      have := (List.getElem?_eq_some_iff.mp h1).1
      omega) (by
      show Lib.occAt s.data.toList [47] i = true
      rw [occ1, h1]
      rfl) (fun j hj => by
      show Lib.occAt s.data.toList [47] j = false
      rw [occ1]
      exact beq_eq_false_iff_ne.mpr (h2 j hj))
  have hc := Lib.countB_hit s ⟨#[47]⟩ i (by decide) hi
  unfold pcs
  rw [hc, Nat.add_comm, Lib.splitB_hit _ _ _ _ i hi]
  rfl
theorem pat_get (p : ByteArray) (b j : Nat) : (p.extract b p.size).data.toList[j]? = p.data.toList[b + j]? := by
  rw [Lib.extract_to_end, List.getElem?_drop]
theorem pat_none (p : ByteArray) (b : Nat) (h : ∀ j, b ≤ j → p.data.toList[j]? ≠ some 47) : pcs (p.extract b p.size) = [p.extract b p.size] :=
  pcs_none _ (fun j => by rw [pat_get]; exact h _ (by omega))
theorem pat_hit (p : ByteArray) (b i : Nat) (hb : b ≤ i) (hi : i < p.size) (h1 : p.data.toList[i]? = some 47) (h2 : ∀ j, b ≤ j → j < i → p.data.toList[j]? ≠ some 47) : pcs (p.extract b p.size) = p.extract b i :: pcs (p.extract (i + 1) p.size) := by
  have h := pcs_hit (p.extract b p.size) (i - b) (by rw [pat_get, show b + (i - b) = i by omega]; exact h1) (fun j hj => by rw [pat_get]; exact h2 _ (by omega) (by omega))
  rw [h]
  have e1 : (p.extract b p.size).extract 0 (i - b) = p.extract b i := by
    rw [ByteArray.extract_extract]
    congr 1
    omega
  have e2 : (p.extract b p.size).extract (i - b + 1) (p.extract b p.size).size = p.extract (i + 1) p.size := by
    rw [ByteArray.extract_extract, ByteArray.size_extract]
    congr 1
    · omega
    · omega
  rw [e1, e2]
theorem bt_47 (p : ByteArray) (i : Int) (h : i.toNat < p.size) : bt p i = 47 ↔ p.data.toList[i.toNat]? = some 47 := by
  have e : p.data.toList[i.toNat]? = some (p[i.toNat]'h) := by
    rw [List.getElem?_eq_getElem (by rw [← Lib.size_eq]; exact h)]
    rfl
  rw [e]
  unfold bt
  rw [dif_pos h]
  constructor
  · intro h2
    congr 1
    exact UInt8.toNat_inj.mp (by have : (47 : UInt8).toNat = 47 := rfl
                                 omega)
  · intro h2
    rw [Option.some.inj h2]
    rfl
def fin (acc ps : List ByteArray) : List ByteArray × Bool :=
  if ps.all impl_SplitPath.nm = true then (if acc.length + ps.length > 4 then ([], false) else (acc ++ ps, true)) else ([], false)
theorem fin_cons (acc : List ByteArray) (x : ByteArray) (ps : List ByteArray) (h : impl_SplitPath.nm x = true) : fin (acc ++ [x]) ps = fin acc (x :: ps) := by
  unfold fin
  simp only [List.all_cons, h, Bool.true_and, List.length_append, List.length_cons, List.length_nil, List.append_assoc, List.singleton_append]
  rw [show acc.length + (0 + 1) + ps.length = acc.length + (ps.length + 1) by omega]
theorem fin_no (acc : List ByteArray) (x : ByteArray) (ps : List ByteArray) (h : impl_SplitPath.nm x = false) : fin acc (x :: ps) = ([], false) := by
  unfold fin
  simp [h]
theorem sp_loop (p : ByteArray) (hp : p.size ≤ 4294967280) : ∀ (d k : Nat) (acc : List ByteArray) (b i : Int), 1 ≤ b → b ≤ i → i ≤ p.size → (p.size : Int) + 1 - i = d → (acc.length : Int) ≤ i → 2 * d + p.size + 4 < k →
    (∀ j : Nat, b ≤ (j : Int) → (j : Int) < i → p.data.toList[j]? ≠ some 47) → spec_SplitPath.l0 k p acc b i = some (fin acc (pcs (p.extract b.toNat p.size))) := by
  intro d
  induction d with
  | zero =>
    intro k acc b i h1 h2 h3 h4 h5 hk hn
    omega
  | succ d ih =>
    intro k acc b i h1 h2 h3 h4 h5 hk hn
    obtain ⟨k, rfl⟩ : ∃ m, k = m + 2 := ⟨k - 2, by omega⟩
    have hw : wrap64 (i + 1) = i + 1 := by unfold wrap64; omega
    have hsz : (p.extract b.toNat i.toNat).size ≤ p.size := by rw [ByteArray.size_extract]; omega
    have hN := n_is (p.extract b.toNat i.toNat) (by omega) k (by omega)
    simp only [spec_SplitPath.l0, spec_SplitPath.j2, if_pos h3, hw, hN, Option.bind_some]
    rw [if_pos (show 0 ≤ b by omega), if_pos h2]
    by_cases c : i < (p.size : Int)
    · rw [if_pos c, if_pos (show 0 ≤ i by omega)]
      have hlt : i.toNat < p.size := by omega
      by_cases h47 : bt p i = 47
      · rw [if_neg (by rw [h47]; decide)]
        have hh := pat_hit p b.toNat i.toNat (by omega) hlt ((bt_47 p i hlt).mp h47) (fun j hj hj2 => hn j (by omega) (by omega))
        rw [hh]
        cases hx : impl_SplitPath.nm (p.extract b.toNat i.toNat) with
        | true =>
          rw [if_pos rfl, if_pos (by omega), ih k _ (i + 1) (i + 1) (by omega) (by omega) (by omega) (by omega) (by simp; omega) (by omega) (fun j hj hj2 => by omega), show (i + 1).toNat = i.toNat + 1 by omega, fin_cons _ _ _ hx]
        | false =>
          rw [if_neg (by decide), fin_no _ _ _ hx]
      · rw [if_pos (bne_iff_ne.mpr h47)]
        exact ih k acc b (i + 1) h1 (by omega) (by omega) (by omega) (by omega) (by omega) (fun j hj hj2 => by
          by_cases e : (j : Int) = i
          · have ej : j = i.toNat := by omega
            subst ej
            exact fun e2 => h47 ((bt_47 p i hlt).mpr e2)
          · exact hn j hj (by omega))
    · have hi : i = (p.size : Int) := by omega
      rw [if_neg c, if_neg (by decide)]
      have hh := pat_none p b.toNat (fun j hj => by
        by_cases e : j < p.size
        · exact hn j (by omega) (by omega)
        · rw [List.getElem?_eq_none (by rw [← Lib.size_eq]; omega)]
          exact fun e => by cases e)
      have ei : i.toNat = p.size := by omega
      rw [hh, ei]
      rw [ei] at hN
      cases hx : impl_SplitPath.nm (p.extract b.toNat p.size) with
      | true =>
        obtain ⟨k, rfl⟩ : ∃ m, k = m + 1 := ⟨k - 1, by omega⟩
        rw [if_pos rfl, if_pos (by omega)]
        simp only [spec_SplitPath.l0]
        rw [if_neg (by omega)]
        unfold fin
        simp only [List.all_cons, hx, List.all_nil, Bool.and_true, if_true, List.length_append, List.length_cons, List.length_nil]
        by_cases c4 : acc.length + (0 + 1) > 4
        · rw [if_pos (by omega), if_pos c4]
        · rw [if_neg (by omega), if_neg c4]
      | false =>
        rw [if_neg (by decide), fin_no _ _ _ hx]
def spV (p : ByteArray) : List ByteArray × Bool :=
  if Lib.hasPrefix p.data.toList [47] = true then (if p.size = 1 then ([], true) else fin [] (pcs (p.extract 1 p.size))) else ([], false)
theorem sp_pre (p : ByteArray) : Lib.hasPrefix p.data.toList [47] = (p.data.toList[0]? == some 47) := by
  have := occ1 p.data.toList 0
  unfold Lib.occAt at this
  rw [List.drop_zero] at this
  exact this
theorem sp_spec (p : ByteArray) (hp : p.size ≤ 4294967280) (k : Nat) (hk : 3 * p.size + 10 < k) : spec_SplitPath.f k p = some (spV p) := by
  obtain ⟨k, rfl⟩ : ∃ m, k = m + 1 := ⟨k - 1, by omega⟩
  unfold spec_SplitPath.f spV
  rw [sp_pre]
  simp only [Option.bind_some, spec_SplitPath.j0]
  by_cases c0 : (p.size : Int) = 0
  · rw [if_pos c0, List.getElem?_eq_none (by rw [← Lib.size_eq]; omega)]
    simp
  · rw [if_neg c0, if_pos (by omega)]
    have hb := bt_47 p 0 (by simp; omega)
    rw [show (0 : Int).toNat = 0 from rfl] at hb
    by_cases h : bt p 0 = 47
    · rw [hb.mp h, h]
      simp only [bne_self_eq_false, Bool.false_eq_true, if_false, beq_self_eq_true, if_true]
      by_cases c1 : p.size = 1
      · have e : p.toList = [47] := by
          rw [Lib.toList_data]
          have h3 := hb.mp h
          have h4 : p.data.toList.length = 1 := by rw [← Lib.size_eq]; exact c1
          match hl : p.data.toList, h4, h3 with
          | [x], _, h3 => simpa using h3
        rw [if_pos e, if_pos c1]
      · have e : ¬ p.toList = [47] := fun e => c1 (by rw [Lib.size_eq, ← Lib.toList_data, e]; rfl)
        rw [if_neg e, if_neg c1]
        exact sp_loop p hp p.size k [] 1 1 (by omega) (by omega) (by omega) (by omega) (by simp) (by omega) (fun j hj hj2 => by omega)
    · have h2 : (p.data.toList[0]? == some 47) = false := beq_eq_false_iff_ne.mpr (fun e => h (hb.mpr e))
      rw [h2, if_pos (bne_iff_ne.mpr h)]
      simp
theorem sp_impl (p : ByteArray) (hp : p.size ≤ 4294967280) (k : Nat) : impl_SplitPath.f k p = some (spV p) := by
  unfold impl_SplitPath.f spV
  rw [if_pos (by omega)]
  by_cases h : Lib.hasPrefix p.data.toList [47] = true
  · rw [if_pos h, if_pos h]
    have h0 := h
    rw [sp_pre] at h0
    have h1 : p.data.toList[0]? = some 47 := beq_iff_eq.mp h0
    have hpos : 0 < p.size := by
      rw [Lib.size_eq]
      exact (List.getElem?_eq_some_iff.mp h1).1
    have hr : impl_SplitPath.rest p = p.extract 1 p.size := by
      unfold impl_SplitPath.rest Lib.trimPrefix
      rw [if_pos h]
      apply ByteArray.ext
      apply Array.toList_inj.mp
      rw [Lib.extract_to_end]
      rfl
    have hps : impl_SplitPath.ps p = pcs (p.extract 1 p.size) := by
      unfold impl_SplitPath.ps pcs
      rw [hr]
    rw [hr, hps, Lib.toList_data, Lib.extract_to_end]
    by_cases c1 : p.size = 1
    · rw [if_pos c1, if_pos (List.drop_eq_nil_of_le (by rw [← Lib.size_eq]; omega))]
    · rw [if_neg c1, if_neg (fun e => c1 (by have := List.drop_eq_nil_iff.mp e; rw [← Lib.size_eq] at this; omega))]
      have ha : ∀ ps : List ByteArray, (ps.any fun s => !impl_SplitPath.nm s) = !(ps.all impl_SplitPath.nm) := fun ps => by rw [List.not_all_eq_any_not]
      generalize pcs (p.extract 1 p.size) = ps
      unfold fin
      rw [ha, List.length_nil, Nat.zero_add, List.nil_append]
      cases ps.all impl_SplitPath.nm with
      | true =>
        by_cases c4 : ps.length > 4
        · rw [if_pos (show (ps.length : Int) > 4 by omega), if_pos rfl, if_pos c4]
        · rw [if_neg (show ¬ (ps.length : Int) > 4 by omega), if_pos rfl, if_neg c4]
          simp
      | false => simp
  · rw [if_neg h, if_neg h]
theorem spV_len (p : ByteArray) : (spV p).1.length ≤ 4 := by
  unfold spV fin
  repeat' split
  all_goals simp
  omega
def jp : List ByteArray → ByteArray
  | [] => ⟨#[]⟩
  | x :: l => ((⟨#[47]⟩ : ByteArray) ++ x) ++ jp l
theorem jp_list : ∀ l : List ByteArray, (jp l).data.toList = l.flatMap fun x => 47 :: x.data.toList
  | [] => rfl
  | x :: l => by
    rw [jp, ByteArray.data_append, ByteArray.data_append, Array.toList_append, Array.toList_append, jp_list l, List.flatMap_cons]
    rfl
theorem jp_size : ∀ l : List ByteArray, (jp l).size = l.length + (l.map ByteArray.size).sum
  | [] => rfl
  | x :: l => by
    have h : (⟨#[47]⟩ : ByteArray).size = 1 := rfl
    rw [jp, ByteArray.size_append, ByteArray.size_append, jp_size l, h]
    simp only [List.length_cons, List.map_cons, List.sum_cons]
    omega
theorem jp_join (g : ByteArray → List UInt8) : ∀ (l : List ByteArray), l ≠ [] → 47 :: Lib.join (l.map g) [47] = l.flatMap fun x => 47 :: g x
  | [], h => absurd rfl h
  | [x], _ => by simp [Lib.join, List.intercalate, List.intersperse]
  | x :: y :: l, _ => by
    have ih := jp_join g (y :: l) (by simp)
    rw [List.flatMap_cons, ← ih]
    simp [Lib.join, List.intercalate, List.intersperse]
theorem jp_loop (l : List ByteArray) (hl : l.length ≤ 1048576) : ∀ (d k : Nat) (acc : ByteArray) (i : Int), 0 ≤ i → (l.length : Int) - i = d → acc.size + (jp (l.drop i.toNat)).size ≤ 67108864 → d < k →
    spec_JoinPath.l0 k l acc i = some (acc ++ jp (l.drop i.toNat)) := by
  intro d
  induction d with
  | zero =>
    intro k acc i h0 h1 hs hk
    obtain ⟨k, rfl⟩ : ∃ m, k = m + 1 := ⟨k - 1, by omega⟩
    have c : ¬ i < (l.length : Int) := by omega
    have hd : l.drop i.toNat = [] := List.drop_eq_nil_of_le (by omega)
    simp only [spec_JoinPath.l0, if_neg c, hd, jp]
    rw [show (ByteArray.mk #[]) = ByteArray.empty from rfl, ByteArray.append_empty]
  | succ d ih =>
    intro k acc i h0 h1 hs hk
    obtain ⟨k, rfl⟩ : ∃ m, k = m + 1 := ⟨k - 1, by omega⟩
    have hi : i.toNat < l.length := by omega
    have hw : wrap64 (i + 1) = i + 1 := by unfold wrap64; omega
    have hd : l.drop i.toNat = l[i.toNat] :: l.drop (i.toNat + 1) := List.drop_eq_getElem_cons hi
    have ht : (i + 1).toNat = i.toNat + 1 := by omega
    have h47 : (⟨#[47]⟩ : ByteArray).size = 1 := rfl
    rw [hd, jp, ByteArray.size_append, ByteArray.size_append, h47, ← s_rd l i hi] at hs
    have c0 : i < (l.length : Int) := by omega
    have c1 : acc.size + 1 ≤ 9223372036854775807 := by omega
    have c2 : (acc ++ (⟨#[47]⟩ : ByteArray)).size + (rdOf ByteArray.empty l i).size ≤ 9223372036854775807 := by rw [ByteArray.size_append, h47]; omega
    have e := ih k ((acc ++ (⟨#[47]⟩ : ByteArray)) ++ rdOf ByteArray.empty l i) (i + 1) (by omega) (by omega) (by rw [ht, ByteArray.size_append, ByteArray.size_append, h47]; omega) (by omega)
    simp only [spec_JoinPath.l0, if_pos c0, if_pos c1, if_pos h0, if_pos c2, hw, e, ht]
    rw [hd, jp, ← s_rd l i hi, ByteArray.append_assoc, ByteArray.append_assoc, ByteArray.append_assoc]
def jv : List ByteArray → ByteArray
  | [] => ⟨#[47]⟩
  | x :: l => jp (x :: l)
theorem jv_spec (l : List ByteArray) (hl : l.length ≤ 1048576) (hs : (l.map ByteArray.size).sum ≤ 33554432) (k : Nat) (hk : l.length < k) : spec_JoinPath.f k l = some (jv l) := by
  cases l with
  | nil => rfl
  | cons x l =>
    have hz := jp_size (x :: l)
    have e := jp_loop (x :: l) hl (x :: l).length k ⟨#[]⟩ 0 (by omega) (by omega) (by rw [show (0 : Int).toNat = 0 from rfl, List.drop_zero, show (⟨#[]⟩ : ByteArray).size = 0 from rfl]; omega) hk
    unfold spec_JoinPath.f
    rw [if_neg (by rw [List.length_cons]; omega), e]
    rw [show (ByteArray.mk #[]) = ByteArray.empty from rfl, ByteArray.empty_append, show (0 : Int).toNat = 0 from rfl, List.drop_zero]
    rfl
theorem jv_impl (l : List ByteArray) (hl : l.length ≤ 1048576) (hs : (l.map ByteArray.size).sum ≤ 33554432) (k : Nat) : impl_JoinPath.f k l = some (jv l) := by
  cases l with
  | nil => rfl
  | cons x l =>
    have hz := jp_size (x :: l)
    have hj := jp_join (·.data.toList) (x :: l) (by simp)
    rw [← jp_list (x :: l)] at hj
    have hz2 : 1 + (Lib.join ((x :: l).map (·.data.toList)) [47]).length = (jp (x :: l)).size := by
      have := congrArg List.length hj
      rw [List.length_cons] at this
      rw [Nat.add_comm, this, Array.length_toList]
      rfl
    unfold impl_JoinPath.f
    rw [if_pos ⟨by omega, by omega⟩]
    congr 1
    apply ByteArray.ext
    apply Array.toList_inj.1
    rw [show jv (x :: l) = jp (x :: l) from rfl, ← hj, ByteArray.data_append, Array.toList_append]
    simp
theorem nm_loop (s : ByteArray) : ∀ (k : Nat) (i : Int), impl_NameOk.l0 k s i = some true → s.size ≤ 8 := by
  intro k
  induction k with
  | zero => intro i h; simp [impl_NameOk.l0] at h
  | succ k ih =>
    intro i h
    simp only [impl_NameOk.l0, impl_within.f] at h
    repeat' split at h
    all_goals first
      | exact ih _ h
      | (simp at h; done)
      | (simp only [Option.bind_some, Option.some.injEq, decide_eq_true_eq] at h; omega)
theorem nm_size (s : ByteArray) (h : impl_SplitPath.nm s = true) : s.size ≤ 8 := by
  unfold impl_SplitPath.nm impl_NameOk.f at h
  cases e : impl_NameOk.l0 (s.size + 1) s 0 with
  | none => rw [e] at h; cases h
  | some b =>
    rw [e] at h
    obtain rfl : b = true := h
    exact nm_loop s _ _ e
theorem spV_small (p : ByteArray) : ∀ x ∈ (spV p).1, x.size ≤ 8 := by
  intro x hx
  unfold spV fin at hx
  repeat' split at hx
  all_goals first
    | (simp at hx; done)
    | (rename_i h _; rw [List.nil_append] at hx; exact nm_size x (List.all_eq_true.mp h x hx))
theorem sum_le (c : Nat) : ∀ l : List ByteArray, (∀ x ∈ l, x.size ≤ c) → (l.map ByteArray.size).sum ≤ l.length * c := by
  intro l
  induction l with
  | nil => intro _; simp
  | cons x l ih =>
    intro h
    have h1 := h x (by simp)
    have h2 := ih (fun y hy => h y (by simp [hy]))
    simp only [List.map_cons, List.sum_cons, List.length_cons, Nat.add_mul]
    omega
def ppV (p : ByteArray) : ByteArray × ByteArray × Bool :=
  if (spV p).2 = true then (if ((spV p).1.length : Int) = 0 then ((⟨#[]⟩ : ByteArray), (⟨#[]⟩ : ByteArray), false) else (jv ((spV p).1.take ((spV p).1.length - 1)), rdOf ByteArray.empty (spV p).1 ((spV p).1.length - 1), true)) else ((⟨#[]⟩ : ByteArray), (⟨#[]⟩ : ByteArray), false)
theorem pp_take (p : ByteArray) : (((spV p).1.take ((spV p).1.length - 1)).map ByteArray.size).sum ≤ 32 ∧ ((spV p).1.take ((spV p).1.length - 1)).length ≤ 4 := by
  have h1 := spV_len p
  have h3 : ((spV p).1.take ((spV p).1.length - 1)).length ≤ 4 := by rw [List.length_take]; omega
  have h2 := sum_le 8 ((spV p).1.take ((spV p).1.length - 1)) (fun x hx => spV_small p x (List.mem_of_mem_take hx))
  exact ⟨by omega, h3⟩
theorem pp_impl (p : ByteArray) (hp : p.size ≤ 4294967280) (k : Nat) : impl_ParentPath.f k p = some (ppV p) := by
  have h1 := spV_len p
  have h2 := pp_take p
  unfold impl_ParentPath.f ppV
  rw [sp_impl p hp k, Option.bind_some]
  by_cases c : (spV p).2 = true
  · rw [if_pos c, if_pos c]
    by_cases c0 : ((spV p).1.length : Int) = 0
    · rw [if_pos c0, if_pos c0]
    · have hw : wrap64 (((spV p).1.length : Int) - 1) = ((spV p).1.length : Int) - 1 := by unfold wrap64; omega
      have ht : (((spV p).1.length : Int) - 1).toNat = (spV p).1.length - 1 := by omega
      rw [if_neg c0, if_neg c0, hw, if_pos (by omega), if_pos (by omega), ht, jv_impl _ (by omega) (by omega) k, Option.bind_some, if_pos (by omega)]
  · rw [if_neg c, if_neg c]
theorem pick_some (l : List Int) (i h : Int) (xs : List ByteArray) (hi : 0 ≤ i) (hb : i ≤ 1048576) (hl : l.length ≤ 1048576) (h1 : 1 ≤ xs.length) (h2 : xs.length ≤ 4294967296) :
    ∃ r i' h', spec_l01Pick.f l i h xs = some (r, i', h') ∧ r ∈ xs ∧ 0 ≤ i' ∧ i' ≤ 1048576 := by
  obtain ⟨x, i', h', e, a, b, c, d⟩ := below_some l i h (xs.length : Int) hi hb hl (by omega) (by omega)
  refine ⟨rdOf ByteArray.empty xs x, i', h', ?_, ?_, c, d⟩
  · unfold spec_l01Pick.f
    rw [e, Option.bind_some, if_pos a, if_pos b]
  · have hx : x.toNat < xs.length := by omega
    rw [s_rd xs x hx]
    exact List.getElem_mem hx
theorem once_some (l : List Int) (i h n : Int) (hi : 0 ≤ i) (hb : i ≤ 1048576) (hl : l.length ≤ 1048576) (hn : 1 ≤ n) (hn' : n ≤ 4294967296) :
    ∃ b i' h', spec_l01Once.f l i h n = some (b, i', h') ∧ 0 ≤ i' ∧ i' ≤ 1048576 := by
  obtain ⟨x, i', h', e, a, b, c, d⟩ := below_some l i h n hi hb hl hn hn'
  refine ⟨(x == 0), i', h', ?_, c, d⟩
  unfold spec_l01Once.f
  rw [e, Option.bind_some]
theorem path_loop (l : List Int) (hl : l.length ≤ 1048576) : ∀ (d k : Nat) (acc : ByteArray) (x i h : Int), 0 ≤ x → (3 : Int) - x = d → (acc.size : Int) ≤ 2 * x → 0 ≤ i → i ≤ 1048576 → d < k →
    ∃ r i' h', spec_l09Path.l0 k acc x l i h = some (r, i', h') ∧ r.size ≤ 6 ∧ 0 ≤ i' ∧ i' ≤ 1048576 := by
  intro d
  induction d with
  | zero =>
    intro k acc x i h h0 h1 ha hi hb hk
    obtain ⟨k, rfl⟩ : ∃ m, k = m + 1 := ⟨k - 1, by omega⟩
    obtain ⟨v, i', h', e, a, b, c, d'⟩ := below_some l i h 3 hi hb hl (by omega) (by omega)
    have hw : wrap64 (1 + v) = 1 + v := by unfold wrap64; omega
    refine ⟨acc, i', h', ?_, by omega, c, d'⟩
    simp only [spec_l09Path.l0, e, Option.bind_some, hw]
    rw [if_neg (by omega)]
  | succ d ih =>
    intro k acc x i h h0 h1 ha hi hb hk
    obtain ⟨k, rfl⟩ : ∃ m, k = m + 1 := ⟨k - 1, by omega⟩
    obtain ⟨v, i', h', e, a, b, c, d'⟩ := below_some l i h 3 hi hb hl (by omega) (by omega)
    have hw : wrap64 (1 + v) = 1 + v := by unfold wrap64; omega
    have hwx : wrap64 (x + 1) = x + 1 := by unfold wrap64; omega
    by_cases cx : x < 1 + v
    · obtain ⟨r, i2, h2, e2, m2, c2, d2⟩ := pick_some l i' h' [(⟨#[97]⟩ : ByteArray), (⟨#[98]⟩ : ByteArray), (⟨#[99]⟩ : ByteArray)] c d' hl (by simp) (by simp)
      have hr : r.size = 1 := by
        simp only [List.mem_cons, List.not_mem_nil, or_false] at m2
        rcases m2 with rfl | rfl | rfl
        · rfl
        · rfl
        · rfl
      have h47 : (⟨#[47]⟩ : ByteArray).size = 1 := rfl
      obtain ⟨q, i3, h3, e3, s3, c3, d3⟩ := ih k ((acc ++ (⟨#[47]⟩ : ByteArray)) ++ r) (x + 1) i2 h2 (by omega) (by omega) (by rw [ByteArray.size_append, ByteArray.size_append, h47, hr]; omega) c2 d2 (by omega)
      refine ⟨q, i3, h3, ?_, s3, c3, d3⟩
      simp only [spec_l09Path.l0, e, e2, Option.bind_some, hw, hwx]
      rw [if_pos cx, if_pos (by omega), if_pos (by rw [ByteArray.size_append, h47, hr]; omega)]
      exact e3
    · refine ⟨acc, i', h', ?_, by omega, c, d'⟩
      simp only [spec_l09Path.l0, e, Option.bind_some, hw]
      rw [if_neg cx]
theorem path_some (l : List Int) (hl : l.length ≤ 1048576) (k : Nat) (hk : 10 < k) (i h : Int) (hi : 0 ≤ i) (hb : i ≤ 1048576) : ∃ r i' h', spec_l09Path.f k l i h = some (r, i', h') ∧ r.size ≤ 6 ∧ 0 ≤ i' ∧ i' ≤ 1048576 := by
  unfold spec_l09Path.f
  exact path_loop l hl 3 k ⟨#[]⟩ 0 i h (by omega) (by omega) (by show ((0 : Nat) : Int) ≤ 2 * 0; omega) hi hb (by omega)
theorem any_some (l : List Int) (hl : l.length ≤ 1048576) (k : Nat) (hk : 10 < k) (i h : Int) (hi : 0 ≤ i) (hb : i ≤ 1048576) : ∃ r i' h', spec_l09Any.f k l i h = some (r, i', h') ∧ r.size ≤ 100 ∧ 0 ≤ i' ∧ i' ≤ 1048576 := by
  obtain ⟨b, i1, h1, e1, c1, d1⟩ := once_some l i h 6 hi hb hl (by omega) (by omega)
  unfold spec_l09Any.f
  rw [e1, Option.bind_some]
  cases b with
  | false =>
    obtain ⟨r, i2, h2, e2, s2, c2, d2⟩ := path_some l hl k hk i1 h1 c1 d1
    dsimp only
    rw [if_neg (by decide), e2, Option.bind_some]
    exact ⟨r, i2, h2, rfl, by omega, c2, d2⟩
  | true =>
    rw [if_pos rfl]
    generalize hL : ([(⟨#[]⟩ : ByteArray), (⟨#[47]⟩ : ByteArray), (⟨#[97]⟩ : ByteArray), (⟨#[47, 65]⟩ : ByteArray), (⟨#[47, 47]⟩ : ByteArray), (⟨#[47, 97, 47]⟩ : ByteArray), (⟨#[47, 97, 47, 47, 98]⟩ : ByteArray), (⟨#[47, 97, 47, 98, 47, 99, 47, 97]⟩ : ByteArray), (⟨#[47, 97, 47, 98, 47, 99, 47, 97, 47, 98]⟩ : ByteArray), (⟨#[47, 97, 98, 99, 100, 101, 102, 103, 104]⟩ : ByteArray), (⟨#[47, 97, 98, 99, 100, 101, 102, 103, 104, 105]⟩ : ByteArray)] : List ByteArray) = L
    have hs : L.all (fun r => decide (r.size ≤ 100)) = true := by subst hL; rfl
    have hn : 1 ≤ L.length ∧ L.length ≤ 4294967296 := by subst hL; exact ⟨by decide, by decide⟩
    obtain ⟨r, i2, h2, e2, m2, c2, d2⟩ := pick_some l i1 h1 L c1 d1 hl hn.1 hn.2
    rw [e2, Option.bind_some]
    exact ⟨r, i2, h2, rfl, of_decide_eq_true (List.all_eq_true.mp hs r m2), c2, d2⟩
theorem pp_spec (p : ByteArray) (hp : p.size ≤ 4294967280) (k : Nat) (hk : 3 * p.size + 10 < k) : spec_ParentPath.f k p = some (ppV p) := by
  have h1 := spV_len p
  have h2 := pp_take p
  unfold spec_ParentPath.f ppV
  rw [sp_spec p hp k hk, Option.bind_some]
  by_cases c : (spV p).2 = true
  · rw [if_pos c, if_pos c]
    by_cases c0 : ((spV p).1.length : Int) = 0
    · rw [if_pos c0, if_pos c0]
    · have hw : wrap64 (((spV p).1.length : Int) - 1) = ((spV p).1.length : Int) - 1 := by unfold wrap64; omega
      have ht : (((spV p).1.length : Int) - 1).toNat = (spV p).1.length - 1 := by omega
      rw [if_neg c0, if_neg c0, hw, if_pos (by omega), if_pos (by omega), ht, jv_spec _ (by omega) (by omega) k (by omega), Option.bind_some, if_pos (by omega)]
  · rw [if_neg c, if_neg c]
def nvV (p : ByteArray) : Bool := (ppV p).2.2
theorem nv_spec (p : ByteArray) (hp : p.size ≤ 1048576) (k : Nat) (hk : 4000000 < k) : spec_l11Named.f k p = some (nvV p) := by
  unfold spec_l11Named.f nvV
  rw [pp_spec p (by omega) k (by omega)]
  rfl
theorem nv_impl (p : ByteArray) (hp : p.size ≤ 1048576) (k : Nat) : impl_named.f k p = some (nvV p) := by
  unfold impl_named.f nvV
  rw [pp_impl p (by omega) k]
  rfl
theorem nv_nil (p : ByteArray) (h : p.toList = []) : nvV p = false := by
  have e : spV p = ([], false) := by
    unfold spV
    rw [← Lib.toList_data, h]
    rfl
  unfold nvV ppV
  rw [e]
  rfl
theorem nv_root (p : ByteArray) (h : p.toList = [47]) : nvV p = false := by
  have e : spV p = ([], true) := by
    unfold spV
    have h1 : p.size = 1 := by rw [Lib.size_eq, ← Lib.toList_data, h]; rfl
    rw [← Lib.toList_data, h, if_pos (show Lib.hasPrefix [47] [47] = true from rfl), if_pos h1]
  unfold nvV ppV
  rw [e]
  rfl
theorem in_spec (a b c : Int) : spec_l01In.f a b c = some (decide (b ≤ a) && decide (a ≤ c)) := by
  unfold spec_l01In.f
  by_cases h : a ≥ b
  · rw [if_pos h, decide_eq_true (show b ≤ a from h), Bool.true_and]
  · rw [if_neg h, decide_eq_false (show ¬ b ≤ a from h), Bool.false_and]
theorem in_impl (a b c : Int) : impl_within.f a b c = some (decide (b ≤ a) && decide (a ≤ c)) := in_spec a b c
theorem so_p (c : Prop) [Decidable c] (y : Bool) : (if c then some y else some false) = some (decide c && y) := by
  by_cases h : c <;> simp [h]
theorem beq_i (a b : Int) : (a == b) = decide (a = b) := by by_cases h : a = b <;> simp [h]
theorem beq_l (a b : List UInt8) : (a == b) = decide (a = b) := by by_cases h : a = b <;> simp [h]
theorem bne_l (a b : List UInt8) : (a != b) = !decide (a = b) := by by_cases h : a = b <;> simp [h]
def eoV (kd : Int) (path tt : ByteArray) (num who : Int) : Bool :=
  decide (1 ≤ kd) && decide (kd ≤ 10) &&
  (if kd = 10 then decide (path.toList = [47]) && (decide (tt.toList = []) && (decide (num = 0) && decide (who = 0)))
   else ((nvV path || (decide (kd = 5 ∨ kd = 6) && decide (path.toList = [47]))) && (if kd = 3 then nvV tt else decide (tt.toList = [])) &&
    (if kd = 5 then decide (1 ≤ num) && decide (num ≤ 3) else if kd = 6 then decide (0 ≤ num) && decide (num ≤ 1000) else if kd = 7 then decide (1 ≤ num) && decide (num ≤ 200) else decide (num = 0)) &&
    (if kd = 2 ∨ kd = 9 then decide (1 ≤ who) && decide (who ≤ 9) else decide (who = 0))))
theorem eo_j1s (k : Nat) (kd : Int) (path tt : ByteArray) (num who : Int) : spec_EditOk.j1 (k + 1) false kd path tt num who =
    some ((if kd = 5 then decide (1 ≤ num) && decide (num ≤ 3) else if kd = 6 then decide (0 ≤ num) && decide (num ≤ 1000) else if kd = 7 then decide (1 ≤ num) && decide (num ≤ 200) else decide (num = 0)) &&
    (if kd = 2 ∨ kd = 9 then decide (1 ≤ who) && decide (who ≤ 9) else decide (who = 0))) := by
  simp only [spec_EditOk.j1, in_spec, Option.bind_some, so_p, Bool.decide_eq_true, beq_i, Bool.false_eq_true, if_false]
  by_cases h5 : kd = 5
  · subst h5; first | rfl | (simp; done)
  by_cases h6 : kd = 6
  · subst h6; first | rfl | (simp; done)
  by_cases h7 : kd = 7
  · subst h7; first | rfl | (simp; done)
  by_cases h2 : kd = 2
  · subst h2; first | rfl | (simp; done)
  by_cases h9 : kd = 9
  · subst h9; first | rfl | (simp; done)
  simp [h5, h6, h7, h2, h9]
theorem eo_spec (kd : Int) (path tt : ByteArray) (num who : Int) (hp : path.size ≤ 1048576) (ht : tt.size ≤ 1048576) (k : Nat) (hk : 4000010 < k) :
    spec_EditOk.f k kd path tt num who = some (eoV kd path tt num who) := by
  obtain ⟨k, rfl⟩ : ∃ m, k = m + 2 := ⟨k - 2, by omega⟩
  have ep := nv_spec path hp (k + 1) (by omega)
  have et := nv_spec tt ht (k + 1) (by omega)
  have hr := nv_root path
  have hn := nv_nil tt
  have hn1 : ∀ kd path tt num who, spec_EditOk.j1 (k + 1) true kd path tt num who = some false := fun _ _ _ _ _ => rfl
  have e0 : ∀ b, spec_EditOk.j0 (k + 2) b kd path tt num who = some ((nvV path || (b && decide (path.toList = [47]))) && ((if kd = 3 then nvV tt else decide (tt.toList = [])) && ((if kd = 5 then decide (1 ≤ num) && decide (num ≤ 3) else if kd = 6 then decide (0 ≤ num) && decide (num ≤ 1000) else if kd = 7 then decide (1 ≤ num) && decide (num ≤ 200) else decide (num = 0)) &&
    (if kd = 2 ∨ kd = 9 then decide (1 ≤ who) && decide (who ≤ 9) else decide (who = 0))))) := by
    intro b
    have ef := eo_j1s k kd path tt num who
    generalize ((if kd = 5 then decide (1 ≤ num) && decide (num ≤ 3) else if kd = 6 then decide (0 ≤ num) && decide (num ≤ 1000) else if kd = 7 then decide (1 ≤ num) && decide (num ≤ 200) else decide (num = 0)) &&
    (if kd = 2 ∨ kd = 9 then decide (1 ≤ who) && decide (who ≤ 9) else decide (who = 0))) = X at ef ⊢
    simp only [spec_EditOk.j0, ep, et, Option.bind_some, hn1, ef, beq_i, bne_l]
    clear ep et hr hp ht hk
    by_cases hk3 : kd = 3
    · simp only [if_pos hk3, decide_eq_true hk3]
      by_cases hR : path.toList = [47] <;> cases nvV path <;> cases b <;> cases nvV tt <;> simp [hR, ef]
    · simp only [if_neg hk3, decide_eq_false hk3]
      by_cases hQ : tt.toList = []
      · rw [hn hQ]
        by_cases hR : path.toList = [47] <;> cases nvV path <;> cases b <;> simp [hR, hQ, ef]
      · have hj : (!decide (tt.toList = [])) = true := by simp [hQ]
        simp only [hj, hn1]
        by_cases hR : path.toList = [47] <;> cases nvV path <;> cases b <;> cases nvV tt <;> simp [hR, hQ, ef]
  unfold spec_EditOk.f
  rw [in_spec, Option.bind_some]
  unfold eoV
  by_cases c : (decide (1 ≤ kd) && decide (kd ≤ 10)) = true
  · rw [if_pos c, c, Bool.true_and]
    by_cases h10 : kd = 10
    · rw [if_pos h10, if_pos h10]
      simp only [so_p, beq_i]
    · rw [if_neg h10, if_neg h10]
      simp only [e0, beq_i]
      by_cases h5 : kd = 5
      · subst h5; simp [Bool.and_assoc]
      · rw [if_neg h5]
        simp [h5, Bool.and_assoc]
  · rw [if_neg c, (Bool.not_eq_true _).mp c, Bool.false_and]
theorem eo_impl (kd : Int) (path tt : ByteArray) (num who : Int) (hp : path.size ≤ 1048576) (ht : tt.size ≤ 1048576) (k : Nat) (hk : 10 < k) :
    impl_EditOk.f k kd path tt num who = some (eoV kd path tt num who) := by
  obtain ⟨k, rfl⟩ : ∃ m, k = m + 4 := ⟨k - 4, by omega⟩
  have ep := nv_impl path hp (k + 4)
  have et := nv_impl tt ht
  have hr := nv_root path
  have hn := nv_nil tt
  simp only [impl_EditOk.f, impl_EditOk.j0, impl_EditOk.j1, impl_EditOk.j2, ep, et, in_impl, Option.bind_some, so_p, Bool.decide_eq_true, beq_i, beq_l]
  unfold eoV
  clear ep et hp ht hk
  generalize nvV path = P at hr ⊢
  generalize nvV tt = T at hn ⊢
  generalize decide (who = 0) = w0
  generalize decide (num = 0) = n0
  by_cases hR : path.toList = [47]
  · have hP := hr hR
    subst hP
    by_cases h5 : kd = 5
    · subst h5; cases w0 <;> simp [hR] <;> (try ac_rfl)
    by_cases h6 : kd = 6
    · subst h6; cases w0 <;> simp [hR] <;> (try ac_rfl)
    by_cases h7 : kd = 7
    · subst h7; simp <;> (try ac_rfl)
    by_cases h2 : kd = 2
    · subst h2; simp <;> (try ac_rfl)
    by_cases h9 : kd = 9
    · subst h9; simp <;> (try ac_rfl)
    by_cases h3 : kd = 3
    · subst h3; simp <;> (try ac_rfl)
    by_cases h10 : kd = 10
    · subst h10; cases w0 <;> cases n0 <;> simp [hR] <;> (try ac_rfl)
    simp [h5, h6, h7, h2, h9, h3, h10]
  · by_cases h5 : kd = 5
    · subst h5; cases w0 <;> cases P <;> simp [hR] <;> (try ac_rfl)
    by_cases h6 : kd = 6
    · subst h6; cases w0 <;> cases P <;> simp [hR] <;> (try ac_rfl)
    by_cases h7 : kd = 7
    · subst h7; cases w0 <;> cases P <;> simp <;> (try ac_rfl)
    by_cases h2 : kd = 2
    · subst h2; cases n0 <;> cases P <;> simp <;> (try ac_rfl)
    by_cases h9 : kd = 9
    · subst h9; cases n0 <;> cases P <;> simp <;> (try ac_rfl)
    by_cases h3 : kd = 3
    · subst h3; cases w0 <;> cases n0 <;> cases P <;> cases T <;> simp <;> (try ac_rfl)
    by_cases h10 : kd = 10
    · subst h10; simp [hR] <;> (try ac_rfl)
    cases w0 <;> cases n0 <;> cases P <;> simp [h5, h6, h7, h2, h9, h3, h10] <;> (try ac_rfl)
def vd : Nat → Int → List Int
  | 0, n => [n % 256]
  | d + 1, n => if n > 127 then (n % 128 + 128) :: vd d (n / 128) else [n % 256]
def varT (n : Int) : ByteArray := strOfNums (vd 8 n)
theorem strOf_size (xs : List Int) : (strOfNums xs).size = xs.length := by simp [strOfNums, ByteArray.size]
theorem vd_len : ∀ (d : Nat) (n : Int), 1 ≤ (vd d n).length ∧ (vd d n).length ≤ d + 1
  | 0, n => by simp [vd]
  | d + 1, n => by
    have ih := vd_len d (n / 128)
    unfold vd
    split
    · rw [List.length_cons]; omega
    · simp
theorem varT_size (n : Int) : (varT n).size ≤ 9 := by
  unfold varT
  rw [strOf_size]
  exact (vd_len 8 n).2
theorem v_spec : ∀ (d k : Nat) (n : Int) (acc : List Int), 0 ≤ n → n < 128 ^ (d + 1) → n ≤ 9223372036854775807 → acc.length + d ≤ 1000 → d < k → spec_l01Var.l0 k n acc = some (strOfNums (acc ++ vd d n)) := by
  intro d
  induction d with
  | zero =>
    intro k n acc h0 h1 h2 ha hk
    obtain ⟨k, rfl⟩ : ∃ m, k = m + 1 := ⟨k - 1, by omega⟩
    simp only [spec_l01Var.l0, vd]
    rw [if_neg (by simp at h1; omega), if_pos (by omega)]
  | succ d ih =>
    intro k n acc h0 h1 h2 ha hk
    obtain ⟨k, rfl⟩ : ∃ m, k = m + 1 := ⟨k - 1, by omega⟩
    have ht : Int.tdiv n 128 = n / 128 := Int.tdiv_eq_ediv_of_nonneg h0
    have hm : Int.tmod n 128 = n % 128 := Int.tmod_eq_emod_of_nonneg h0
    have hw : wrap64 (n / 128) = n / 128 := by unfold wrap64; omega
    have hv : (wrap64 (n % 128 + 128)) % 256 = n % 128 + 128 := by unfold wrap64; omega
    have hd : n / 128 < 128 ^ (d + 1) := by
      have : (128 : Int) ^ (d + 1 + 1) = 128 ^ (d + 1) * 128 := Int.pow_succ ..
      omega
    simp only [spec_l01Var.l0, ht, hm, hw, hv]
    rw [if_pos (show acc.length < 140737488355328 by omega)]
    by_cases c : n > 127
    · rw [if_pos c, ih k (n / 128) _ (by omega) hd (by omega) (by rw [List.length_append]; simp; omega) (by omega)]
      congr 2
      rw [vd, if_pos c, List.append_assoc]
      rfl
    · rw [if_neg c, if_pos (by omega)]
      congr 2
      rw [vd, if_neg c]
theorem v_both : ∀ (k : Nat) (n : Int) (acc : List Int), impl_VarText.l0 k n acc = (spec_l01Var.l0 k n acc).map fun r => (r, true) := by
  intro k
  induction k with
  | zero => intro n acc; rfl
  | succ k ih =>
    intro n acc
    simp only [impl_VarText.l0, spec_l01Var.l0]
    repeat' split
    all_goals first
      | rfl
      | exact ih _ _
theorem var_spec (n : Int) (h0 : 0 ≤ n) (h1 : n ≤ 9223372036854775807) (k : Nat) (hk : 8 < k) : spec_l01Var.f k n = some (varT n) := by
  unfold spec_l01Var.f
  rw [v_spec 8 k n [] h0 (by have : (128 : Int) ^ (8 + 1) = 9223372036854775808 := by decide
                             omega) h1 (by simp) hk]
  rfl
theorem var_impl (n : Int) (h0 : 0 ≤ n) (h1 : n ≤ 1000000000) (k : Nat) (hk : 8 < k) : impl_VarText.f k n = some (varT n, true) := by
  have h := var_spec n h0 (by omega) k hk
  unfold spec_l01Var.f at h
  unfold impl_VarText.f
  rw [in_impl, Option.bind_some, v_both, h, decide_eq_true h0, decide_eq_true h1]
  rfl
theorem pcs_size : ∀ (n : Nat) (s : ByteArray), s.size = n → ((pcs s).map ByteArray.size).sum + (pcs s).length = s.size + 1 := by
  intro n
  induction n using Nat.strongRecOn with
  | ind n ih =>
    intro s hs
    by_cases h : ∃ x ∈ s.data.toList, (x == 47) = true
    · have hl := List.findIdx_lt_length_of_exists h
      have hg := List.findIdx_getElem (w := hl)
      have h1 : s.data.toList[List.findIdx (fun x => x == 47) s.data.toList]? = some 47 := by
        rw [List.getElem?_eq_getElem hl]
        exact congrArg some (beq_iff_eq.mp hg)
      have hi : List.findIdx (fun x => x == 47) s.data.toList < s.size := by rw [Lib.size_eq]; exact hl
      have e := pcs_hit s _ h1 (fun j hj h2 => by
        have := List.not_of_lt_findIdx hj
        obtain ⟨hj2, e2⟩ := List.getElem?_eq_some_iff.mp h2
        rw [e2] at this
        exact absurd this (by decide))
      have hz : (s.extract (List.findIdx (fun x => x == 47) s.data.toList + 1) s.size).size = s.size - (List.findIdx (fun x => x == 47) s.data.toList + 1) := by rw [ByteArray.size_extract]; omega
      have hz0 : (s.extract 0 (List.findIdx (fun x => x == 47) s.data.toList)).size = List.findIdx (fun x => x == 47) s.data.toList := by rw [ByteArray.size_extract]; omega
      have ih' := ih _ (by omega) _ hz
      rw [e]
      simp only [List.map_cons, List.sum_cons, List.length_cons, hz0]
      omega
    · have e := pcs_none s (fun j hj => h ⟨47, List.mem_of_getElem? hj, rfl⟩)
      rw [e]
      simp
theorem nv_size (p : ByteArray) (h : nvV p = true) : p.size ≤ 36 := by
  have h2 : (spV p).2 = true := by
    cases hb : (spV p).2 with
    | true => rfl
    | false => unfold nvV ppV at h; rw [hb] at h; cases h
  have h3 := spV_small p
  have h4 := spV_len p
  have h5 := sum_le 8 (spV p).1 h3
  have h6 := pcs_size _ (p.extract 1 p.size) rfl
  rw [ByteArray.size_extract] at h6
  unfold spV at h2 h4 h5
  by_cases c : Lib.hasPrefix p.data.toList [47] = true
  · rw [if_pos c] at h2 h4 h5
    by_cases c1 : p.size = 1
    · omega
    · rw [if_neg c1] at h2 h4 h5
      unfold fin at h2 h4 h5
      by_cases c2 : (pcs (p.extract 1 p.size)).all impl_SplitPath.nm = true
      · rw [if_pos c2] at h2 h4 h5
        by_cases c3 : ([] : List ByteArray).length + (pcs (p.extract 1 p.size)).length > 4
        · rw [if_pos c3] at h2; cases h2
        · rw [if_neg c3] at h4 h5
          simp only [List.nil_append] at h4 h5
          omega
      · rw [if_neg c2] at h2; cases h2
  · rw [if_neg c] at h2; cases h2
theorem eo_facts (kd : Int) (path tt : ByteArray) (num who : Int) (h : eoV kd path tt num who = true) : path.size ≤ 36 ∧ tt.size ≤ 36 ∧ 0 ≤ num ∧ num ≤ 1000 ∧ 1 ≤ kd ∧ kd ≤ 10 ∧ 0 ≤ who ∧ who ≤ 9 := by
  have h1 : ∀ p : ByteArray, p.toList = [47] → p.size ≤ 36 := fun p e => by rw [Lib.size_eq, ← Lib.toList_data, e]; decide
  have h2 : ∀ p : ByteArray, p.toList = [] → p.size ≤ 36 := fun p e => by rw [Lib.size_eq, ← Lib.toList_data, e]; decide
  have hp := nv_size path
  have ht := nv_size tt
  unfold eoV at h
  by_cases h10 : kd = 10
  · simp only [if_pos h10, Bool.and_eq_true, decide_eq_true_eq] at h
    obtain ⟨⟨a, b⟩, c, d, e, f⟩ := h
    exact ⟨h1 path c, h2 tt d, by omega, by omega, a, b, by omega, by omega⟩
  · simp only [if_neg h10, Bool.and_eq_true, Bool.or_eq_true, decide_eq_true_eq] at h
    obtain ⟨⟨a, b⟩, ⟨⟨c, d⟩, e⟩, f⟩ := h
    have r1 : path.size ≤ 36 := by
      rcases c with c | c
      · exact hp c
      · exact h1 path c.2
    have r2 : tt.size ≤ 36 := by
      by_cases h3 : kd = 3
      · rw [if_pos h3] at d; exact ht d
      · rw [if_neg h3] at d; exact h2 tt (of_decide_eq_true d)
    have r3 : 0 ≤ num ∧ num ≤ 1000 := by
      repeat' split at e
      all_goals (simp only [Bool.and_eq_true, decide_eq_true_eq] at e; omega)
    have r4 : 0 ≤ who ∧ who ≤ 9 := by
      split at f
      all_goals (simp only [Bool.and_eq_true, decide_eq_true_eq] at f; omega)
    exact ⟨r1, r2, r3.1, r3.2, a, b, r4.1, r4.2⟩
def etV (kd : Int) (path tt : ByteArray) (num who : Int) : ByteArray × Bool :=
  if eoV kd path tt num who = true then (((((strOfNums [kd % 256, who % 256] ++ varT path.size) ++ path) ++ varT tt.size) ++ tt) ++ varT num, true) else (⟨#[]⟩, false)
theorem et_spec (kd : Int) (path tt : ByteArray) (num who : Int) (hp : path.size ≤ 1048576) (ht : tt.size ≤ 1048576) (k : Nat) (hk : 4000010 < k) :
    spec_EditText.f k kd path tt num who = some (etV kd path tt num who) := by
  unfold spec_EditText.f etV
  rw [eo_spec kd path tt num who hp ht k hk, Option.bind_some]
  by_cases c : eoV kd path tt num who = true
  · obtain ⟨f1, f2, f3, f4, _⟩ := eo_facts kd path tt num who c
    have s0 := strOf_size [kd % 256, who % 256]
    have s1 := varT_size path.size
    have s2 := varT_size tt.size
    have s3 := varT_size num
    simp only [List.length_cons, List.length_nil] at s0
    simp only [if_pos c, Option.bind_some, var_spec (path.size : Int) (by omega) (by omega) k (by omega), var_spec (tt.size : Int) (by omega) (by omega) k (by omega), var_spec num f3 (by omega) k (by omega), ByteArray.size_append]
    rw [if_pos (by omega), if_pos (by omega), if_pos (by omega), if_pos (by omega), if_pos (by omega)]
  · rw [if_neg c, if_neg c]
theorem sh_impl (p : ByteArray) (hp : p.size ≤ 20000) (k : Nat) (hk : 8 < k) : impl_ShortText.f k p = some (varT p.size ++ p, true) := by
  have s1 := varT_size p.size
  unfold impl_ShortText.f
  rw [if_neg (by omega), var_impl (p.size : Int) (by omega) (by omega) k hk, Option.bind_some, if_pos (show (varT p.size).size + p.size ≤ 9223372036854775807 by omega)]
theorem et_impl (kd : Int) (path tt : ByteArray) (num who : Int) (hp : path.size ≤ 1048576) (ht : tt.size ≤ 1048576) (k : Nat) (hk : 10 < k) :
    impl_EditText.f k kd path tt num who = some (etV kd path tt num who) := by
  unfold impl_EditText.f etV
  rw [eo_impl kd path tt num who hp ht k hk, Option.bind_some]
  by_cases c : eoV kd path tt num who = true
  · obtain ⟨f1, f2, f3, f4, _⟩ := eo_facts kd path tt num who c
    have s0 := strOf_size [kd % 256, who % 256]
    have s1 := varT_size path.size
    have s2 := varT_size tt.size
    have s3 := varT_size num
    simp only [List.length_cons, List.length_nil] at s0
    simp only [if_pos c, sh_impl path (by omega) k (by omega), sh_impl tt (by omega) k (by omega), var_impl num f3 (by omega) k (by omega), Option.bind_some, ByteArray.size_append]
    rw [if_pos (by omega), if_pos (by omega), if_pos (by omega)]
    simp only [ByteArray.append_assoc]
  · rw [if_neg c, if_neg c]
def dsOf (p : ByteArray) (a : Int) (n : Nat) : List Int := (List.range n).map fun (j : Nat) => bt p (a + (j : Int))
def vval : List Int → Int
  | [] => 0
  | c :: r => c % 128 + 128 * vval r
theorem ds_len (p : ByteArray) (a : Int) (n : Nat) : (dsOf p a n).length = n := by simp [dsOf]
theorem ds_succ (p : ByteArray) (a : Int) (n : Nat) : dsOf p a (n + 1) = dsOf p a n ++ [bt p (a + (n : Int))] := by
  unfold dsOf
  rw [List.range_succ, List.map_append]
  rfl
theorem ds_str (p : ByteArray) (a : Int) (n : Nat) (ha : 0 ≤ a) (hn : a + n ≤ p.size) : strOfNums (dsOf p a n) = p.extract a.toNat (a + n).toNat := by
  have hs : (strOfNums (dsOf p a n)).size = n := by rw [strOf_size, ds_len]
  refine ByteArray.ext_getElem (by rw [hs, ByteArray.size_extract]; omega) fun i hi hi' => ?_
  rw [hs] at hi
  rw [ByteArray.getElem_extract, ByteArray.getElem_eq_getElem_data]
  simp only [strOfNums, dsOf, List.getElem_toArray, List.getElem_map, List.getElem_range, bt]
  rw [dif_pos (by omega)]
  have e : (a + (i : Int)).toNat = a.toNat + i := by omega
  simp only [e, Int.toNat_natCast]
  simp
theorem vval_app : ∀ (l : List Int) (c : Int), vval (l ++ [c]) = vval l + 128 ^ l.length * (c % 128)
  | [], c => by simp [vval]
  | x :: l, c => by
    have ih := vval_app l c
    have e : (128 : Int) ^ (l.length + 1) = 128 ^ l.length * 128 := Int.pow_succ ..
    rw [List.cons_append, vval, vval, ih, List.length_cons, e]
    generalize (128 : Int) ^ l.length = P
    have h : P * 128 * (c % 128) = 128 * (P * (c % 128)) := by rw [Int.mul_comm P 128, Int.mul_assoc]
    rw [h]
    omega
theorem vval_pos : ∀ l : List Int, 0 ≤ vval l
  | [] => by simp [vval]
  | x :: l => by
    have ih := vval_pos l
    unfold vval
    omega
theorem vval_lt : ∀ l : List Int, vval l < 128 ^ l.length
  | [] => by simp [vval]
  | x :: l => by
    have ih := vval_lt l
    have e : (128 : Int) ^ (l.length + 1) = 128 ^ l.length * 128 := Int.pow_succ ..
    rw [List.length_cons, e]
    unfold vval
    omega
theorem vd_canon : ∀ (hi : List Int) (c : Int) (d : Nat), (∀ x ∈ hi, 128 ≤ x ∧ x ≤ 255) → 0 ≤ c → c < 128 → (c ≠ 0 ∨ hi = []) → hi.length ≤ d → vd d (vval (hi ++ [c])) = hi ++ [c] := by
  intro hi
  induction hi with
  | nil =>
    intro c d _ h0 h1 _ _
    have e : vval [c] = c := by unfold vval vval; omega
    rw [List.nil_append, e]
    cases d with
    | zero => unfold vd; rw [show c % 256 = c by omega]
    | succ d => unfold vd; rw [if_neg (by omega), show c % 256 = c by omega]
  | cons x l ih =>
    intro c d hx h0 h1 hc hd
    obtain ⟨d, rfl⟩ : ∃ m, d = m + 1 := ⟨d - 1, by simp only [List.length_cons] at hd; omega⟩
    have hx0 := hx x (by simp)
    have hc0 : c ≠ 0 := by
      rcases hc with h | h
      · exact h
      · cases h
    have ih' := ih c d (fun y hy => hx y (by simp [hy])) h0 h1 (.inl hc0) (by simp only [List.length_cons] at hd; omega)
    have hp : 1 ≤ vval (l ++ [c]) := by
      rw [vval_app]
      have h2 := vval_pos l
      have h3 : (1 : Int) ≤ 128 ^ l.length := by have := Int.pow_pos (n := 128) (m := l.length) (show (0 : Int) < 128 by decide); omega
      have h4 : (1 : Int) * 1 ≤ 128 ^ l.length * (c % 128) := Int.mul_le_mul h3 (by omega) (by decide) (by omega)
      omega
    have e : vval ((x :: l) ++ [c]) = x % 128 + 128 * vval (l ++ [c]) := rfl
    rw [e]
    unfold vd
    rw [if_pos (by omega), show (x % 128 + 128 * vval (l ++ [c])) / 128 = vval (l ++ [c]) by omega, ih', show (x % 128 + 128 * vval (l ++ [c])) % 128 + 128 = x by omega]
    rfl
theorem vd_short : ∀ (m d : Nat) (n : Int), 1 ≤ m → 0 ≤ n → n < 128 ^ m → (vd d n).length ≤ m := by
  intro m
  induction m with
  | zero => intro d n h; omega
  | succ m ih =>
    intro d n _ h0 h1
    have e : (128 : Int) ^ (m + 1) = 128 ^ m * 128 := Int.pow_succ ..
    cases d with
    | zero => simp [vd]
    | succ d =>
      unfold vd
      by_cases c : n > 127
      · rw [if_pos c, List.length_cons]
        cases m with
        | zero => simp at h1; omega
        | succ m =>
          have := ih d (n / 128) (by omega) (by omega) (by omega)
          omega
      · rw [if_neg c]; simp
def rvL (p : ByteArray) (a : Int) : Nat → Nat → Int → Int × Int × Bool
  | 0, _, _ => (0, 0, false)
  | r + 1, i, n =>
    if a + i < (p.size : Int) then
      (if bt p (a + i) < 128 then
        (if n + bt p (a + i) % 128 * 128 ^ i > 1000000000 then (0, 0, false)
         else if (varT (n + bt p (a + i) % 128 * 128 ^ i)).size = i + 1 then (n + bt p (a + i) % 128 * 128 ^ i, a + i + 1, true) else (0, 0, false))
       else rvL p a r (i + 1) (n + bt p (a + i) % 128 * 128 ^ i))
    else (0, 0, false)
def rvV (p : ByteArray) (a : Int) : Int × Int × Bool := if 0 ≤ a ∧ a ≤ (p.size : Int) then rvL p a 5 0 0 else (0, 0, false)
theorem p128 (i : Nat) (h : i ≤ 5) : (1 : Int) ≤ 128 ^ i ∧ (128 : Int) ^ i ≤ 34359738368 := by
  match i, h with
  | 0, _ => decide
  | 1, _ => decide
  | 2, _ => decide
  | 3, _ => decide
  | 4, _ => decide
  | 5, _ => decide
theorem shl7 (x : Int) (i : Nat) (h0 : 0 ≤ x) (h1 : x < 128) (h : i ≤ 4) : shl .i64 x (wrap64 (7 * (i : Int))) = x * 128 ^ i := by
  have hb : IntKind.i64.bits = 64 := rfl
  match i, h with
  | 0, _ => unfold shl; rw [i64_w, show min (wrap64 (7 * ((0 : Nat) : Int))).toNat IntKind.i64.bits = 0 from by unfold wrap64; rfl]; unfold wrap64; omega
  | 1, _ => unfold shl; rw [i64_w, show min (wrap64 (7 * ((1 : Nat) : Int))).toNat IntKind.i64.bits = 7 from by unfold wrap64; rfl]; unfold wrap64; omega
  | 2, _ => unfold shl; rw [i64_w, show min (wrap64 (7 * ((2 : Nat) : Int))).toNat IntKind.i64.bits = 14 from by unfold wrap64; rfl]; unfold wrap64; omega
  | 3, _ => unfold shl; rw [i64_w, show min (wrap64 (7 * ((3 : Nat) : Int))).toNat IntKind.i64.bits = 21 from by unfold wrap64; rfl]; unfold wrap64; omega
  | 4, _ => unfold shl; rw [i64_w, show min (wrap64 (7 * ((4 : Nat) : Int))).toNat IntKind.i64.bits = 28 from by unfold wrap64; rfl]; unfold wrap64; omega
structure Run (p : ByteArray) (a : Int) (i : Nat) (n : Int) : Prop where
  ha : 0 ≤ a
  hs : a + i ≤ p.size
  hn : n = vval (dsOf p a i)
  hi : ∀ x ∈ dsOf p a i, 128 ≤ x ∧ x ≤ 255
theorem run_add {p : ByteArray} {a : Int} {i : Nat} {n : Int} (h : Run p a i n) : n + bt p (a + i) % 128 * 128 ^ i = vval (dsOf p a (i + 1)) := by
  rw [ds_succ, vval_app, ds_len, h.hn, Int.mul_comm]
theorem run_next {p : ByteArray} {a : Int} {i : Nat} {n : Int} (h : Run p a i n) (hc : ¬ bt p (a + i) < 128) (hs : a + i < p.size) : Run p a (i + 1) (n + bt p (a + i) % 128 * 128 ^ i) where
  ha := h.ha
  hs := by omega
  hn := run_add h
  hi := by
    intro x hx
    rw [ds_succ, List.mem_append] at hx
    rcases hx with hx | hx
    · exact h.hi x hx
    · obtain rfl : x = bt p (a + i) := by simpa using hx
      have := bt_range p (a + i)
      omega
theorem run_text {p : ByteArray} {a : Int} {i : Nat} {n : Int} (h : Run p a i n) (h5 : i ≤ 4) (hc : bt p (a + i) < 128) (hs : a + i < p.size) :
    (varT (n + bt p (a + i) % 128 * 128 ^ i) = p.extract a.toNat (a + i + 1).toNat) ∨ (varT (n + bt p (a + i) % 128 * 128 ^ i)).size ≠ i + 1 := by
  have hr := bt_range p (a + i)
  by_cases c : bt p (a + i) ≠ 0 ∨ dsOf p a i = []
  · left
    rw [run_add h, ds_succ]
    unfold varT
    rw [vd_canon (dsOf p a i) (bt p (a + i)) 8 h.hi hr.1 hc c (by rw [ds_len]; omega), ← ds_succ, ds_str p a (i + 1) h.ha (by omega)]
    rw [show a + ((i + 1 : Nat) : Int) = a + i + 1 by omega]
  · right
    have c0 : bt p (a + i) = 0 := Classical.byContradiction fun e => c (.inl e)
    have c1 : dsOf p a i ≠ [] := fun e => c (.inr e)
    have hl : 1 ≤ i := by
      have := ds_len p a i
      cases i with
      | zero => exact absurd (List.eq_nil_of_length_eq_zero this) c1
      | succ i => omega
    unfold varT
    rw [strOf_size, c0, h.hn]
    have := vd_short i 8 (vval (dsOf p a i)) hl (vval_pos _) (by have := vval_lt (dsOf p a i); rw [ds_len] at this; exact this)
    rw [show vval (dsOf p a i) + 0 % 128 * 128 ^ i = vval (dsOf p a i) by omega]
    omega
theorem run_bound {p : ByteArray} {a : Int} {i : Nat} {n : Int} (h : Run p a i n) (h5 : i ≤ 4) : 0 ≤ n + bt p (a + i) % 128 * 128 ^ i ∧ n + bt p (a + i) % 128 * 128 ^ i < 34359738368 ∧ 0 ≤ bt p (a + i) % 128 * 128 ^ i ∧ bt p (a + i) % 128 * 128 ^ i ≤ 34359738368 ∧ 0 ≤ n := by
  have h1 := vval_pos (dsOf p a (i + 1))
  have h2 := vval_lt (dsOf p a (i + 1))
  rw [ds_len] at h2
  have h3 := (p128 (i + 1) (by omega)).2
  have h4 := run_add h
  have h6 : 0 ≤ bt p (a + i) % 128 * 128 ^ i := Int.mul_nonneg (by omega) (by have := (p128 i (by omega)).1; omega)
  have h7 := vval_pos (dsOf p a i)
  rw [← h.hn] at h7
  omega
theorem rv_spec_loop (p : ByteArray) (hp : p.size ≤ 4294967280) (a : Int) : ∀ (r k i : Nat) (n : Int), r + i = 5 → Run p a i n → 2 * r + 14 < k → spec_ReadVar.l0 k p a n (128 ^ i) (a + i) = some (rvL p a r i n) := by
  intro r
  induction r with
  | zero =>
    intro k i n hri hR hk
    obtain rfl : i = 5 := by omega
    have ha := hR.ha
    have hs := hR.hs
    obtain ⟨k, rfl⟩ : ∃ m, k = m + 2 := ⟨k - 2, by omega⟩
    have hw : wrap64 (a + 5) = a + 5 := by unfold wrap64; omega
    have hd : decide (a + ((5 : Nat) : Int) < a + 5) = false := decide_eq_false (by omega)
    simp only [spec_ReadVar.l0, spec_ReadVar.j1, hw, hd, Bool.false_eq_true, if_false, ite_self]
    rfl
  | succ r ih =>
    intro k i n hri hR hk
    have ha := hR.ha
    have hs := hR.hs
    obtain ⟨k, rfl⟩ : ∃ m, k = m + 2 := ⟨k - 2, by omega⟩
    have hw : wrap64 (a + 5) = a + 5 := by unfold wrap64; omega
    have hd : decide (a + (i : Int) < a + 5) = true := decide_eq_true (by omega)
    have hbr := bt_range p (a + i)
    have hb := run_bound hR (by omega)
    have hq := p128 i (by omega)
    have hm : Int.tmod (wrap64 (bt p (a + i))) 128 = bt p (a + i) % 128 := by
      rw [show wrap64 (bt p (a + i)) = bt p (a + i) by unfold wrap64; omega]
      exact Int.tmod_eq_emod_of_nonneg hbr.1
    have hw1 : wrap64 (bt p (a + i) % 128 * 128 ^ i) = bt p (a + i) % 128 * 128 ^ i := by unfold wrap64; omega
    have hw2 : wrap64 (n + bt p (a + i) % 128 * 128 ^ i) = n + bt p (a + i) % 128 * 128 ^ i := by unfold wrap64; omega
    have hw3 : wrap64 (a + i + 1) = a + i + 1 := by unfold wrap64; omega
    have hw4 : wrap64 (128 ^ i * 128) = 128 ^ (i + 1) := by
      have := (p128 (i + 1) (by omega)).2
      have e : (128 : Int) ^ (i + 1) = 128 ^ i * 128 := Int.pow_succ ..
      unfold wrap64; omega
    simp only [spec_ReadVar.l0, spec_ReadVar.j1, hw, hd, if_true, Bool.false_eq_true, if_false, hm, hw1, hw2, hw3, hw4]
    unfold rvL
    by_cases c : a + (i : Int) < (p.size : Int)
    · simp only [if_pos c]
      rw [if_pos (show 0 ≤ a + (i : Int) by omega)]
      by_cases c1 : bt p (a + i) < 128
      · rw [if_pos c1, if_pos c1]
        by_cases c2 : n + bt p (a + i) % 128 * 128 ^ i > 1000000000
        · rw [if_pos c2, if_pos c2]
        · rw [if_neg c2, if_neg c2, var_spec _ hb.1 (by omega) k (by omega), Option.bind_some, if_pos ha, if_pos (by omega), if_pos (by omega)]
          rcases run_text hR (by omega) c1 c with e | e
          · rw [e, if_pos rfl, if_pos (by rw [ByteArray.size_extract]; omega)]
          · rw [if_neg e, if_neg]
            intro e2
            apply e
            have e3 := congrArg List.length e2
            rw [Lib.toList_data, Lib.toList_data, ← Lib.size_eq, ← Lib.size_eq, ByteArray.size_extract] at e3
            omega
      · rw [if_neg c1, if_neg c1]
        have := ih k (i + 1) _ (by omega) (run_next hR c1 c) (by omega)
        rw [show a + ((i + 1 : Nat) : Int) = a + i + 1 by omega] at this
        exact this
    · simp only [if_neg c]
theorem nsc (m i : Nat) : ((m : Int) = (i : Int) + 1) ↔ m = i + 1 := by omega
theorem w7 (i : Nat) (h : i ≤ 4) : 0 ≤ wrap64 (7 * (i : Int)) := by
  have e : wrap64 (7 * (i : Int)) = 7 * (i : Int) := by unfold wrap64; omega
  rw [e]
  omega
theorem rv_impl_loop (p : ByteArray) (hp : p.size ≤ 4294967280) (a : Int) : ∀ (r k i : Nat) (n : Int), r + i = 5 → Run p a i n → 2 * r + 14 < k → impl_ReadVar.l0 k p a n (i : Int) = some (rvL p a r i n) := by
  intro r
  induction r with
  | zero =>
    intro k i n hri hR hk
    obtain rfl : i = 5 := by omega
    obtain ⟨k, rfl⟩ : ∃ m, k = m + 2 := ⟨k - 2, by omega⟩
    simp only [impl_ReadVar.l0, impl_ReadVar.j1]
    rw [if_neg (by omega), if_neg (by decide)]
    rfl
  | succ r ih =>
    intro k i n hri hR hk
    have ha := hR.ha
    have hs := hR.hs
    obtain ⟨k, rfl⟩ : ∃ m, k = m + 2 := ⟨k - 2, by omega⟩
    have hw7 : 0 ≤ wrap64 (7 * (i : Int)) := w7 i (by omega)
    have hw5 : wrap64 ((i : Int) + 1) = (i : Int) + 1 := by unfold wrap64; omega
    have f1 : (i : Int) < 5 := by omega
    have f2 : 0 ≤ a + (i : Int) := by omega
    have f4 : 8 < k := by omega
    have f5 : r + (i + 1) = 5 := by omega
    have f6 : 2 * r + 14 < k := by omega
    have hbr := bt_range p (a + i)
    have hb := run_bound hR (by omega)
    have hwa : wrap64 (a + i) = a + i := by unfold wrap64; omega
    have hwb : wrap64 (bt p (a + i)) = bt p (a + i) := by unfold wrap64; omega
    have hm : Int.tmod (bt p (a + i)) 128 = bt p (a + i) % 128 := Int.tmod_eq_emod_of_nonneg hbr.1
    have hsh := shl7 (bt p (a + i) % 128) i (by omega) (by omega) (by omega)
    have hw2 : wrap64 (n + bt p (a + i) % 128 * 128 ^ i) = n + bt p (a + i) % 128 * 128 ^ i := by unfold wrap64; omega
    have hw3 : wrap64 (a + i + 1) = a + i + 1 := by unfold wrap64; omega
    simp only [impl_ReadVar.l0, impl_ReadVar.j1, hwa, hwb, hm, hsh, hw2, hw3, hw5]
    rw [if_pos f1]
    unfold rvL
    by_cases c : a + (i : Int) < (p.size : Int)
    · simp only [decide_eq_true c, if_true, if_pos c]
      rw [if_pos f2, if_pos hw7]
      by_cases c1 : bt p (a + i) < 128
      · rw [if_pos c1, if_pos c1]
        by_cases c2 : n + bt p (a + i) % 128 * 128 ^ i > 1000000000
        · rw [if_pos c2]
          unfold impl_VarText.f
          rw [in_impl, Option.bind_some, decide_eq_false (Int.not_le.mpr c2), Bool.and_false, if_neg (by decide), Option.bind_some, if_neg (by decide)]
        · rw [if_neg c2, var_impl _ hb.1 (Int.not_lt.mp c2) k f4, Option.bind_some, if_pos rfl]
          by_cases c3 : (varT (n + bt p (a + i) % 128 * 128 ^ i)).size = i + 1
          · rw [if_pos c3, if_pos ((nsc _ _).mpr c3)]
          · rw [if_neg c3, if_neg (fun e => c3 ((nsc _ _).mp e))]
      · rw [if_neg c1, if_neg c1]
        have := ih k (i + 1) _ f5 (run_next hR c1 c) f6
        rw [show ((i + 1 : Nat) : Int) = (i : Int) + 1 from rfl] at this
        exact this
    · simp only [decide_eq_false c, Bool.false_eq_true, if_false, if_neg c]
theorem run_zero (p : ByteArray) (a : Int) (h0 : 0 ≤ a) (h1 : a ≤ p.size) : Run p a 0 0 where
  ha := h0
  hs := by omega
  hn := rfl
  hi := fun x hx => by cases hx
theorem rv_spec (p : ByteArray) (hp : p.size ≤ 4294967280) (a : Int) (k : Nat) (hk : 24 < k) : spec_ReadVar.f k p a = some (rvV p a) := by
  unfold spec_ReadVar.f rvV
  rw [in_spec, Option.bind_some]
  by_cases h : 0 ≤ a ∧ a ≤ (p.size : Int)
  · have e := rv_spec_loop p hp a 5 k 0 0 rfl (run_zero p a h.1 h.2) (by omega)
    rw [if_pos h, decide_eq_true h.1, decide_eq_true h.2]
    simp only [Int.pow_zero, Int.natCast_zero, Int.add_zero] at e
    exact e
  · rw [if_neg h, if_neg]
    simp only [Bool.and_eq_true, decide_eq_true_eq]
    exact h
theorem rv_impl (p : ByteArray) (hp : p.size ≤ 4294967280) (a : Int) (k : Nat) (hk : 24 < k) : impl_ReadVar.f k p a = some (rvV p a) := by
  unfold impl_ReadVar.f rvV
  rw [in_impl, Option.bind_some]
  by_cases h : 0 ≤ a ∧ a ≤ (p.size : Int)
  · have e := rv_impl_loop p hp a 5 k 0 0 rfl (run_zero p a h.1 h.2) (by omega)
    rw [if_pos h, decide_eq_true h.1, decide_eq_true h.2]
    exact e
  · rw [if_neg h, if_neg]
    simp only [Bool.and_eq_true, decide_eq_true_eq]
    exact h
theorem rvL_ok (p : ByteArray) (a : Int) : ∀ (r i : Nat) (n : Int), r + i = 5 → Run p a i n → (rvL p a r i n).2.2 = true →
    0 ≤ (rvL p a r i n).1 ∧ (rvL p a r i n).1 ≤ 1000000000 ∧ a < (rvL p a r i n).2.1 ∧ (rvL p a r i n).2.1 ≤ p.size ∧ varT (rvL p a r i n).1 = p.extract a.toNat (rvL p a r i n).2.1.toNat := by
  intro r
  induction r with
  | zero => intro i n _ _ h; cases h
  | succ r ih =>
    intro i n hri hR
    have hb := run_bound hR (by omega)
    unfold rvL
    by_cases c : a + (i : Int) < (p.size : Int)
    · rw [if_pos c]
      by_cases c1 : bt p (a + i) < 128
      · rw [if_pos c1]
        by_cases c2 : n + bt p (a + i) % 128 * 128 ^ i > 1000000000
        · rw [if_pos c2]; intro h; cases h
        · rw [if_neg c2]
          by_cases c3 : (varT (n + bt p (a + i) % 128 * 128 ^ i)).size = i + 1
          · rw [if_pos c3]
            intro _
            refine ⟨hb.1, by omega, by dsimp only; omega, by dsimp only; omega, ?_⟩
            rcases run_text hR (by omega) c1 c with e | e
            · exact e
            · exact absurd c3 e
          · rw [if_neg c3]; intro h; cases h
      · rw [if_neg c1]
        exact ih (i + 1) _ (by omega) (run_next hR c1 c)
    · rw [if_neg c]; intro h; cases h
theorem rv_ok (p : ByteArray) (a : Int) (h : (rvV p a).2.2 = true) : 0 ≤ a ∧ 0 ≤ (rvV p a).1 ∧ (rvV p a).1 ≤ 1000000000 ∧ a < (rvV p a).2.1 ∧ (rvV p a).2.1 ≤ p.size ∧ varT (rvV p a).1 = p.extract a.toNat (rvV p a).2.1.toNat := by
  unfold rvV at h ⊢
  by_cases c : 0 ≤ a ∧ a ≤ (p.size : Int)
  · rw [if_pos c] at h ⊢
    exact ⟨c.1, rvL_ok p a 5 0 0 rfl (run_zero p a c.1 c.2) h⟩
  · rw [if_neg c] at h; cases h
def rsV (p : ByteArray) (a : Int) : ByteArray × Int × Bool :=
  if (rvV p a).2.2 = true then
    (if (rvV p a).1 > 20000 then (⟨#[]⟩, 0, false)
     else if (rvV p a).1 > (p.size : Int) - (rvV p a).2.1 then (⟨#[]⟩, 0, false)
     else (p.extract (rvV p a).2.1.toNat ((rvV p a).2.1 + (rvV p a).1).toNat, (rvV p a).2.1 + (rvV p a).1, true))
  else (⟨#[]⟩, 0, false)
theorem rs_spec (p : ByteArray) (hp : p.size ≤ 4294967280) (a : Int) (k : Nat) (hk : 24 < k) : spec_ReadShort.f k p a = some (rsV p a) := by
  have h := rv_ok p a
  unfold spec_ReadShort.f rsV
  rw [rv_spec p hp a k hk, Option.bind_some]
  generalize rvV p a = v at h ⊢
  obtain ⟨n, nx, b⟩ := v
  cases b with
  | false => rfl
  | true =>
    obtain ⟨h0, h1, h2, h3, h4, _⟩ := h rfl
    dsimp only at h1 h2 h3 h4
    have e1 : wrap64 ((p.size : Int) - nx) = (p.size : Int) - nx := by unfold wrap64; omega
    have e2 : wrap64 (nx + n) = nx + n := by unfold wrap64; omega
    dsimp only
    rw [if_pos rfl, if_pos rfl, e1, e2]
    by_cases c1 : n > 20000
    · rw [if_pos c1, if_pos c1]
    · rw [if_neg c1, if_neg c1]
      by_cases c2 : n > (p.size : Int) - nx
      · rw [if_pos c2, if_pos c2]
      · rw [if_neg c2, if_neg c2, if_pos (by omega), if_pos (by omega), if_pos (by omega)]
theorem rs_impl (p : ByteArray) (hp : p.size ≤ 4294967280) (a : Int) (k : Nat) (hk : 24 < k) : impl_ReadShort.f k p a = some (rsV p a) := by
  have h := rv_ok p a
  unfold impl_ReadShort.f rsV
  rw [rv_impl p hp a k hk, Option.bind_some]
  generalize rvV p a = v at h ⊢
  obtain ⟨n, nx, b⟩ := v
  cases b with
  | false => rfl
  | true =>
    obtain ⟨h0, h1, h2, h3, h4, _⟩ := h rfl
    dsimp only at h1 h2 h3 h4
    have e1 : wrap64 ((p.size : Int) - nx) = (p.size : Int) - nx := by unfold wrap64; omega
    have e2 : wrap64 (nx + n) = nx + n := by unfold wrap64; omega
    dsimp only
    rw [if_pos rfl, if_pos rfl, e1, e2]
    by_cases c1 : n > 20000
    · rw [if_pos c1, if_pos c1]
    · rw [if_neg c1, if_neg c1]
      by_cases c2 : n > (p.size : Int) - nx
      · rw [if_pos c2, if_pos c2]
      · rw [if_neg c2, if_neg c2, if_pos (by omega), if_pos (by omega), if_pos (by omega)]
theorem ex_app (p : ByteArray) (a b c : Nat) (h1 : a ≤ b) (h2 : b ≤ c) : p.extract a b ++ p.extract b c = p.extract a c := by
  rw [ByteArray.extract_append_extract, Nat.min_eq_left h1, Nat.max_eq_right h2]
theorem rs_ok (p : ByteArray) (a : Int) (h : (rsV p a).2.2 = true) : 0 ≤ a ∧ (rsV p a).1.size ≤ 20000 ∧ a < (rsV p a).2.1 ∧ (rsV p a).2.1 ≤ p.size ∧ varT (rsV p a).1.size ++ (rsV p a).1 = p.extract a.toNat (rsV p a).2.1.toNat := by
  have hv := rv_ok p a
  unfold rsV at h ⊢
  generalize rvV p a = v at h hv ⊢
  obtain ⟨n, nx, b⟩ := v
  cases b with
  | false => cases h
  | true =>
    obtain ⟨h0, h1, h2, h3, h4, h5⟩ := hv rfl
    dsimp only at h h1 h2 h3 h4 h5 ⊢
    rw [if_pos rfl] at h ⊢
    by_cases c1 : n > 20000
    · rw [if_pos c1] at h; cases h
    · rw [if_neg c1] at h ⊢
      by_cases c2 : n > (p.size : Int) - nx
      · rw [if_pos c2] at h; cases h
      · rw [if_neg c2]
        dsimp only
        have hz : (p.extract nx.toNat (nx + n).toNat).size = n.toNat := by rw [ByteArray.size_extract]; omega
        refine ⟨h0, by omega, by omega, by omega, ?_⟩
        rw [hz, show ((n.toNat : Nat) : Int) = n by omega, h5, ex_app p a.toNat nx.toNat (nx + n).toNat (by omega) (by omega)]
theorem rs_size (p : ByteArray) (a : Int) : (rsV p a).1.size ≤ 20000 := by
  by_cases h : (rsV p a).2.2 = true
  · exact (rs_ok p a h).2.1
  · unfold rsV at h ⊢
    repeat' split at h
    all_goals first
      | exact absurd rfl h
      | (simp_all; done)
      | (simp_all; decide)
def reV (p : ByteArray) : Int × ByteArray × ByteArray × Int × Int × Bool :=
  if (p.size : Int) < 2 then (0, ⟨#[]⟩, ⟨#[]⟩, 0, 0, false)
  else if (rsV p 2).2.2 = true ∧ (rsV p (rsV p 2).2.1).2.2 = true ∧ (rvV p (rsV p (rsV p 2).2.1).2.1).2.2 = true ∧ (rvV p (rsV p (rsV p 2).2.1).2.1).2.1 = (p.size : Int) ∧
      eoV (bt p 0) (rsV p 2).1 (rsV p (rsV p 2).2.1).1 (rvV p (rsV p (rsV p 2).2.1).2.1).1 (bt p 1) = true then
    (bt p 0, (rsV p 2).1, (rsV p (rsV p 2).2.1).1, (rvV p (rsV p (rsV p 2).2.1).2.1).1, bt p 1, true)
  else (0, ⟨#[]⟩, ⟨#[]⟩, 0, 0, false)
theorem bt_w (p : ByteArray) (i : Int) : wrap64 (bt p i) = bt p i := by
  have := bt_range p i
  unfold wrap64
  omega
theorem re_impl (p : ByteArray) (hp : p.size ≤ 4294967280) (k : Nat) (hk : 24 < k) : impl_ReadEdit.f k p = some (reV p) := by
  have z1 := rs_size p 2
  have z2 := rs_size p (rsV p 2).2.1
  unfold impl_ReadEdit.f reV
  by_cases c0 : (p.size : Int) < 2
  · rw [if_pos c0, if_pos c0]
  · rw [if_neg c0, if_neg c0, rs_impl p hp 2 k hk, Option.bind_some, rs_impl p hp _ k hk, Option.bind_some, rv_impl p hp _ k hk, Option.bind_some, if_pos (by omega), if_pos (by omega), bt_w, bt_w]
    rw [eo_impl (bt p 0) (rsV p 2).1 (rsV p (rsV p 2).2.1).1 (rvV p (rsV p (rsV p 2).2.1).2.1).1 (bt p 1) (by omega) (by omega) k (by omega), Option.bind_some]
    by_cases c1 : (rsV p 2).2.2 = true
    · by_cases c2 : (rsV p (rsV p 2).2.1).2.2 = true
      · by_cases c3 : (rvV p (rsV p (rsV p 2).2.1).2.1).2.2 = true
        · by_cases c4 : (rvV p (rsV p (rsV p 2).2.1).2.1).2.1 = (p.size : Int)
          · by_cases c5 : eoV (bt p 0) (rsV p 2).1 (rsV p (rsV p 2).2.1).1 (rvV p (rsV p (rsV p 2).2.1).2.1).1 (bt p 1) = true
            · rw [if_pos c1, if_pos c2, if_pos c3, if_pos c4, if_pos c5, if_pos ⟨c1, c2, c3, c4, c5⟩]
            · rw [if_pos c1, if_pos c2, if_pos c3, if_pos c4, if_neg c5, if_neg (fun h => c5 h.2.2.2.2)]
          · rw [if_pos c1, if_pos c2, if_pos c3, if_neg c4, if_neg (fun h => c4 h.2.2.2.1)]
        · rw [if_pos c1, if_pos c2, if_neg c3, if_neg (fun h => c3 h.2.2.1)]
      · rw [if_pos c1, if_neg c2, if_neg (fun h => c2 h.2.1)]
    · rw [if_neg c1, if_neg (fun h => c1 h.1)]
theorem re_back (p : ByteArray) (h0 : 2 ≤ p.size) (c1 : (rsV p 2).2.2 = true) (c2 : (rsV p (rsV p 2).2.1).2.2 = true) (c3 : (rvV p (rsV p (rsV p 2).2.1).2.1).2.2 = true)
    (c5 : eoV (bt p 0) (rsV p 2).1 (rsV p (rsV p 2).2.1).1 (rvV p (rsV p (rsV p 2).2.1).2.1).1 (bt p 1) = true) :
    (etV (bt p 0) (rsV p 2).1 (rsV p (rsV p 2).2.1).1 (rvV p (rsV p (rsV p 2).2.1).2.1).1 (bt p 1)).1 = p.extract 0 (rvV p (rsV p (rsV p 2).2.1).2.1).2.1.toNat ∧
    0 ≤ (rvV p (rsV p (rsV p 2).2.1).2.1).2.1 ∧ (rvV p (rsV p (rsV p 2).2.1).2.1).2.1 ≤ p.size := by
  obtain ⟨_, _, a3, a4, a5⟩ := rs_ok p 2 c1
  obtain ⟨_, _, b3, b4, b5⟩ := rs_ok p (rsV p 2).2.1 c2
  obtain ⟨_, _, _, d3, d4, d5⟩ := rv_ok p (rsV p (rsV p 2).2.1).2.1 c3
  refine ⟨?_, by omega, d4⟩
  have e0 : strOfNums [bt p 0 % 256, bt p 1 % 256] = p.extract 0 2 := by
    have r0 := bt_range p 0
    have r1 := bt_range p 1
    rw [show bt p 0 % 256 = bt p 0 by omega, show bt p 1 % 256 = bt p 1 by omega]
    exact ds_str p 0 2 (by omega) (by omega)
  unfold etV
  rw [if_pos c5]
  dsimp only
  rw [e0, ByteArray.append_assoc (a := p.extract 0 2), a5, show (2 : Int).toNat = 2 from rfl, ex_app p 0 2 _ (by omega) (by omega), ByteArray.append_assoc (b := varT (rsV p (rsV p 2).2.1).1.size), b5, ex_app p 0 _ _ (by omega) (by omega), d5, ex_app p 0 _ _ (by omega) (by omega)]
theorem ex_all (p : ByteArray) (n : Nat) (hn : n ≤ p.size) : (p.extract 0 n).toList = p.toList ↔ n = p.size := by
  constructor
  · intro e
    have e2 := congrArg List.length e
    rw [Lib.toList_data, Lib.toList_data, ← Lib.size_eq, ← Lib.size_eq, ByteArray.size_extract] at e2
    omega
  · intro e
    rw [e, ByteArray.extract_zero_size]
theorem re_spec (p : ByteArray) (hp : p.size ≤ 4294967280) (k : Nat) (hk : 4000010 < k) : spec_ReadEdit.f k p = some (reV p) := by
  have z1 := rs_size p 2
  have z2 := rs_size p (rsV p 2).2.1
  unfold spec_ReadEdit.f reV
  by_cases c0 : (p.size : Int) < 2
  · rw [if_pos c0, if_pos c0]
  · have hb := re_back p (by omega)
    rw [if_neg c0, if_neg c0, if_pos (by omega), if_pos (by omega), rs_spec p hp 2 k (by omega), Option.bind_some, rs_spec p hp _ k (by omega), Option.bind_some, rv_spec p hp _ k (by omega), Option.bind_some, bt_w, bt_w]
    rw [et_spec (bt p 0) (rsV p 2).1 (rsV p (rsV p 2).2.1).1 (rvV p (rsV p (rsV p 2).2.1).2.1).1 (bt p 1) (by omega) (by omega) k (by omega), Option.bind_some]
    by_cases c1 : (rsV p 2).2.2 = true
    · by_cases c2 : (rsV p (rsV p 2).2.1).2.2 = true
      · by_cases c3 : (rvV p (rsV p (rsV p 2).2.1).2.1).2.2 = true
        · by_cases c5 : eoV (bt p 0) (rsV p 2).1 (rsV p (rsV p 2).2.1).1 (rvV p (rsV p (rsV p 2).2.1).2.1).1 (bt p 1) = true
          · obtain ⟨e1, e2, e3⟩ := hb c1 c2 c3 c5
            have e4 : (etV (bt p 0) (rsV p 2).1 (rsV p (rsV p 2).2.1).1 (rvV p (rsV p (rsV p 2).2.1).2.1).1 (bt p 1)).2 = true := by unfold etV; rw [if_pos c5]
            rw [if_pos c1, if_pos c2, if_pos c3, e1, if_pos e4]
            by_cases c4 : (rvV p (rsV p (rsV p 2).2.1).2.1).2.1 = (p.size : Int)
            · rw [if_pos ((ex_all p _ (by omega)).mpr (by omega)), if_pos ⟨c1, c2, c3, c4, c5⟩]
            · rw [if_neg (fun h => c4 (by have := (ex_all p _ (by omega)).mp h; omega)), if_neg (fun h => c4 h.2.2.2.1)]
          · have e4 : ¬ (etV (bt p 0) (rsV p 2).1 (rsV p (rsV p 2).2.1).1 (rvV p (rsV p (rsV p 2).2.1).2.1).1 (bt p 1)).2 = true := by unfold etV; rw [if_neg c5]; decide
            rw [if_pos c1, if_pos c2, if_pos c3, if_neg e4, if_neg (fun h => c5 h.2.2.2.2)]
        · rw [if_pos c1, if_pos c2, if_neg c3, if_neg (fun h => c3 h.2.2.1)]
      · rw [if_pos c1, if_neg c2, if_neg (fun h => c2 h.2.1)]
    · rw [if_neg c1, if_neg (fun h => c1 h.1)]
theorem text_loop (l : List Int) (hl : l.length ≤ 1048576) (n : Nat) (hn : n ≤ 5000) : ∀ (d k : Nat) (acc : List Int) (x i h : Int), 0 ≤ x → (n : Int) - x = d → (acc.length : Int) = x → 0 ≤ i → i ≤ 1048576 → d < k →
    ∃ r i' h', spec_l01Text.l0 k (n : Int) acc x l i h = some (strOfNums r, i', h') ∧ r.length = n ∧ 0 ≤ i' ∧ i' ≤ 1048576 := by
  intro d
  induction d with
  | zero =>
    intro k acc x i h h0 h1 ha hi hb hk
    obtain ⟨k, rfl⟩ : ∃ m, k = m + 1 := ⟨k - 1, by omega⟩
    refine ⟨acc, i, h, ?_, by omega, hi, hb⟩
    simp only [spec_l01Text.l0]
    rw [if_neg (by omega)]
  | succ d ih =>
    intro k acc x i h h0 h1 ha hi hb hk
    obtain ⟨k, rfl⟩ : ∃ m, k = m + 1 := ⟨k - 1, by omega⟩
    have hw : wrap64 (x + 1) = x + 1 := by unfold wrap64; omega
    obtain ⟨v, i', h', e, a, b, c, d'⟩ := byte_some l i h hi hb hl
    obtain ⟨r, i2, h2, er, e2, e3, e4⟩ := ih k (acc ++ [v % 256]) (x + 1) i' h' (by omega) (by omega) (by simp; omega) c d' (by omega)
    refine ⟨r, i2, h2, ?_, e2, e3, e4⟩
    simp only [spec_l01Text.l0, hw, e, Option.bind_some]
    rw [if_pos (by omega), if_pos (by omega)]
    exact er
theorem text_some (l : List Int) (hl : l.length ≤ 1048576) (n : Nat) (hn : n ≤ 5000) (i h : Int) (hi : 0 ≤ i) (hb : i ≤ 1048576) (k : Nat) (hk : 5001 < k) :
    ∃ r i' h', spec_l01Text.f k l i h (n : Int) = some (r, i', h') ∧ r.size = n ∧ 0 ≤ i' ∧ i' ≤ 1048576 := by
  obtain ⟨k, rfl⟩ : ∃ m, k = m + 1 := ⟨k - 1, by omega⟩
  obtain ⟨r, i', h', e, e2, e3, e4⟩ := text_loop l hl n hn n k [] 0 i h (by omega) (by omega) (by simp) hi hb (by omega)
  refine ⟨strOfNums r, i', h', ?_, by simp [strOfNums, ByteArray.size, e2], e3, e4⟩
  unfold spec_l01Text.f
  rw [if_neg (by omega)]
  simp only [spec_l01Text.j0]
  exact e
def Good (o : Option (Int × ByteArray × ByteArray × Int × Int × Int × Int)) : Prop :=
  ∃ a b c d e i h, o = some (a, b, c, d, e, i, h) ∧ b.size ≤ 100 ∧ c.size ≤ 100 ∧ 0 ≤ i ∧ i ≤ 1048576
theorem Good.some {a : Int} {b c : ByteArray} {d e i h : Int} (hb : b.size ≤ 100) (hc : c.size ≤ 100) (h0 : 0 ≤ i) (h1 : i ≤ 1048576) : Good (some (a, b, c, d, e, i, h)) :=
  ⟨a, b, c, d, e, i, h, rfl, hb, hc, h0, h1⟩
theorem Good.ite {p : Prop} [Decidable p] {x y : Option (Int × ByteArray × ByteArray × Int × Int × Int × Int)} (hx : Good x) (hy : Good y) : Good (if p then x else y) := by
  by_cases c : p
  · rw [if_pos c]; exact hx
  · rw [if_neg c]; exact hy
theorem Good.below {l : List Int} (hl : l.length ≤ 1048576) {i h n : Int} (hi : 0 ≤ i) (hb : i ≤ 1048576) (hn : 1 ≤ n) (hn' : n ≤ 4294967296) {f : Int × Int × Int → Option (Int × ByteArray × ByteArray × Int × Int × Int × Int)}
    (hf : ∀ x i' h', 0 ≤ i' → i' ≤ 1048576 → Good (f (x, i', h'))) : Good ((spec_l01Below.f l i h n).bind f) := by
  obtain ⟨x, i', h', e, _, _, c, d⟩ := below_some l i h n hi hb hl hn hn'
  rw [e, Option.bind_some]
  exact hf x i' h' c d
theorem Good.once {l : List Int} (hl : l.length ≤ 1048576) {i h n : Int} (hi : 0 ≤ i) (hb : i ≤ 1048576) (hn : 1 ≤ n) (hn' : n ≤ 4294967296) {f : Bool × Int × Int → Option (Int × ByteArray × ByteArray × Int × Int × Int × Int)}
    (hf : ∀ x i' h', 0 ≤ i' → i' ≤ 1048576 → Good (f (x, i', h'))) : Good ((spec_l01Once.f l i h n).bind f) := by
  obtain ⟨x, i', h', e, c, d⟩ := once_some l i h n hi hb hl hn hn'
  rw [e, Option.bind_some]
  exact hf x i' h' c d
theorem Good.pickI {l : List Int} (hl : l.length ≤ 1048576) {i h : Int} (hi : 0 ≤ i) (hb : i ≤ 1048576) {xs : List Int} (hn : 1 ≤ xs.length) (hn' : xs.length ≤ 4294967296) {f : Int × Int × Int → Option (Int × ByteArray × ByteArray × Int × Int × Int × Int)}
    (hf : ∀ x i' h', 0 ≤ i' → i' ≤ 1048576 → Good (f (x, i', h'))) : Good ((spec_l01PickInt.f l i h xs).bind f) := by
  obtain ⟨x, i', h', e, a, b, c, d⟩ := below_some l i h (xs.length : Int) hi hb hl (by omega) (by omega)
  unfold spec_l01PickInt.f
  rw [e, Option.bind_some, if_pos a, if_pos b, Option.bind_some]
  exact hf _ i' h' c d
theorem Good.path {l : List Int} (hl : l.length ≤ 1048576) {i h : Int} (hi : 0 ≤ i) (hb : i ≤ 1048576) {k : Nat} (hk : 10 < k) {f : ByteArray × Int × Int → Option (Int × ByteArray × ByteArray × Int × Int × Int × Int)}
    (hf : ∀ x i' h', x.size ≤ 100 → 0 ≤ i' → i' ≤ 1048576 → Good (f (x, i', h'))) : Good ((spec_l09Path.f k l i h).bind f) := by
  obtain ⟨x, i', h', e, s, c, d⟩ := path_some l hl k hk i h hi hb
  rw [e, Option.bind_some]
  exact hf x i' h' (by omega) c d
theorem Good.any {l : List Int} (hl : l.length ≤ 1048576) {i h : Int} (hi : 0 ≤ i) (hb : i ≤ 1048576) {k : Nat} (hk : 10 < k) {f : ByteArray × Int × Int → Option (Int × ByteArray × ByteArray × Int × Int × Int × Int)}
    (hf : ∀ x i' h', x.size ≤ 100 → 0 ≤ i' → i' ≤ 1048576 → Good (f (x, i', h'))) : Good ((spec_l09Any.f k l i h).bind f) := by
  obtain ⟨x, i', h', e, s, c, d⟩ := any_some l hl k hk i h hi hb
  rw [e, Option.bind_some]
  exact hf x i' h' s c d
theorem Good.ok {o : Option (Int × ByteArray × ByteArray × Int × Int × Int × Int)} (ho : Good o) {f : Int × ByteArray × ByteArray × Int × Int × Int × Int → Option (Int × ByteArray × ByteArray × Int × Int × Int × Int)}
    (hf : ∀ a b c d e i h, b.size ≤ 100 → c.size ≤ 100 → 0 ≤ i → i ≤ 1048576 → Good (f (a, b, c, d, e, i, h))) : Good (o.bind f) := by
  obtain ⟨a, b, c, d, e, i, h, rfl, h1, h2, h3, h4⟩ := ho
  exact hf a b c d e i h h1 h2 h3 h4
theorem edit_j0 (l : List Int) (hl : l.length ≤ 1048576) (k : Nat) (hk : 11 < k) (a : Int) (b : Bool) (i h kd : Int) (p t : ByteArray) (n w : Int) (hi : 0 ≤ i) (hb : i ≤ 1048576) (hp : p.size ≤ 100) (ht : t.size ≤ 100) :
    Good (spec_l11Edit.j0 k a b l i h kd p t n w) := by
  obtain ⟨k, rfl⟩ : ∃ m, k = m + 1 := ⟨k - 1, by omega⟩
  have hk2 : 10 < k := by omega
  have h47 : (⟨#[47]⟩ : ByteArray).size ≤ 100 := by decide
  simp only [spec_l11Edit.j0]
  repeat' first
    | exact Good.some (by assumption) (by assumption) (by assumption) (by assumption)
    | apply Good.ite
    | (refine Good.below hl (by assumption) (by assumption) (by decide) (by decide) ?_; intro x i' h' _ _; dsimp only)
    | (refine Good.once hl (by assumption) (by assumption) (by decide) (by decide) ?_; intro x i' h' _ _; dsimp only)
    | (refine Good.pickI hl (by assumption) (by assumption) (by decide) (by decide) ?_; intro x i' h' _ _; dsimp only)
    | (refine Good.path hl (by assumption) (by assumption) hk2 ?_; intro x i' h' _ _ _; dsimp only)
theorem edit_some (l : List Int) (hl : l.length ≤ 1048576) (k : Nat) (hk : 11 < k) (i h : Int) (hi : 0 ≤ i) (hb : i ≤ 1048576) : Good (spec_l11Edit.f k l i h) := by
  have h0 : (⟨#[]⟩ : ByteArray).size ≤ 100 := by decide
  unfold spec_l11Edit.f
  refine Good.pickI hl hi hb (by decide) (by decide) ?_
  intro x i1 h1 c1 d1
  refine Good.path hl c1 d1 (by omega) ?_
  intro p i2 h2 s2 c2 d2
  exact Good.ite (edit_j0 l hl k hk _ _ _ _ _ _ _ _ _ c2 d2 s2 h0) (edit_j0 l hl k hk _ _ _ _ _ _ _ _ _ c2 d2 s2 h0)
theorem anyE_some (l : List Int) (hl : l.length ≤ 1048576) (k : Nat) (hk : 11 < k) (i h : Int) (hi : 0 ≤ i) (hb : i ≤ 1048576) : Good (spec_l11Any.f k l i h) := by
  have hk2 : 10 < k := by omega
  unfold spec_l11Any.f
  refine Good.ok (edit_some l hl k hk i h hi hb) ?_
  intro a b c d e i h _ _ _ _
  dsimp only
  repeat' first
    | exact Good.some (by assumption) (by assumption) (by assumption) (by assumption)
    | apply Good.ite
    | (refine Good.below hl (by assumption) (by assumption) (by decide) (by decide) ?_; intro x i' h' _ _; dsimp only)
    | (refine Good.once hl (by assumption) (by assumption) (by decide) (by decide) ?_; intro x i' h' _ _; dsimp only)
    | (refine Good.pickI hl (by assumption) (by assumption) (by decide) (by decide) ?_; intro x i' h' _ _; dsimp only)
    | (refine Good.any hl (by assumption) (by assumption) hk2 ?_; intro x i' h' _ _ _; dsimp only)
theorem spoil_j0 (l : List Int) (hl : l.length ≤ 1048576) (k : Nat) (hk : 5003 < k) (s : ByteArray) (hs : s.size ≤ 1000) (b : Bool) (i h : Int) (hi : 0 ≤ i) (hb : i ≤ 1048576) :
    ∃ r i' h', spec_l02Spoilt.j0 k s b l i h = some (r, i', h') ∧ r.size ≤ 1001 := by
  obtain ⟨k, rfl⟩ : ∃ m, k = m + 1 := ⟨k - 1, by omega⟩
  simp only [spec_l02Spoilt.j0]
  by_cases c : b = true
  · rw [if_pos c]
    by_cases c1 : (s.size : Int) > 0
    · rw [if_pos c1]
      obtain ⟨x, i1, h1, e1, a1, b1, c1', d1⟩ := below_some l i h (s.size : Int) hi hb hl (by omega) (by omega)
      obtain ⟨r, i2, h2, e2, s2, c2, d2⟩ := text_some l hl 1 (by omega) i1 h1 c1' d1 k (by omega)
      have hw : wrap64 (x + 1) = x + 1 := by unfold wrap64; omega
      have e2' : spec_l01Text.f k l i1 h1 1 = some (r, i2, h2) := e2
      have z1 : (s.extract 0 x.toNat).size = x.toNat := by rw [ByteArray.size_extract]; omega
      have z2 : (s.extract (x + 1).toNat s.size).size = s.size - (x + 1).toNat := by rw [ByteArray.size_extract]; omega
      refine ⟨((s.extract 0 x.toNat) ++ r) ++ s.extract (x + 1).toNat s.size, i2, h2, ?_, ?_⟩
      · rw [e1, Option.bind_some, if_pos a1, if_pos (by omega), e2', Option.bind_some, hw]
        dsimp only
        rw [if_pos (by omega), if_pos (by omega), if_pos (by omega), if_pos (by rw [ByteArray.size_append]; omega)]
      · rw [ByteArray.size_append, ByteArray.size_append, z1, z2, s2]; omega
    · rw [if_neg c1]
      exact ⟨s, i, h, rfl, by omega⟩
  · rw [if_neg c]
    exact ⟨s, i, h, rfl, by omega⟩
theorem spoil_some (l : List Int) (hl : l.length ≤ 1048576) (k : Nat) (hk : 5003 < k) (s : ByteArray) (hs : s.size ≤ 1000) (i h : Int) (hi : 0 ≤ i) (hb : i ≤ 1048576) :
    ∃ r i' h', spec_l02Spoilt.f k l i h s = some (r, i', h') ∧ r.size ≤ 1001 := by
  obtain ⟨x, i1, h1, e1, a1, b1, c1, d1⟩ := below_some l i h 12 hi hb hl (by omega) (by omega)
  unfold spec_l02Spoilt.f
  rw [e1, Option.bind_some]
  dsimp only
  by_cases c : x = 0
  · obtain ⟨r, i2, h2, e2, s2, c2, d2⟩ := text_some l hl 1 (by omega) i1 h1 c1 d1 k (by omega)
    have e2' : spec_l01Text.f k l i1 h1 1 = some (r, i2, h2) := e2
    rw [if_pos c, e2', Option.bind_some, if_pos (by dsimp only; omega)]
    exact ⟨_, _, _, rfl, by rw [ByteArray.size_append]; show s.size + r.size ≤ 1001; omega⟩
  · rw [if_neg c]
    by_cases c' : x = 1
    · have hw : wrap64 ((s.size : Int) + 1) = s.size + 1 := by unfold wrap64; omega
      obtain ⟨y, i2, h2, e2, a2, b2, c2, d2⟩ := below_some l i1 h1 ((s.size : Int) + 1) c1 d1 hl (by omega) (by omega)
      rw [if_pos c', hw, e2, Option.bind_some, if_pos a2, if_pos (by dsimp only; omega)]
      exact ⟨_, _, _, rfl, by rw [ByteArray.size_extract]; omega⟩
    · rw [if_neg c']
      by_cases c2 : x = 2
      · rw [if_pos c2]; exact spoil_j0 l hl k hk s hs _ i1 h1 c1 d1
      · rw [if_neg c2]; exact spoil_j0 l hl k hk s hs _ i1 h1 c1 d1
theorem rv_small (s : ByteArray) (a : Nat) (n : Int) (h0 : 0 ≤ n) (h1 : n ≤ 1000) (pre post : ByteArray) (hs : s = (pre ++ varT n) ++ post) (ha : a = pre.size) :
    rvV s (a : Int) = (n, (a : Int) + ((varT n).size : Int), true) := by
  have hb : ∀ j : Nat, j < (varT n).size → bt s ((a : Int) + j) = bt (varT n) (j : Int) := by
    intro j hj
    have e1 : ((a : Int) + j).toNat = pre.size + j := by omega
    have hz : s.size = pre.size + (varT n).size + post.size := by rw [hs, ByteArray.size_append, ByteArray.size_append]
    unfold bt
    simp only [e1, Int.toNat_natCast]
    rw [dif_pos (by omega), dif_pos hj]
    subst hs
    rw [ByteArray.getElem_append_left (by rw [ByteArray.size_append]; omega), ByteArray.getElem_append_right (by omega)]
    congr 3
    omega
  have hz : (a : Int) + (varT n).size ≤ s.size := by
    rw [hs, ByteArray.size_append, ByteArray.size_append, ha]
    omega
  unfold rvV
  rw [if_pos ⟨by omega, by have := varT_size n; omega⟩]
  by_cases c : n > 127
  · have ev : varT n = strOfNums [n % 128 + 128, n / 128] := by
      unfold varT vd
      rw [if_pos c]
      unfold vd
      rw [if_neg (by omega), show n / 128 % 256 = n / 128 by omega]
    have es : (varT n).size = 2 := by rw [ev, strOf_size]; rfl
    have b0 : bt (varT n) 0 = n % 128 + 128 := by
      rw [ev]
      unfold bt
      rw [dif_pos (by rw [strOf_size]; show 0 < 2; omega)]
      show ((UInt8.ofNat (n % 128 + 128).toNat).toNat : Int) = _
      rw [UInt8.toNat_ofNat']
      omega
    have b1 : bt (varT n) 1 = n / 128 := by
      rw [ev]
      unfold bt
      rw [dif_pos (by rw [strOf_size]; show 1 < 2; omega)]
      show ((UInt8.ofNat (n / 128).toNat).toNat : Int) = _
      rw [UInt8.toNat_ofNat']
      omega
    have g0 := hb 0 (by omega)
    have g1 := hb 1 (by omega)
    have e0 : ((0 : Nat) : Int) = 0 := rfl
    have e1 : ((1 : Nat) : Int) = 1 := rfl
    rw [e0, b0] at g0
    rw [e1, b1] at g1
    unfold rvL
    rw [e0, g0, if_pos (by omega), if_neg (by omega), Int.pow_zero]
    unfold rvL
    rw [show ((0 + 1 : Nat) : Int) = 1 from rfl, g1, if_pos (by omega), if_pos (by omega)]
    have en : (0 : Int) + (n % 128 + 128) % 128 * 1 + n / 128 % 128 * 128 ^ (0 + 1) = n := by
      show (0 : Int) + (n % 128 + 128) % 128 * 1 + n / 128 % 128 * 128 = n
      omega
    rw [en, if_neg (by omega), es, if_pos rfl]
    show (n, (a : Int) + 1 + 1, true) = (n, (a : Int) + 2, true)
    rw [Int.add_assoc]
    rfl
  · have ev : varT n = strOfNums [n] := by
      unfold varT vd
      rw [if_neg c, show n % 256 = n by omega]
    have es : (varT n).size = 1 := by rw [ev, strOf_size]; rfl
    have b0 : bt (varT n) 0 = n := by
      rw [ev]
      unfold bt
      rw [dif_pos (by rw [strOf_size]; show 0 < 1; omega)]
      show ((UInt8.ofNat n.toNat).toNat : Int) = _
      rw [UInt8.toNat_ofNat']
      omega
    have g0 := hb 0 (by omega)
    have e0 : ((0 : Nat) : Int) = 0 := rfl
    rw [e0, b0] at g0
    unfold rvL
    rw [e0, g0, if_pos (by omega), if_pos (by omega), Int.pow_zero, show (0 : Int) + n % 128 * 1 = n by omega, if_neg (by omega), es, if_pos rfl, Int.add_zero]
    rfl
theorem app_ex_mid (a b c : ByteArray) : ((a ++ b) ++ c).extract a.size (a.size + b.size) = b := by
  refine ByteArray.ext_getElem (by rw [ByteArray.size_extract, ByteArray.size_append, ByteArray.size_append]; omega) fun j hj hj' => ?_
  rw [ByteArray.getElem_extract, ByteArray.getElem_append_left (by rw [ByteArray.size_append]; omega), ByteArray.getElem_append_right (by omega)]
  congr 1
  omega
theorem rs_small (s : ByteArray) (a : Nat) (p pre post : ByteArray) (hp : p.size ≤ 1000) (hs : s = ((pre ++ varT p.size) ++ p) ++ post) (ha : a = pre.size) :
    rsV s (a : Int) = (p, (a : Int) + (varT p.size).size + p.size, true) := by
  have h1 := rv_small s a p.size (by omega) (by omega) pre (p ++ post) (by rw [hs, ByteArray.append_assoc (a := pre ++ varT p.size)]) ha
  have hz : s.size = pre.size + (varT p.size).size + p.size + post.size := by rw [hs, ByteArray.size_append, ByteArray.size_append, ByteArray.size_append]
  unfold rsV
  rw [h1, if_pos rfl, if_neg (by dsimp only; omega), if_neg (by dsimp only; omega)]
  have e := app_ex_mid (pre ++ varT p.size) p post
  rw [ByteArray.size_append, ← hs] at e
  dsimp only
  rw [show ((a : Int) + ((varT p.size).size : Int)).toNat = pre.size + (varT p.size).size by omega, show ((a : Int) + ((varT p.size).size : Int) + (p.size : Int)).toNat = pre.size + (varT p.size).size + p.size by omega, e]
theorem re_et (kd : Int) (path tt : ByteArray) (num who : Int) (h : eoV kd path tt num who = true) : reV (etV kd path tt num who).1 = (kd, path, tt, num, who, true) := by
  obtain ⟨f1, f2, f3, f4, f5, f6, f7, f8⟩ := eo_facts kd path tt num who h
  have e : (etV kd path tt num who).1 = ((((strOfNums [kd % 256, who % 256] ++ varT path.size) ++ path) ++ varT tt.size) ++ tt) ++ varT num := by unfold etV; rw [if_pos h]
  have ek : kd % 256 = kd := by omega
  have ew : who % 256 = who := by omega
  rw [ek, ew] at e
  have z0 : (strOfNums [kd, who]).size = 2 := by rw [strOf_size]; rfl
  generalize (etV kd path tt num who).1 = s at e
  have hsz : s.size = 2 + (varT path.size).size + path.size + (varT tt.size).size + tt.size + (varT num).size := by
    rw [e]; simp only [ByteArray.size_append, z0]
  have hb : ∀ j : Nat, j < 2 → bt s (j : Int) = bt (strOfNums [kd, who]) (j : Int) := by
    intro j hj
    have e2 : s = strOfNums [kd, who] ++ ((((varT path.size ++ path) ++ varT tt.size) ++ tt) ++ varT num) := by rw [e]; simp only [ByteArray.append_assoc]
    unfold bt
    simp only [Int.toNat_natCast]
    rw [dif_pos (by omega), dif_pos (by omega)]
    subst e2
    rw [ByteArray.getElem_append_left (by omega)]
  have b0 : bt s 0 = kd := by
    have g := hb 0 (by omega)
    rw [show ((0 : Nat) : Int) = 0 from rfl] at g
    rw [g]
    unfold bt
    rw [dif_pos (by rw [z0]; decide)]
    show ((UInt8.ofNat kd.toNat).toNat : Int) = _
    rw [UInt8.toNat_ofNat']
    omega
  have b1 : bt s 1 = who := by
    have g := hb 1 (by omega)
    rw [show ((1 : Nat) : Int) = 1 from rfl] at g
    rw [g]
    unfold bt
    rw [dif_pos (by rw [z0]; decide)]
    show ((UInt8.ofNat who.toNat).toNat : Int) = _
    rw [UInt8.toNat_ofNat']
    omega
  have r1 := rs_small s 2 path (strOfNums [kd, who]) ((varT tt.size ++ tt) ++ varT num) (by omega) (by rw [e]; simp only [ByteArray.append_assoc]) z0.symm
  have r2 := rs_small s (2 + (varT path.size).size + path.size) tt ((strOfNums [kd, who] ++ varT path.size) ++ path) (varT num) (by omega) (by rw [e]) (by simp only [ByteArray.size_append, z0])
  have r3 := rv_small s (2 + (varT path.size).size + path.size + (varT tt.size).size + tt.size) num f3 f4 ((((strOfNums [kd, who] ++ varT path.size) ++ path) ++ varT tt.size) ++ tt) ByteArray.empty (by rw [e, ByteArray.append_empty]) (by simp only [ByteArray.size_append, z0])
  have c1 : ((2 : Nat) : Int) + (varT path.size).size + path.size = ((2 + (varT path.size).size + path.size : Nat) : Int) := by omega
  have c2 : ((2 + (varT path.size).size + path.size : Nat) : Int) + (varT tt.size).size + tt.size = ((2 + (varT path.size).size + path.size + (varT tt.size).size + tt.size : Nat) : Int) := by omega
  have r1' : rsV s 2 = (path, ((2 + (varT path.size).size + path.size : Nat) : Int), true) := by rw [← c1]; exact r1
  have r2' : rsV s ((2 + (varT path.size).size + path.size : Nat) : Int) = (tt, ((2 + (varT path.size).size + path.size + (varT tt.size).size + tt.size : Nat) : Int), true) := by rw [← c2]; exact r2
  unfold reV
  rw [if_neg (by omega), r1']
  dsimp only
  rw [r2']
  dsimp only
  rw [r3, b0, b1]
  dsimp only
  rw [if_pos ⟨rfl, rfl, rfl, by omega, h⟩]
theorem et_re (p : ByteArray) (h : (reV p).2.2.2.2.2 = true) : (etV (reV p).1 (reV p).2.1 (reV p).2.2.1 (reV p).2.2.2.1 (reV p).2.2.2.2.1).1 = p := by
  unfold reV at h ⊢
  by_cases c0 : (p.size : Int) < 2
  · rw [if_pos c0] at h; cases h
  · rw [if_neg c0] at h ⊢
    by_cases c : (rsV p 2).2.2 = true ∧ (rsV p (rsV p 2).2.1).2.2 = true ∧ (rvV p (rsV p (rsV p 2).2.1).2.1).2.2 = true ∧ (rvV p (rsV p (rsV p 2).2.1).2.1).2.1 = (p.size : Int) ∧
      eoV (bt p 0) (rsV p 2).1 (rsV p (rsV p 2).2.1).1 (rvV p (rsV p (rsV p 2).2.1).2.1).1 (bt p 1) = true
    · rw [if_pos c]
      obtain ⟨e1, _, _⟩ := re_back p (by omega) c.1 c.2.1 c.2.2.1 c.2.2.2.2
      dsimp only
      rw [e1, c.2.2.2.1, Int.toNat_natCast, ByteArray.extract_zero_size]
    · rw [if_neg c] at h; cases h
theorem etV_size (kd : Int) (path tt : ByteArray) (num who : Int) : (etV kd path tt num who).1.size ≤ 1000 := by
  by_cases c : eoV kd path tt num who = true
  · obtain ⟨f1, f2, f3, f4, _⟩ := eo_facts kd path tt num who c
    have s0 := strOf_size [kd % 256, who % 256]
    have s1 := varT_size path.size
    have s2 := varT_size tt.size
    have s3 := varT_size num
    simp only [List.length_cons, List.length_nil] at s0
    unfold etV
    rw [if_pos c]
    simp only [ByteArray.size_append]
    omega
  · unfold etV
    rw [if_neg c]
    exact Nat.zero_le _
theorem re_size (p : ByteArray) : (reV p).2.1.size ≤ 20000 ∧ (reV p).2.2.1.size ≤ 20000 := by
  unfold reV
  repeat' split
  · exact ⟨Nat.zero_le _, Nat.zero_le _⟩
  · exact ⟨rs_size p 2, rs_size p _⟩
  · exact ⟨Nat.zero_le _, Nat.zero_le _⟩
theorem drawE_some (l : List Int) (hl : l.length ≤ 1048576) (k : Nat) (hk : 1048590 < k) : ∃ a b c d e, spec_DrawEditText.f k l = some (a, b, c, d, e) ∧ b.size ≤ 100 ∧ c.size ≤ 100 := by
  obtain ⟨h', e⟩ := new_ends l hl l.length k (wrap64 (36801 + (l.length : Int))) 0 (by omega) (by omega) (by omega)
  obtain ⟨a, b, c, d, w, i2, h2, e2, s1, s2, _, _⟩ := anyE_some l hl k (by omega) 0 h' (by omega) (by omega)
  refine ⟨a, b, c, d, w, ?_, s1, s2⟩
  unfold spec_DrawEditText.f spec_l01New.f
  rw [e, Option.bind_some, e2, Option.bind_some]
theorem drawR_some (l : List Int) (hl : l.length ≤ 1048576) (k : Nat) (hk : 4000010 < k) : ∃ r, spec_DrawReadEdit.f k l = some r ∧ r.size ≤ 1001 := by
  obtain ⟨h', e⟩ := new_ends l hl l.length k (wrap64 (36801 + (l.length : Int))) 0 (by omega) (by omega) (by omega)
  obtain ⟨a, b, c, d, w, i2, h2, e2, s1, s2, c2, d2⟩ := anyE_some l hl k (by omega) 0 h' (by omega) (by omega)
  obtain ⟨o, i3, h3, e3, c3, d3⟩ := once_some l i2 h2 2 c2 d2 hl (by omega) (by omega)
  have hz := etV_size a b c d w
  unfold spec_DrawReadEdit.f spec_l01New.f
  rw [e, Option.bind_some, e2, Option.bind_some]
  dsimp only
  rw [et_spec a b c d w (by omega) (by omega) k hk, Option.bind_some, e3, Option.bind_some]
  dsimp only
  cases o with
  | false => exact ⟨_, if_neg (by decide), by omega⟩
  | true =>
    obtain ⟨r, i4, h4, e4, s4⟩ := spoil_some l hl k (by omega) (etV a b c d w).1 hz i3 h3 c3 d3
    rw [if_pos rfl, e4, Option.bind_some]
    exact ⟨r, rfl, s4⟩
theorem FnRecords (l0 : List Int) (_ : l0.length ≤ maxLen ∧ ∀ x ∈ l0, (Lit.int .u8 x).wf = true) : ∃ k, laws_FnRecords.f k l0 = some true := by
  obtain ⟨K, hK⟩ : ∃ K : Nat, 4194304 < K := ⟨4194305, by decide⟩
  refine ⟨K + 1, ?_⟩
  unfold laws_FnRecords.f laws_big.f
  rw [Option.bind_some]
  by_cases c : (l0.length : Int) > 1048576
  · rw [if_pos (decide_eq_true c)]
  · rw [if_neg (by rw [decide_eq_true_eq]; exact c)]
    obtain ⟨kd, path, tt, num, who, e, h1, h2⟩ := drawE_some l0 (by omega) (K + 1) (by omega)
    obtain ⟨t, e2, h3⟩ := drawR_some l0 (by omega) K (by omega)
    have hz := etV_size kd path tt num who
    obtain ⟨z1, z2⟩ := re_size t
    have fin : laws_FnRecords.j0 (K + 1) l0 false = some true := by
      simp only [laws_FnRecords.j0, Bool.false_eq_true, if_false]
      rw [e2, Option.bind_some, re_impl t (by omega) K (by omega), Option.bind_some, re_spec t (by omega) K (by omega), Option.bind_some, et_impl _ _ _ _ _ (by omega) (by omega) K (by omega), Option.bind_some, beq_self_eq_true, if_pos rfl]
      by_cases c3 : (reV t).2.2.2.2.2 = true
      · rw [if_pos c3, et_re t c3, beq_self_eq_true]
      · rw [if_neg c3]
    have e3 := eo_spec kd path tt num who (by omega) (by omega) (K + 1) (by omega)
    have e4 := eo_impl kd path tt num who (by omega) (by omega) (K + 1) (by omega)
    rw [e, Option.bind_some]
    dsimp only
    rw [et_impl kd path tt num who (by omega) (by omega) (K + 1) (by omega), Option.bind_some, re_impl _ (by omega) (K + 1) (by omega), Option.bind_some, e3, Option.bind_some]
    cases c4 : eoV kd path tt num who with
    | false =>
      have e5 : (etV kd path tt num who).2 = false := by unfold etV; rw [if_neg (by rw [c4]; decide)]
      rw [e5, bne_self_eq_false, if_neg (by decide), e4, Option.bind_some, c4, bne_self_eq_false, if_neg (by decide), if_neg (by decide)]
      exact fin
    | true =>
      have e5 : (etV kd path tt num who).2 = true := by unfold etV; rw [if_pos c4]
      rw [e5, bne_self_eq_false, if_neg (by decide), e4, Option.bind_some, c4, bne_self_eq_false, if_neg (by decide), if_pos rfl, re_et kd path tt num who c4]
      dsimp only
      simp only [beq_self_eq_true, Bool.not_true, Bool.or_self, Bool.or_false, if_true]
      exact fin
end Go.Proofs.YtmgdekfajjdcdaaDoor.Pure
