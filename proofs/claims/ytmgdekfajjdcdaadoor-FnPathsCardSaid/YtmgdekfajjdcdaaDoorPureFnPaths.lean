/- A drawn path comes back from its names, and its parent with its name is it: the law is true for every code. -/
import Derived.Test.YtmgdekfajjdcdaaDoorQPA
namespace Go.Proofs.YtmgdekfajjdcdaaDoor.Pure
open Go.RowKit Go.Proofs.YtmgdekfajjdcdaaDoor.QPA Go.Proofs.YtmgdekfajjdcdaaDoorW.PrintWords Go.Proofs.YtmgdekfajjdcdaaDoorW.PrintLast Go.Proofs.YtmgdekfajjdcdaaDoorW.PrintMore
set_option linter.unusedSimpArgs false
set_option linter.unusedVariables false

theorem and_255 (x : Int) : 0 ≤ Go.bits .and .i64 x 255 ∧ Go.bits .and .i64 x 255 ≤ 255 := by
  have h : (BitVec.ofInt 64 x &&& BitVec.ofInt 64 255).toNat ≤ 255 := by
    rw [BitVec.toNat_and]
    exact Nat.le_trans Nat.and_le_right (by decide)
  have e : Go.bits .and .i64 x 255 = IntKind.i64.wrap ((BitVec.ofInt 64 x &&& BitVec.ofInt 64 255).toNat : Int) := rfl
  rw [e, IntKind.wrap_i64]
  omega

theorem new_ends (l : List Int) (hl : l.length ≤ 1048576) : ∀ (d k : Nat) (h i : Int), 0 ≤ i → (l.length : Int) - i = d → d < k → ∃ h', spec_l01New.l0 k l h i = some (l, 0, h') := by
  intro d
  induction d with
  | zero =>
    intro k h i h0 h1 hk
    obtain ⟨k, rfl⟩ : ∃ m, k = m + 1 := ⟨k - 1, by omega⟩
    refine ⟨h, ?_⟩
    simp only [spec_l01New.l0]
    rw [if_neg (by omega)]
  | succ d ih =>
    intro k h i h0 h1 hk
    obtain ⟨k, rfl⟩ : ∃ m, k = m + 1 := ⟨k - 1, by omega⟩
    have hw : wrap64 (i + 1) = i + 1 := by unfold wrap64; omega
    simp only [spec_l01New.l0, hw]
    rw [if_pos (by omega)]
    by_cases c : i < 4000
    · rw [if_pos c, if_pos h0]
      exact ih k _ (i + 1) (by omega) (by omega) (by omega)
    · rw [if_neg c]
      exact ⟨h, rfl⟩

theorem byte_some (l : List Int) (i h : Int) (hi : 0 ≤ i) (hb : i ≤ 1048576) (hl : l.length ≤ 1048576) : ∃ x i' h', spec_l01Byte.f l i h = some (x, i', h') ∧ 0 ≤ x ∧ x ≤ 255 ∧ 0 ≤ i' ∧ i' ≤ 1048576 := by
  unfold spec_l01Byte.f
  by_cases c : i < (l.length : Int)
  · have hw : wrap64 (i + 1) = i + 1 := by unfold wrap64; omega
    rw [if_pos c, if_pos hi, hw]
    exact ⟨_, _, _, rfl, (and_255 _).1, (and_255 _).2, by omega, by omega⟩
  · rw [if_neg c]
    exact ⟨_, _, _, rfl, (and_255 _).1, (and_255 _).2, hi, hb⟩

theorem below_some (l : List Int) (i h n : Int) (hi : 0 ≤ i) (hb : i ≤ 1048576) (hl : l.length ≤ 1048576) (hn : 1 ≤ n) (hn' : n ≤ 4294967296) :
    ∃ x i' h', spec_l01Below.f l i h n = some (x, i', h') ∧ 0 ≤ x ∧ x < n ∧ 0 ≤ i' ∧ i' ≤ 1048576 := by
  unfold spec_l01Below.f
  rw [if_neg (by omega)]
  obtain ⟨x1, i1, h1, e1, a1, b1, c1, d1⟩ := byte_some l i h hi hb hl
  rw [e1]
  simp only [Option.bind_some]
  by_cases c : n ≤ 256
  · rw [if_pos c, if_neg (by omega)]
    refine ⟨_, _, _, rfl, Int.tmod_nonneg _ a1, ?_, c1, d1⟩
    rw [Int.tmod_eq_emod_of_nonneg a1]
    exact Int.emod_lt_of_pos _ (by omega)
  · rw [if_neg c]
    obtain ⟨x2, i2, h2, e2, a2, b2, c2, d2⟩ := byte_some l i1 h1 c1 d1 hl
    rw [e2]
    simp only [Option.bind_some]
    obtain ⟨x3, i3, h3, e3, a3, b3, c3, d3⟩ := byte_some l i2 h2 c2 d2 hl
    rw [e3]
    simp only [Option.bind_some]
    obtain ⟨x4, i4, h4, e4, a4, b4, c4, d4⟩ := byte_some l i3 h3 c3 d3 hl
    rw [e4]
    simp only [Option.bind_some]
    rw [if_neg (by omega)]
    have hs : 0 ≤ wrap64 (wrap64 (wrap64 (wrap64 (x1 * 16777216) + wrap64 (x2 * 65536)) + wrap64 (x3 * 256)) + x4) := by unfold wrap64; omega
    refine ⟨_, _, _, rfl, Int.tmod_nonneg _ hs, ?_, c4, d4⟩
    rw [Int.tmod_eq_emod_of_nonneg hs]
    exact Int.emod_lt_of_pos _ (by omega)

theorem s_rd (l : List ByteArray) (i : Int) (hi : i.toNat < l.length) : rdOf ByteArray.empty l i = l[i.toNat] := by
  unfold rdOf
  rw [List.getD_eq_getElem?_getD, List.getElem?_eq_getElem hi]
  rfl
theorem s_eq_loop (l : List ByteArray) (hl : l.length ≤ 1048576) : ∀ (d k : Nat) (i : Int), 0 ≤ i → (l.length : Int) - i = d → d < k → laws_sameTexts.l0 k l l i = some true := by
  intro d
  induction d with
  | zero =>
    intro k i h0 hd hk
    obtain ⟨k, rfl⟩ : ∃ m, k = m + 1 := ⟨k - 1, by omega⟩
    simp only [laws_sameTexts.l0]
    rw [if_neg (by omega)]
  | succ d ih =>
    intro k i h0 hd hk
    obtain ⟨k, rfl⟩ : ∃ m, k = m + 1 := ⟨k - 1, by omega⟩
    have hw : wrap64 (i + 1) = i + 1 := by unfold wrap64; omega
    have hp : i < (l.length : Int) := by omega
    simp only [laws_sameTexts.l0, hw, if_pos hp, if_pos h0, if_true]
    exact ih k (i + 1) (by omega) (by omega) (by omega)
theorem s_eq (l : List ByteArray) (hl : l.length ≤ 1048576) (k : Nat) (hk : l.length < k) : laws_sameTexts.f k l l = some true := by
  unfold laws_sameTexts.f
  rw [if_pos rfl]
  exact s_eq_loop l hl l.length k 0 (by omega) (by omega) hk
theorem n_same : ∀ (k : Nat) (s : ByteArray) (i : Int), spec_NameOk.l0 k s i = impl_NameOk.l0 k s i
  | 0, _, _ => rfl
  | k + 1, s, i => by simp only [spec_NameOk.l0, impl_NameOk.l0, n_same k, spec_l01In.f, impl_within.f]
theorem n_impl (s : ByteArray) (hs : s.size ≤ 4294967296) (d : Nat) : impl_NameOk.f (s.size + 1 + d) s = some (impl_SplitPath.nm s) := by
  induction d with
  | zero => exact impl_SplitPath.name s hs
  | succ d ih => exact impl_NameOk.mono s _ _ ih
theorem n_is (s : ByteArray) (hs : s.size ≤ 4294967296) (k : Nat) (hk : s.size < k) : spec_NameOk.f k s = some (impl_SplitPath.nm s) := by
  have h := n_impl s hs (k - (s.size + 1))
  rw [show s.size + 1 + (k - (s.size + 1)) = k by omega] at h
  unfold spec_NameOk.f
  rw [n_same]
  exact h
def pcs (s : ByteArray) : List ByteArray := Lib.splitB ⟨#[47]⟩ 0 (Lib.countB s ⟨#[47]⟩) s
theorem occ1 (l : List UInt8) (j : Nat) : Lib.occAt l [47] j = (l[j]? == some 47) := by
  unfold Lib.occAt
  rw [← List.head?_drop]
  cases l.drop j with
  | nil => rfl
  | cons x r =>
    by_cases h : x = 47
    · subst h
      rfl
    · have h2 : ¬ (47 : UInt8) = x := fun e => h e.symm
      simp [List.isPrefixOf, h, h2]
      rw [beq_eq_false_iff_ne.mpr h2, beq_eq_false_iff_ne.mpr h]
theorem pcs_none (s : ByteArray) (h : ∀ j : Nat, s.data.toList[j]? ≠ some 47) : pcs s = [s] := by
  have hi : Lib.indexB s ⟨#[47]⟩ = -1 := Lib.index_none (fun j _ => by
    show Lib.occAt s.data.toList [47] j = false
    rw [occ1]
    exact beq_eq_false_iff_ne.mpr (h j))
  unfold pcs
  rw [Lib.splitB_miss _ _ _ _ hi]
theorem pcs_hit (s : ByteArray) (i : Nat) (h1 : s.data.toList[i]? = some 47) (h2 : ∀ j, j < i → s.data.toList[j]? ≠ some 47) : pcs s = s.extract 0 i :: pcs (s.extract (i + 1) s.size) := by
  have hi : Lib.indexB s ⟨#[47]⟩ = i := Lib.index_first (i := i) (by
      have := (List.getElem?_eq_some_iff.mp h1).1
      omega) (by
      show Lib.occAt s.data.toList [47] i = true
      rw [occ1, h1]
      rfl) (fun j hj => by
      show Lib.occAt s.data.toList [47] j = false
      rw [occ1]
      exact beq_eq_false_iff_ne.mpr (h2 j hj))
  have hc := Lib.countB_hit s ⟨#[47]⟩ i (by decide) hi
  unfold pcs
  rw [hc, Nat.add_comm, Lib.splitB_hit _ _ _ _ i hi]
  rfl
theorem pat_get (p : ByteArray) (b j : Nat) : (p.extract b p.size).data.toList[j]? = p.data.toList[b + j]? := by
  rw [Lib.extract_to_end, List.getElem?_drop]
theorem pat_none (p : ByteArray) (b : Nat) (h : ∀ j, b ≤ j → p.data.toList[j]? ≠ some 47) : pcs (p.extract b p.size) = [p.extract b p.size] :=
  pcs_none _ (fun j => by rw [pat_get]; exact h _ (by omega))
theorem pat_hit (p : ByteArray) (b i : Nat) (hb : b ≤ i) (hi : i < p.size) (h1 : p.data.toList[i]? = some 47) (h2 : ∀ j, b ≤ j → j < i → p.data.toList[j]? ≠ some 47) : pcs (p.extract b p.size) = p.extract b i :: pcs (p.extract (i + 1) p.size) := by
  have h := pcs_hit (p.extract b p.size) (i - b) (by rw [pat_get, show b + (i - b) = i by omega]; exact h1) (fun j hj => by rw [pat_get]; exact h2 _ (by omega) (by omega))
  rw [h]
  have e1 : (p.extract b p.size).extract 0 (i - b) = p.extract b i := by
    rw [ByteArray.extract_extract]
    congr 1
    omega
  have e2 : (p.extract b p.size).extract (i - b + 1) (p.extract b p.size).size = p.extract (i + 1) p.size := by
    rw [ByteArray.extract_extract, ByteArray.size_extract]
    congr 1
    · omega
    · omega
  rw [e1, e2]
theorem bt_47 (p : ByteArray) (i : Int) (h : i.toNat < p.size) : bt p i = 47 ↔ p.data.toList[i.toNat]? = some 47 := by
  have e : p.data.toList[i.toNat]? = some (p[i.toNat]'h) := by
    rw [List.getElem?_eq_getElem (by rw [← Lib.size_eq]; exact h)]
    rfl
  rw [e]
  unfold bt
  rw [dif_pos h]
  constructor
  · intro h2
    congr 1
    exact UInt8.toNat_inj.mp (by have : (47 : UInt8).toNat = 47 := rfl
                                 omega)
  · intro h2
    rw [Option.some.inj h2]
    rfl
def fin (acc ps : List ByteArray) : List ByteArray × Bool :=
  if ps.all impl_SplitPath.nm = true then (if acc.length + ps.length > 4 then ([], false) else (acc ++ ps, true)) else ([], false)
theorem fin_cons (acc : List ByteArray) (x : ByteArray) (ps : List ByteArray) (h : impl_SplitPath.nm x = true) : fin (acc ++ [x]) ps = fin acc (x :: ps) := by
  unfold fin
  simp only [List.all_cons, h, Bool.true_and, List.length_append, List.length_cons, List.length_nil, List.append_assoc, List.singleton_append]
  rw [show acc.length + (0 + 1) + ps.length = acc.length + (ps.length + 1) by omega]
theorem fin_no (acc : List ByteArray) (x : ByteArray) (ps : List ByteArray) (h : impl_SplitPath.nm x = false) : fin acc (x :: ps) = ([], false) := by
  unfold fin
  simp [h]
theorem sp_loop (p : ByteArray) (hp : p.size ≤ 4294967280) : ∀ (d k : Nat) (acc : List ByteArray) (b i : Int), 1 ≤ b → b ≤ i → i ≤ p.size → (p.size : Int) + 1 - i = d → (acc.length : Int) ≤ i → 2 * d + p.size + 4 < k →
    (∀ j : Nat, b ≤ (j : Int) → (j : Int) < i → p.data.toList[j]? ≠ some 47) → spec_SplitPath.l0 k p acc b i = some (fin acc (pcs (p.extract b.toNat p.size))) := by
  intro d
  induction d with
  | zero =>
    intro k acc b i h1 h2 h3 h4 h5 hk hn
    omega
  | succ d ih =>
    intro k acc b i h1 h2 h3 h4 h5 hk hn
    obtain ⟨k, rfl⟩ : ∃ m, k = m + 2 := ⟨k - 2, by omega⟩
    have hw : wrap64 (i + 1) = i + 1 := by unfold wrap64; omega
    have hsz : (p.extract b.toNat i.toNat).size ≤ p.size := by rw [ByteArray.size_extract]; omega
    have hN := n_is (p.extract b.toNat i.toNat) (by omega) k (by omega)
    simp only [spec_SplitPath.l0, spec_SplitPath.j2, if_pos h3, hw, hN, Option.bind_some]
    rw [if_pos (show 0 ≤ b by omega), if_pos h2]
    by_cases c : i < (p.size : Int)
    · rw [if_pos c, if_pos (show 0 ≤ i by omega)]
      have hlt : i.toNat < p.size := by omega
      by_cases h47 : bt p i = 47
      · rw [if_neg (by rw [h47]; decide)]
        have hh := pat_hit p b.toNat i.toNat (by omega) hlt ((bt_47 p i hlt).mp h47) (fun j hj hj2 => hn j (by omega) (by omega))
        rw [hh]
        cases hx : impl_SplitPath.nm (p.extract b.toNat i.toNat) with
        | true =>
          rw [if_pos rfl, if_pos (by omega), ih k _ (i + 1) (i + 1) (by omega) (by omega) (by omega) (by omega) (by simp; omega) (by omega) (fun j hj hj2 => by omega), show (i + 1).toNat = i.toNat + 1 by omega, fin_cons _ _ _ hx]
        | false =>
          rw [if_neg (by decide), fin_no _ _ _ hx]
      · rw [if_pos (bne_iff_ne.mpr h47)]
        exact ih k acc b (i + 1) h1 (by omega) (by omega) (by omega) (by omega) (by omega) (fun j hj hj2 => by
          by_cases e : (j : Int) = i
          · have ej : j = i.toNat := by omega
            subst ej
            exact fun e2 => h47 ((bt_47 p i hlt).mpr e2)
          · exact hn j hj (by omega))
    · have hi : i = (p.size : Int) := by omega
      rw [if_neg c, if_neg (by decide)]
      have hh := pat_none p b.toNat (fun j hj => by
        by_cases e : j < p.size
        · exact hn j (by omega) (by omega)
        · rw [List.getElem?_eq_none (by rw [← Lib.size_eq]; omega)]
          exact fun e => by cases e)
      have ei : i.toNat = p.size := by omega
      rw [hh, ei]
      rw [ei] at hN
      cases hx : impl_SplitPath.nm (p.extract b.toNat p.size) with
      | true =>
        obtain ⟨k, rfl⟩ : ∃ m, k = m + 1 := ⟨k - 1, by omega⟩
        rw [if_pos rfl, if_pos (by omega)]
        simp only [spec_SplitPath.l0]
        rw [if_neg (by omega)]
        unfold fin
        simp only [List.all_cons, hx, List.all_nil, Bool.and_true, if_true, List.length_append, List.length_cons, List.length_nil]
        by_cases c4 : acc.length + (0 + 1) > 4
        · rw [if_pos (by omega), if_pos c4]
        · rw [if_neg (by omega), if_neg c4]
      | false =>
        rw [if_neg (by decide), fin_no _ _ _ hx]
/-- What both say of a path. -/
def spV (p : ByteArray) : List ByteArray × Bool :=
  if Lib.hasPrefix p.data.toList [47] = true then (if p.size = 1 then ([], true) else fin [] (pcs (p.extract 1 p.size))) else ([], false)
theorem sp_pre (p : ByteArray) : Lib.hasPrefix p.data.toList [47] = (p.data.toList[0]? == some 47) := by
  have := occ1 p.data.toList 0
  unfold Lib.occAt at this
  rw [List.drop_zero] at this
  exact this
theorem sp_spec (p : ByteArray) (hp : p.size ≤ 4294967280) (k : Nat) (hk : 3 * p.size + 10 < k) : spec_SplitPath.f k p = some (spV p) := by
  obtain ⟨k, rfl⟩ : ∃ m, k = m + 1 := ⟨k - 1, by omega⟩
  unfold spec_SplitPath.f spV
  rw [sp_pre]
  simp only [Option.bind_some, spec_SplitPath.j0]
  by_cases c0 : (p.size : Int) = 0
  · rw [if_pos c0, List.getElem?_eq_none (by rw [← Lib.size_eq]; omega)]
    simp
  · rw [if_neg c0, if_pos (by omega)]
    have hb := bt_47 p 0 (by simp; omega)
    rw [show (0 : Int).toNat = 0 from rfl] at hb
    by_cases h : bt p 0 = 47
    · rw [hb.mp h, h]
      simp only [bne_self_eq_false, Bool.false_eq_true, if_false, beq_self_eq_true, if_true]
      by_cases c1 : p.size = 1
      · have e : p.toList = [47] := by
          rw [Lib.toList_data]
          have h3 := hb.mp h
          have h4 : p.data.toList.length = 1 := by rw [← Lib.size_eq]; exact c1
          match hl : p.data.toList, h4, h3 with
          | [x], _, h3 => simpa using h3
        rw [if_pos e, if_pos c1]
      · have e : ¬ p.toList = [47] := fun e => c1 (by rw [Lib.size_eq, ← Lib.toList_data, e]; rfl)
        rw [if_neg e, if_neg c1]
        exact sp_loop p hp p.size k [] 1 1 (by omega) (by omega) (by omega) (by omega) (by simp) (by omega) (fun j hj hj2 => by omega)
    · have h2 : (p.data.toList[0]? == some 47) = false := beq_eq_false_iff_ne.mpr (fun e => h (hb.mpr e))
      rw [h2, if_pos (bne_iff_ne.mpr h)]
      simp
theorem sp_impl (p : ByteArray) (hp : p.size ≤ 4294967280) (k : Nat) : impl_SplitPath.f k p = some (spV p) := by
  unfold impl_SplitPath.f spV
  rw [if_pos (by omega)]
  by_cases h : Lib.hasPrefix p.data.toList [47] = true
  · rw [if_pos h, if_pos h]
    have h0 := h
    rw [sp_pre] at h0
    have h1 : p.data.toList[0]? = some 47 := beq_iff_eq.mp h0
    have hpos : 0 < p.size := by
      rw [Lib.size_eq]
      exact (List.getElem?_eq_some_iff.mp h1).1
    have hr : impl_SplitPath.rest p = p.extract 1 p.size := by
      unfold impl_SplitPath.rest Lib.trimPrefix
      rw [if_pos h]
      apply ByteArray.ext
      apply Array.toList_inj.mp
      rw [Lib.extract_to_end]
      rfl
    have hps : impl_SplitPath.ps p = pcs (p.extract 1 p.size) := by
      unfold impl_SplitPath.ps pcs
      rw [hr]
    rw [hr, hps, Lib.toList_data, Lib.extract_to_end]
    by_cases c1 : p.size = 1
    · rw [if_pos c1, if_pos (List.drop_eq_nil_of_le (by rw [← Lib.size_eq]; omega))]
    · rw [if_neg c1, if_neg (fun e => c1 (by have := List.drop_eq_nil_iff.mp e; rw [← Lib.size_eq] at this; omega))]
      have ha : ∀ ps : List ByteArray, (ps.any fun s => !impl_SplitPath.nm s) = !(ps.all impl_SplitPath.nm) := fun ps => by rw [List.not_all_eq_any_not]
      generalize pcs (p.extract 1 p.size) = ps
      unfold fin
      rw [ha, List.length_nil, Nat.zero_add, List.nil_append]
      cases ps.all impl_SplitPath.nm with
      | true =>
        by_cases c4 : ps.length > 4
        · rw [if_pos (show (ps.length : Int) > 4 by omega), if_pos rfl, if_pos c4]
        · rw [if_neg (show ¬ (ps.length : Int) > 4 by omega), if_pos rfl, if_neg c4]
          simp
      | false => simp
  · rw [if_neg h, if_neg h]
theorem spV_len (p : ByteArray) : (spV p).1.length ≤ 4 := by
  unfold spV fin
  repeat' split
  all_goals simp
  omega
def jp : List ByteArray → ByteArray
  | [] => ⟨#[]⟩
  | x :: l => ((⟨#[47]⟩ : ByteArray) ++ x) ++ jp l
theorem jp_list : ∀ l : List ByteArray, (jp l).data.toList = l.flatMap fun x => 47 :: x.data.toList
  | [] => rfl
  | x :: l => by
    rw [jp, ByteArray.data_append, ByteArray.data_append, Array.toList_append, Array.toList_append, jp_list l, List.flatMap_cons]
    rfl
theorem jp_size : ∀ l : List ByteArray, (jp l).size = l.length + (l.map ByteArray.size).sum
  | [] => rfl
  | x :: l => by
    have h : (⟨#[47]⟩ : ByteArray).size = 1 := rfl
    rw [jp, ByteArray.size_append, ByteArray.size_append, jp_size l, h]
    simp only [List.length_cons, List.map_cons, List.sum_cons]
    omega
theorem jp_join (g : ByteArray → List UInt8) : ∀ (l : List ByteArray), l ≠ [] → 47 :: Lib.join (l.map g) [47] = l.flatMap fun x => 47 :: g x
  | [], h => absurd rfl h
  | [x], _ => by simp [Lib.join, List.intercalate, List.intersperse]
  | x :: y :: l, _ => by
    have ih := jp_join g (y :: l) (by simp)
    rw [List.flatMap_cons, ← ih]
    simp [Lib.join, List.intercalate, List.intersperse]
theorem jp_loop (l : List ByteArray) (hl : l.length ≤ 1048576) : ∀ (d k : Nat) (acc : ByteArray) (i : Int), 0 ≤ i → (l.length : Int) - i = d → acc.size + (jp (l.drop i.toNat)).size ≤ 67108864 → d < k →
    spec_JoinPath.l0 k l acc i = some (acc ++ jp (l.drop i.toNat)) := by
  intro d
  induction d with
  | zero =>
    intro k acc i h0 h1 hs hk
    obtain ⟨k, rfl⟩ : ∃ m, k = m + 1 := ⟨k - 1, by omega⟩
    have c : ¬ i < (l.length : Int) := by omega
    have hd : l.drop i.toNat = [] := List.drop_eq_nil_of_le (by omega)
    simp only [spec_JoinPath.l0, if_neg c, hd, jp]
    rw [show (ByteArray.mk #[]) = ByteArray.empty from rfl, ByteArray.append_empty]
  | succ d ih =>
    intro k acc i h0 h1 hs hk
    obtain ⟨k, rfl⟩ : ∃ m, k = m + 1 := ⟨k - 1, by omega⟩
    have hi : i.toNat < l.length := by omega
    have hw : wrap64 (i + 1) = i + 1 := by unfold wrap64; omega
    have hd : l.drop i.toNat = l[i.toNat] :: l.drop (i.toNat + 1) := List.drop_eq_getElem_cons hi
    have ht : (i + 1).toNat = i.toNat + 1 := by omega
    have h47 : (⟨#[47]⟩ : ByteArray).size = 1 := rfl
    rw [hd, jp, ByteArray.size_append, ByteArray.size_append, h47, ← s_rd l i hi] at hs
    have c0 : i < (l.length : Int) := by omega
    have c1 : acc.size + 1 ≤ 9223372036854775807 := by omega
    have c2 : (acc ++ (⟨#[47]⟩ : ByteArray)).size + (rdOf ByteArray.empty l i).size ≤ 9223372036854775807 := by rw [ByteArray.size_append, h47]; omega
    have e := ih k ((acc ++ (⟨#[47]⟩ : ByteArray)) ++ rdOf ByteArray.empty l i) (i + 1) (by omega) (by omega) (by rw [ht, ByteArray.size_append, ByteArray.size_append, h47]; omega) (by omega)
    simp only [spec_JoinPath.l0, if_pos c0, if_pos c1, if_pos h0, if_pos c2, hw, e, ht]
    rw [hd, jp, ← s_rd l i hi, ByteArray.append_assoc, ByteArray.append_assoc, ByteArray.append_assoc]
/-- What both say of the joined names. -/
def jv : List ByteArray → ByteArray
  | [] => ⟨#[47]⟩
  | x :: l => jp (x :: l)
theorem jv_spec (l : List ByteArray) (hl : l.length ≤ 1048576) (hs : (l.map ByteArray.size).sum ≤ 33554432) (k : Nat) (hk : l.length < k) : spec_JoinPath.f k l = some (jv l) := by
  cases l with
  | nil => rfl
  | cons x l =>
    have hz := jp_size (x :: l)
    have e := jp_loop (x :: l) hl (x :: l).length k ⟨#[]⟩ 0 (by omega) (by omega) (by rw [show (0 : Int).toNat = 0 from rfl, List.drop_zero, show (⟨#[]⟩ : ByteArray).size = 0 from rfl]; omega) hk
    unfold spec_JoinPath.f
    rw [if_neg (by rw [List.length_cons]; omega), e]
    rw [show (ByteArray.mk #[]) = ByteArray.empty from rfl, ByteArray.empty_append, show (0 : Int).toNat = 0 from rfl, List.drop_zero]
    rfl
theorem jv_impl (l : List ByteArray) (hl : l.length ≤ 1048576) (hs : (l.map ByteArray.size).sum ≤ 33554432) (k : Nat) : impl_JoinPath.f k l = some (jv l) := by
  cases l with
  | nil => rfl
  | cons x l =>
    have hz := jp_size (x :: l)
    have hj := jp_join (·.data.toList) (x :: l) (by simp)
    rw [← jp_list (x :: l)] at hj
    have hz2 : 1 + (Lib.join ((x :: l).map (·.data.toList)) [47]).length = (jp (x :: l)).size := by
      have := congrArg List.length hj
      rw [List.length_cons] at this
      rw [Nat.add_comm, this, Array.length_toList]
      rfl
    unfold impl_JoinPath.f
    rw [if_pos ⟨by omega, by omega⟩]
    congr 1
    apply ByteArray.ext
    apply Array.toList_inj.1
    rw [show jv (x :: l) = jp (x :: l) from rfl, ← hj, ByteArray.data_append, Array.toList_append]
    simp
theorem nm_loop (s : ByteArray) : ∀ (k : Nat) (i : Int), impl_NameOk.l0 k s i = some true → s.size ≤ 8 := by
  intro k
  induction k with
  | zero => intro i h; simp [impl_NameOk.l0] at h
  | succ k ih =>
    intro i h
    simp only [impl_NameOk.l0, impl_within.f] at h
    repeat' split at h
    all_goals first
      | exact ih _ h
      | (simp at h; done)
      | (simp only [Option.bind_some, Option.some.injEq, decide_eq_true_eq] at h; omega)
theorem nm_size (s : ByteArray) (h : impl_SplitPath.nm s = true) : s.size ≤ 8 := by
  unfold impl_SplitPath.nm impl_NameOk.f at h
  cases e : impl_NameOk.l0 (s.size + 1) s 0 with
  | none => rw [e] at h; cases h
  | some b =>
    rw [e] at h
    obtain rfl : b = true := h
    exact nm_loop s _ _ e
theorem spV_small (p : ByteArray) : ∀ x ∈ (spV p).1, x.size ≤ 8 := by
  intro x hx
  unfold spV fin at hx
  repeat' split at hx
  all_goals first
    | (simp at hx; done)
    | (rename_i h _; rw [List.nil_append] at hx; exact nm_size x (List.all_eq_true.mp h x hx))
theorem sum_le (c : Nat) : ∀ l : List ByteArray, (∀ x ∈ l, x.size ≤ c) → (l.map ByteArray.size).sum ≤ l.length * c := by
  intro l
  induction l with
  | nil => intro _; simp
  | cons x l ih =>
    intro h
    have h1 := h x (by simp)
    have h2 := ih (fun y hy => h y (by simp [hy]))
    simp only [List.map_cons, List.sum_cons, List.length_cons, Nat.add_mul]
    omega
/-- What both say of a path's parent and name. -/
def ppV (p : ByteArray) : ByteArray × ByteArray × Bool :=
  if (spV p).2 = true then (if ((spV p).1.length : Int) = 0 then ((⟨#[]⟩ : ByteArray), (⟨#[]⟩ : ByteArray), false) else (jv ((spV p).1.take ((spV p).1.length - 1)), rdOf ByteArray.empty (spV p).1 ((spV p).1.length - 1), true)) else ((⟨#[]⟩ : ByteArray), (⟨#[]⟩ : ByteArray), false)
theorem pp_take (p : ByteArray) : (((spV p).1.take ((spV p).1.length - 1)).map ByteArray.size).sum ≤ 32 ∧ ((spV p).1.take ((spV p).1.length - 1)).length ≤ 4 := by
  have h1 := spV_len p
  have h3 : ((spV p).1.take ((spV p).1.length - 1)).length ≤ 4 := by rw [List.length_take]; omega
  have h2 := sum_le 8 ((spV p).1.take ((spV p).1.length - 1)) (fun x hx => spV_small p x (List.mem_of_mem_take hx))
  exact ⟨by omega, h3⟩
theorem pp_impl (p : ByteArray) (hp : p.size ≤ 4294967280) (k : Nat) : impl_ParentPath.f k p = some (ppV p) := by
  have h1 := spV_len p
  have h2 := pp_take p
  unfold impl_ParentPath.f ppV
  rw [sp_impl p hp k, Option.bind_some]
  by_cases c : (spV p).2 = true
  · rw [if_pos c, if_pos c]
    by_cases c0 : ((spV p).1.length : Int) = 0
    · rw [if_pos c0, if_pos c0]
    · have hw : wrap64 (((spV p).1.length : Int) - 1) = ((spV p).1.length : Int) - 1 := by unfold wrap64; omega
      have ht : (((spV p).1.length : Int) - 1).toNat = (spV p).1.length - 1 := by omega
      rw [if_neg c0, if_neg c0, hw, if_pos (by omega), if_pos (by omega), ht, jv_impl _ (by omega) (by omega) k, Option.bind_some, if_pos (by omega)]
  · rw [if_neg c, if_neg c]
theorem ex_app0 (p : ByteArray) (a b c : Nat) (h1 : a ≤ b) (h2 : b ≤ c) : p.extract a b ++ p.extract b c = p.extract a c := by
  rw [ByteArray.extract_append_extract, Nat.min_eq_left h1, Nat.max_eq_right h2]
theorem ex_one (s : ByteArray) (i : Nat) (h : s.data.toList[i]? = some 47) : s.extract i (i + 1) = ⟨#[47]⟩ := by
  obtain ⟨hi, e⟩ := List.getElem?_eq_some_iff.mp h
  have hi2 : i < s.size := by rw [Lib.size_eq]; exact hi
  refine ByteArray.ext_getElem (by rw [ByteArray.size_extract]; show min (i + 1) s.size - i = 1; omega) fun j hj hj' => ?_
  have hj1 : j < 1 := hj'
  obtain rfl : j = 0 := by omega
  rw [ByteArray.getElem_extract]
  exact e
theorem jp_pcs : ∀ (n : Nat) (s : ByteArray), s.size = n → jp (pcs s) = (⟨#[47]⟩ : ByteArray) ++ s ∧ ∀ x ∈ pcs s, ∀ j : Nat, x.data.toList[j]? ≠ some 47 := by
  intro n
  induction n using Nat.strongRecOn with
  | ind n ih =>
    intro s hs
    by_cases h : ∃ x ∈ s.data.toList, (x == 47) = true
    · have hl := List.findIdx_lt_length_of_exists h
      have hg := List.findIdx_getElem (w := hl)
      have h1 : s.data.toList[List.findIdx (fun x => x == 47) s.data.toList]? = some 47 := by
        rw [List.getElem?_eq_getElem hl]
        exact congrArg some (beq_iff_eq.mp hg)
      have h2 : ∀ j, j < List.findIdx (fun x => x == 47) s.data.toList → s.data.toList[j]? ≠ some 47 := fun j hj h2 => by
        have := List.not_of_lt_findIdx hj
        obtain ⟨hj2, e2⟩ := List.getElem?_eq_some_iff.mp h2
        rw [e2] at this
        exact absurd this (by decide)
      have hi : List.findIdx (fun x => x == 47) s.data.toList < s.size := by rw [Lib.size_eq]; exact hl
      generalize List.findIdx (fun x => x == 47) s.data.toList = i at h1 h2 hi
      have e := pcs_hit s i h1 h2
      obtain ⟨g1, g2⟩ := ih _ (by rw [ByteArray.size_extract]; omega) (s.extract (i + 1) s.size) rfl
      rw [e]
      refine ⟨?_, fun x hx => ?_⟩
      · rw [jp, g1, ByteArray.append_assoc, ← ex_one s i h1, ex_app0 s i (i + 1) s.size (by omega) (by omega), ex_app0 s 0 i s.size (by omega) (by omega), ByteArray.extract_zero_size]
      · rcases List.mem_cons.mp hx with hx | hx
        · subst hx
          intro j hj
          obtain ⟨hj1, hj2⟩ := List.getElem?_eq_some_iff.mp hj
          have hsz : j < i := by
            have : j < (s.extract 0 i).size := by rw [Lib.size_eq]; exact hj1
            rw [ByteArray.size_extract] at this
            omega
          refine h2 j hsz ?_
          have hjs : j < s.data.toList.length := by rw [← Lib.size_eq]; omega
          rw [List.getElem?_eq_getElem hjs]
          have : (s.extract 0 i)[j]'(by rw [Lib.size_eq]; exact hj1) = s[j]'(by omega) := by
            rw [ByteArray.getElem_extract]
            congr 1
            omega
          exact congrArg some (this.symm.trans hj2)
        · exact g2 x hx
    · have hn : ∀ j : Nat, s.data.toList[j]? ≠ some 47 := fun j hj => h ⟨47, List.mem_of_getElem? hj, rfl⟩
      rw [pcs_none s hn]
      refine ⟨?_, fun x hx => ?_⟩
      · rw [jp, jp, show (ByteArray.mk #[]) = ByteArray.empty from rfl, ByteArray.append_empty]
      · rw [List.mem_singleton.mp hx]
        exact hn
theorem app_get_left (a b : ByteArray) (j : Nat) (h : j < a.size) : (a ++ b).data.toList[j]? = a.data.toList[j]? := by
  rw [ByteArray.data_append, Array.toList_append, List.getElem?_append_left (by rw [← Lib.size_eq]; exact h)]
theorem app_ex_right (a b : ByteArray) : (a ++ b).extract a.size (a ++ b).size = b := by
  apply ByteArray.ext
  apply Array.toList_inj.mp
  rw [Lib.extract_to_end, ByteArray.data_append, Array.toList_append, Lib.size_eq, List.drop_left]
theorem app_ex_left (a b : ByteArray) : (a ++ b).extract 0 a.size = a := by
  refine ByteArray.ext_getElem (by rw [ByteArray.size_extract, ByteArray.size_append]; omega) fun j hj hj' => ?_
  rw [ByteArray.getElem_extract]
  simp only [Nat.zero_add]
  rw [ByteArray.getElem_append_left hj']
theorem pcs_jp : ∀ (l : List ByteArray) (x : ByteArray), (∀ y ∈ x :: l, ∀ j : Nat, y.data.toList[j]? ≠ some 47) → pcs (x ++ jp l) = x :: l := by
  intro l
  induction l with
  | nil =>
    intro x h
    rw [jp, show (ByteArray.mk #[]) = ByteArray.empty from rfl, ByteArray.append_empty, pcs_none x (h x (by simp))]
  | cons y l ih =>
    intro x h
    have e : x ++ jp (y :: l) = (x ++ ⟨#[47]⟩) ++ (y ++ jp l) := by rw [jp, ByteArray.append_assoc, ByteArray.append_assoc]
    have hz : (x ++ (⟨#[47]⟩ : ByteArray)).size = x.size + 1 := by rw [ByteArray.size_append]; rfl
    have h1 : (x ++ jp (y :: l)).data.toList[x.size]? = some 47 := by
      rw [e, app_get_left _ _ _ (by omega), ByteArray.data_append, Array.toList_append, List.getElem?_append_right (by rw [← Lib.size_eq]; omega), ← Lib.size_eq, Nat.sub_self]
      rfl
    have h2 : ∀ j, j < x.size → (x ++ jp (y :: l)).data.toList[j]? ≠ some 47 := fun j hj => by
      rw [app_get_left _ _ _ hj]
      exact h x (by simp) j
    rw [pcs_hit _ x.size h1 h2, app_ex_left]
    have e3 := app_ex_right (x ++ (⟨#[47]⟩ : ByteArray)) (y ++ jp l)
    rw [hz, ← e] at e3
    rw [e3, ih y (fun z hz => h z (by simp [List.mem_cons] at hz ⊢; exact .inr hz))]
theorem nm_loop1 (s : ByteArray) : ∀ (k : Nat) (i : Int), impl_NameOk.l0 k s i = some true → 1 ≤ s.size := by
  intro k
  induction k with
  | zero => intro i h; simp [impl_NameOk.l0] at h
  | succ k ih =>
    intro i h
    simp only [impl_NameOk.l0, impl_within.f] at h
    repeat' split at h
    all_goals first
      | exact ih _ h
      | (simp at h; done)
      | (simp only [Option.bind_some, Option.some.injEq, decide_eq_true_eq] at h; omega)
theorem nm_one (s : ByteArray) (h : impl_SplitPath.nm s = true) : 1 ≤ s.size := by
  unfold impl_SplitPath.nm impl_NameOk.f at h
  cases e : impl_NameOk.l0 (s.size + 1) s 0 with
  | none => rw [e] at h; cases h
  | some b =>
    rw [e] at h
    obtain rfl : b = true := h
    exact nm_loop1 s _ _ e
/-- A right path: it is the joined names; each name is right; its parent's names are all but the last. -/
theorem sp_right (p : ByteArray) (h : (spV p).2 = true) : jv (spV p).1 = p ∧ (∀ x ∈ (spV p).1, impl_SplitPath.nm x = true) ∧
    ∀ n : Nat, (spV (jv ((spV p).1.take n))) = ((spV p).1.take n, true) := by
  have h0 := sp_pre p
  have hroot : spV (⟨#[47]⟩ : ByteArray) = ([], true) := by
    unfold spV
    rw [if_pos (show Lib.hasPrefix (⟨#[47]⟩ : ByteArray).data.toList [47] = true from rfl), if_pos (show (⟨#[47]⟩ : ByteArray).size = 1 from rfl)]
  by_cases c : Lib.hasPrefix p.data.toList [47] = true
  · have h47 : p.data.toList[0]? = some 47 := by rw [c] at h0; exact beq_iff_eq.mp h0.symm
    have hpos : 0 < p.size := by rw [Lib.size_eq]; exact (List.getElem?_eq_some_iff.mp h47).1
    have hp : (⟨#[47]⟩ : ByteArray) ++ p.extract 1 p.size = p := by
      rw [← ex_one p 0 h47, ex_app0 p 0 (0 + 1) p.size (by omega) (by omega), ByteArray.extract_zero_size]
    by_cases c1 : p.size = 1
    · have e : spV p = ([], true) := by unfold spV; rw [if_pos c, if_pos c1]
      rw [e]
      refine ⟨?_, (fun x hx => by cases hx), fun n => ?_⟩
      · have : p.extract 1 p.size = ByteArray.empty := by
          refine ByteArray.ext_getElem (by rw [ByteArray.size_extract]; show min p.size p.size - 1 = 0; omega) fun j hj hj' => ?_
          exact absurd hj' (Nat.not_lt_zero _)
        rw [this, ByteArray.append_empty] at hp
        exact hp
      · rw [List.take_nil]
        exact hroot
    · have e : spV p = fin [] (pcs (p.extract 1 p.size)) := by unfold spV; rw [if_pos c, if_neg c1]
      rw [e] at h ⊢
      obtain ⟨g1, g2⟩ := jp_pcs _ (p.extract 1 p.size) rfl
      unfold fin at h ⊢
      by_cases c2 : (pcs (p.extract 1 p.size)).all impl_SplitPath.nm = true
      · rw [if_pos c2] at h ⊢
        by_cases c3 : ([] : List ByteArray).length + (pcs (p.extract 1 p.size)).length > 4
        · rw [if_pos c3] at h; cases h
        · rw [if_neg c3, List.nil_append]
          dsimp only
          have hall : ∀ x ∈ pcs (p.extract 1 p.size), impl_SplitPath.nm x = true := fun x hx => List.all_eq_true.mp c2 x hx
          generalize pcs (p.extract 1 p.size) = ps at g1 g2 c2 c3 hall
          refine ⟨?_, hall, fun n => ?_⟩
          · cases ps with
            | nil =>
              have : (jp []).size = ((⟨#[47]⟩ : ByteArray) ++ p.extract 1 p.size).size := by rw [g1]
              rw [hp] at this
              have h00 : (jp []).size = 0 := rfl
              omega
            | cons x l => exact g1.trans hp
          · have hm : ∀ y ∈ ps.take n, y ∈ ps := fun y hy => List.mem_of_mem_take hy
            have hlen : (ps.take n).length ≤ 4 := by rw [List.length_take]; simp only [List.length_nil] at c3; omega
            generalize ps.take n = qs at hm hlen
            cases qs with
            | nil => exact hroot
            | cons x l =>
              have ej : jv (x :: l) = (⟨#[47]⟩ : ByteArray) ++ (x ++ jp l) := by
                show jp (x :: l) = _
                rw [jp, ByteArray.append_assoc]
              have h1z : (⟨#[47]⟩ : ByteArray).size = 1 := rfl
              have hx1 := nm_one x (hall x (hm x (by simp)))
              have ep : Lib.hasPrefix (jv (x :: l)).data.toList [47] = true := by
                rw [sp_pre, ej, app_get_left _ _ _ (by rw [h1z]; omega)]
                rfl
              have er : (jv (x :: l)).extract 1 (jv (x :: l)).size = x ++ jp l := by
                rw [ej]
                exact app_ex_right (⟨#[47]⟩ : ByteArray) (x ++ jp l)
              have es : ¬ (jv (x :: l)).size = 1 := by
                rw [ej, ByteArray.size_append, ByteArray.size_append, h1z]
                omega
              unfold spV
              rw [if_pos ep, if_neg es, er, pcs_jp l x (fun y hy => g2 y (hm y hy))]
              unfold fin
              rw [if_pos (List.all_eq_true.mpr fun y hy => hall y (hm y hy)), if_neg (by simp only [List.length_nil] at *; omega), List.nil_append]
      · rw [if_neg c2] at h; cases h
  · have e : spV p = ([], false) := by unfold spV; rw [if_neg c]
    rw [e] at h; cases h
theorem pick_some (l : List Int) (i h : Int) (xs : List ByteArray) (hi : 0 ≤ i) (hb : i ≤ 1048576) (hl : l.length ≤ 1048576) (h1 : 1 ≤ xs.length) (h2 : xs.length ≤ 4294967296) :
    ∃ r i' h', spec_l01Pick.f l i h xs = some (r, i', h') ∧ r ∈ xs ∧ 0 ≤ i' ∧ i' ≤ 1048576 := by
  obtain ⟨x, i', h', e, a, b, c, d⟩ := below_some l i h (xs.length : Int) hi hb hl (by omega) (by omega)
  refine ⟨rdOf ByteArray.empty xs x, i', h', ?_, ?_, c, d⟩
  · unfold spec_l01Pick.f
    rw [e, Option.bind_some, if_pos a, if_pos b]
  · have hx : x.toNat < xs.length := by omega
    rw [s_rd xs x hx]
    exact List.getElem_mem hx
theorem once_some (l : List Int) (i h n : Int) (hi : 0 ≤ i) (hb : i ≤ 1048576) (hl : l.length ≤ 1048576) (hn : 1 ≤ n) (hn' : n ≤ 4294967296) :
    ∃ b i' h', spec_l01Once.f l i h n = some (b, i', h') ∧ 0 ≤ i' ∧ i' ≤ 1048576 := by
  obtain ⟨x, i', h', e, a, b, c, d⟩ := below_some l i h n hi hb hl hn hn'
  refine ⟨(x == 0), i', h', ?_, c, d⟩
  unfold spec_l01Once.f
  rw [e, Option.bind_some]
theorem path_loop (l : List Int) (hl : l.length ≤ 1048576) : ∀ (d k : Nat) (acc : ByteArray) (x i h : Int), 0 ≤ x → (3 : Int) - x = d → (acc.size : Int) ≤ 2 * x → 0 ≤ i → i ≤ 1048576 → d < k →
    ∃ r i' h', spec_l09Path.l0 k acc x l i h = some (r, i', h') ∧ r.size ≤ 6 ∧ 0 ≤ i' ∧ i' ≤ 1048576 := by
  intro d
  induction d with
  | zero =>
    intro k acc x i h h0 h1 ha hi hb hk
    obtain ⟨k, rfl⟩ : ∃ m, k = m + 1 := ⟨k - 1, by omega⟩
    obtain ⟨v, i', h', e, a, b, c, d'⟩ := below_some l i h 3 hi hb hl (by omega) (by omega)
    have hw : wrap64 (1 + v) = 1 + v := by unfold wrap64; omega
    refine ⟨acc, i', h', ?_, by omega, c, d'⟩
    simp only [spec_l09Path.l0, e, Option.bind_some, hw]
    rw [if_neg (by omega)]
  | succ d ih =>
    intro k acc x i h h0 h1 ha hi hb hk
    obtain ⟨k, rfl⟩ : ∃ m, k = m + 1 := ⟨k - 1, by omega⟩
    obtain ⟨v, i', h', e, a, b, c, d'⟩ := below_some l i h 3 hi hb hl (by omega) (by omega)
    have hw : wrap64 (1 + v) = 1 + v := by unfold wrap64; omega
    have hwx : wrap64 (x + 1) = x + 1 := by unfold wrap64; omega
    by_cases cx : x < 1 + v
    · obtain ⟨r, i2, h2, e2, m2, c2, d2⟩ := pick_some l i' h' [(⟨#[97]⟩ : ByteArray), (⟨#[98]⟩ : ByteArray), (⟨#[99]⟩ : ByteArray)] c d' hl (by simp) (by simp)
      have hr : r.size = 1 := by
        simp only [List.mem_cons, List.not_mem_nil, or_false] at m2
        rcases m2 with rfl | rfl | rfl
        · rfl
        · rfl
        · rfl
      have h47 : (⟨#[47]⟩ : ByteArray).size = 1 := rfl
      obtain ⟨q, i3, h3, e3, s3, c3, d3⟩ := ih k ((acc ++ (⟨#[47]⟩ : ByteArray)) ++ r) (x + 1) i2 h2 (by omega) (by omega) (by rw [ByteArray.size_append, ByteArray.size_append, h47, hr]; omega) c2 d2 (by omega)
      refine ⟨q, i3, h3, ?_, s3, c3, d3⟩
      simp only [spec_l09Path.l0, e, e2, Option.bind_some, hw, hwx]
      rw [if_pos cx, if_pos (by omega), if_pos (by rw [ByteArray.size_append, h47, hr]; omega)]
      exact e3
    · refine ⟨acc, i', h', ?_, by omega, c, d'⟩
      simp only [spec_l09Path.l0, e, Option.bind_some, hw]
      rw [if_neg cx]
theorem path_some (l : List Int) (hl : l.length ≤ 1048576) (k : Nat) (hk : 10 < k) (i h : Int) (hi : 0 ≤ i) (hb : i ≤ 1048576) : ∃ r i' h', spec_l09Path.f k l i h = some (r, i', h') ∧ r.size ≤ 6 ∧ 0 ≤ i' ∧ i' ≤ 1048576 := by
  unfold spec_l09Path.f
  exact path_loop l hl 3 k ⟨#[]⟩ 0 i h (by omega) (by omega) (by show ((0 : Nat) : Int) ≤ 2 * 0; omega) hi hb (by omega)
theorem any_some (l : List Int) (hl : l.length ≤ 1048576) (k : Nat) (hk : 10 < k) (i h : Int) (hi : 0 ≤ i) (hb : i ≤ 1048576) : ∃ r i' h', spec_l09Any.f k l i h = some (r, i', h') ∧ r.size ≤ 100 ∧ 0 ≤ i' ∧ i' ≤ 1048576 := by
  obtain ⟨b, i1, h1, e1, c1, d1⟩ := once_some l i h 6 hi hb hl (by omega) (by omega)
  unfold spec_l09Any.f
  rw [e1, Option.bind_some]
  cases b with
  | false =>
    obtain ⟨r, i2, h2, e2, s2, c2, d2⟩ := path_some l hl k hk i1 h1 c1 d1
    dsimp only
    rw [if_neg (by decide), e2, Option.bind_some]
    exact ⟨r, i2, h2, rfl, by omega, c2, d2⟩
  | true =>
    rw [if_pos rfl]
    generalize hL : ([(⟨#[]⟩ : ByteArray), (⟨#[47]⟩ : ByteArray), (⟨#[97]⟩ : ByteArray), (⟨#[47, 65]⟩ : ByteArray), (⟨#[47, 47]⟩ : ByteArray), (⟨#[47, 97, 47]⟩ : ByteArray), (⟨#[47, 97, 47, 47, 98]⟩ : ByteArray), (⟨#[47, 97, 47, 98, 47, 99, 47, 97]⟩ : ByteArray), (⟨#[47, 97, 47, 98, 47, 99, 47, 97, 47, 98]⟩ : ByteArray), (⟨#[47, 97, 98, 99, 100, 101, 102, 103, 104]⟩ : ByteArray), (⟨#[47, 97, 98, 99, 100, 101, 102, 103, 104, 105]⟩ : ByteArray)] : List ByteArray) = L
    have hs : L.all (fun r => decide (r.size ≤ 100)) = true := by subst hL; rfl
    have hn : 1 ≤ L.length ∧ L.length ≤ 4294967296 := by subst hL; exact ⟨by decide, by decide⟩
    obtain ⟨r, i2, h2, e2, m2, c2, d2⟩ := pick_some l i1 h1 L c1 d1 hl hn.1 hn.2
    rw [e2, Option.bind_some]
    exact ⟨r, i2, h2, rfl, of_decide_eq_true (List.all_eq_true.mp hs r m2), c2, d2⟩
theorem drawp_some (l : List Int) (hl : l.length ≤ 1048576) (k : Nat) (hk : 1048590 < k) : ∃ r, spec_DrawSplitPath.f k l = some r ∧ r.size ≤ 100 := by
  obtain ⟨h', e⟩ := new_ends l hl l.length k (wrap64 (36801 + (l.length : Int))) 0 (by omega) (by omega) (by omega)
  obtain ⟨r, i2, h2, e2, s2, _, _⟩ := any_some l hl k (by omega) 0 h' (by omega) (by omega)
  refine ⟨r, ?_, s2⟩
  unfold spec_DrawSplitPath.f spec_l01New.f
  rw [e, Option.bind_some, e2, Option.bind_some]
theorem n_any (s : ByteArray) (hs : s.size ≤ 4294967296) (k : Nat) (hk : s.size < k) : impl_NameOk.f k s = some (impl_SplitPath.nm s) := by
  have h := n_impl s hs (k - (s.size + 1))
  rw [show s.size + 1 + (k - (s.size + 1)) = k by omega] at h
  exact h
theorem FnPaths (l0 : List Int) (_ : l0.length ≤ maxLen ∧ ∀ x ∈ l0, (Lit.int .u8 x).wf = true) : ∃ k, laws_FnPaths.f k l0 = some true := by
  have e00 : (⟨#[]⟩ : ByteArray).toList = ([] : List UInt8) := by rw [Lib.toList_data]
  obtain ⟨K, hK⟩ : ∃ K : Nat, 4194304 < K := ⟨4194305, by decide⟩
  refine ⟨K + 2, ?_⟩
  unfold laws_FnPaths.f laws_big.f
  rw [Option.bind_some]
  by_cases c : (l0.length : Int) > 1048576
  · rw [if_pos (decide_eq_true c)]
  · rw [if_neg (by rw [decide_eq_true_eq]; exact c)]
    obtain ⟨p, e, hp⟩ := drawp_some l0 (by omega) (K + 2) (by omega)
    have hl := spV_len p
    have hs := spV_small p
    have i1 := fun k => sp_impl p (by omega) k
    have i2 := fun k => pp_impl p (by omega) k
    have hsum := sum_le 8 (spV p).1 hs
    have hj := fun k => jv_impl (spV p).1 (by omega) (by omega) k
    rw [e, Option.bind_some, i1, Option.bind_some, sp_spec p (by omega) (K + 2) (by omega), Option.bind_some, bne_self_eq_false, if_neg (by decide), s_eq (spV p).1 (by omega) (K + 2) (by omega), Option.bind_some]
    simp only [laws_FnPaths.j0, Bool.not_true, Bool.false_eq_true, if_false, i2, Option.bind_some]
    cases hb : (spV p).2 with
    | false =>
      have ev : ppV p = ((⟨#[]⟩ : ByteArray), (⟨#[]⟩ : ByteArray), false) := by unfold ppV; rw [hb, if_neg (by decide)]
      rw [ev, if_neg (by decide)]
      simp only [laws_FnPaths.j1, bne_self_eq_false, Bool.false_eq_true, if_false]
      rw [if_pos e00, if_pos e00]
    | true =>
      obtain ⟨g1, g2, g3⟩ := sp_right p hb
      rw [if_pos rfl]
      by_cases c0 : ((spV p).1.length : Int) = 0
      · have ev : ppV p = ((⟨#[]⟩ : ByteArray), (⟨#[]⟩ : ByteArray), false) := by unfold ppV; rw [hb, if_pos rfl, if_pos c0]
        rw [ev, decide_eq_false (show ¬ ((spV p).1.length : Int) > 0 by omega)]
        simp only [laws_FnPaths.j1, bne_self_eq_false, Bool.false_eq_true, if_false]
        rw [if_pos e00, if_pos e00, if_pos True.intro, hj, Option.bind_some, g1, beq_self_eq_true]
      · have ev : ppV p = (jv ((spV p).1.take ((spV p).1.length - 1)), rdOf ByteArray.empty (spV p).1 ((spV p).1.length - 1), true) := by unfold ppV; rw [hb, if_pos rfl, if_neg c0]
        have hi : (((spV p).1.length : Int) - 1).toNat < (spV p).1.length := by omega
        have er := s_rd (spV p).1 (((spV p).1.length : Int) - 1) hi
        have en : (((spV p).1.length : Int) - 1).toNat = (spV p).1.length - 1 := by omega
        have hm : rdOf ByteArray.empty (spV p).1 (((spV p).1.length : Int) - 1) ∈ (spV p).1 := by rw [er]; exact List.getElem_mem hi
        have hz := hs _ hm
        have htk := pp_take p
        have hup : (jv ((spV p).1.take ((spV p).1.length - 1))).size ≤ 1000 := by
          generalize (spV p).1.take ((spV p).1.length - 1) = q at htk
          cases q with
          | nil => show (1 : Nat) ≤ 1000; omega
          | cons x q => show (jp (x :: q)).size ≤ 1000; rw [jp_size]; omega
        have eall : (spV p).1.take ((spV p).1.length - 1) ++ [rdOf ByteArray.empty (spV p).1 (((spV p).1.length : Int) - 1)] = (spV p).1 := by
          rw [er]
          have h1 : (spV p).1.length - 1 < (spV p).1.length := by omega
          have h2 := List.take_append_getElem (l := (spV p).1) (i := (spV p).1.length - 1) h1
          rw [show (spV p).1.length - 1 + 1 = (spV p).1.length by omega, List.take_length] at h2
          simp only [en]
          exact h2
        rw [ev, decide_eq_true (show ((spV p).1.length : Int) > 0 by omega)]
        simp only [laws_FnPaths.j1, bne_self_eq_false, Bool.false_eq_true, if_false, if_true]
        rw [sp_impl _ (by omega) K, Option.bind_some, g3, hj, Option.bind_some, g1, if_pos rfl, n_any _ (by omega) K (by omega), Option.bind_some, if_pos (g2 _ hm)]
        dsimp only
        rw [if_pos (by rw [List.length_take]; omega), eall, s_eq (spV p).1 (by omega) K (by omega), Option.bind_some, if_pos rfl, jv_impl [] (by simp) (by simp) K, Option.bind_some]
        show some ((⟨#[47]⟩ : ByteArray).toList == ([47] : List UInt8)) = some true
        rw [Lib.toList_data]
        rfl
end Go.Proofs.YtmgdekfajjdcdaaDoor.Pure
