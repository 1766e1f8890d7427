/- The program's EditText returns what the reference's returns: the law is true for every record. -/
import Derived.Test.YtffnjbhimhbomaaDoorQTD
import Derived.Test.YtffnjbhimhbomaaDoorPureFnExactEditOk
namespace Go.Proofs.YtffnjbhimhbomaaDoor.Pure
open Go.RowKit Go.Proofs.YtffnjbhimhbomaaDoor.QTA Go.Proofs.YtffnjbhimhbomaaDoor.QTB Go.Proofs.YtffnjbhimhbomaaDoor.QTC Go.Proofs.YtffnjbhimhbomaaDoor.QTD Go.Proofs.YtffnjbhimhbomaaDoorW.PrintWords Go.Proofs.YtffnjbhimhbomaaDoorW.PrintLast Go.Proofs.YtffnjbhimhbomaaDoorW.PrintMore
set_option linter.unusedSimpArgs false
set_option linter.unusedVariables false
def vd : Nat → Int → List Int
  | 0, n => [n % 256]
  | d + 1, n => if n > 127 then (n % 128 + 128) :: vd d (n / 128) else [n % 256]
def varT (n : Int) : ByteArray := strOfNums (vd 8 n)
theorem strOf_size (xs : List Int) : (strOfNums xs).size = xs.length := by simp [strOfNums, ByteArray.size]
theorem vd_len : ∀ (d : Nat) (n : Int), 1 ≤ (vd d n).length ∧ (vd d n).length ≤ d + 1
  | 0, n => by simp [vd]
  | d + 1, n => by
    have ih := vd_len d (n / 128)
    unfold vd
    split
    · rw [List.length_cons]; omega
    · simp
theorem varT_size (n : Int) : (varT n).size ≤ 9 := by
  unfold varT
  rw [strOf_size]
  exact (vd_len 8 n).2
theorem v_spec : ∀ (d k : Nat) (n : Int) (acc : List Int), 0 ≤ n → n < 128 ^ (d + 1) → n ≤ 9223372036854775807 → acc.length + d ≤ 1000 → d < k → spec_l01Var.l0 k n acc = some (strOfNums (acc ++ vd d n)) := by
  intro d
  induction d with
  | zero =>
    intro k n acc h0 h1 h2 ha hk
    obtain ⟨k, rfl⟩ : ∃ m, k = m + 1 := ⟨k - 1, by omega⟩
    simp only [spec_l01Var.l0, vd]
    rw [if_neg (by simp at h1; omega), if_pos (by omega)]
  | succ d ih =>
    intro k n acc h0 h1 h2 ha hk
    obtain ⟨k, rfl⟩ : ∃ m, k = m + 1 := ⟨k - 1, by omega⟩
    have ht : Int.tdiv n 128 = n / 128 := Int.tdiv_eq_ediv_of_nonneg h0
    have hm : Int.tmod n 128 = n % 128 := Int.tmod_eq_emod_of_nonneg h0
    have hw : wrap64 (n / 128) = n / 128 := by unfold wrap64; omega
    have hv : (wrap64 (n % 128 + 128)) % 256 = n % 128 + 128 := by unfold wrap64; omega
    have hd : n / 128 < 128 ^ (d + 1) := by
      have : (128 : Int) ^ (d + 1 + 1) = 128 ^ (d + 1) * 128 := Int.pow_succ ..
      omega
    simp only [spec_l01Var.l0, ht, hm, hw, hv]
    rw [if_pos (show acc.length < 140737488355328 by omega)]
    by_cases c : n > 127
    · rw [if_pos c, ih k (n / 128) _ (by omega) hd (by omega) (by rw [List.length_append]; simp; omega) (by omega)]
      congr 2
      rw [vd, if_pos c, List.append_assoc]
      rfl
    · rw [if_neg c, if_pos (by omega)]
      congr 2
      rw [vd, if_neg c]
theorem v_both : ∀ (k : Nat) (n : Int) (acc : List Int), impl_VarText.l0 k n acc = (spec_l01Var.l0 k n acc).map fun r => (r, true) := by
  intro k
  induction k with
  | zero => intro n acc; rfl
  | succ k ih =>
    intro n acc
    simp only [impl_VarText.l0, spec_l01Var.l0]
    repeat' split
    all_goals first
      | rfl
      | exact ih _ _
theorem var_spec (n : Int) (h0 : 0 ≤ n) (h1 : n ≤ 9223372036854775807) (k : Nat) (hk : 8 < k) : spec_l01Var.f k n = some (varT n) := by
  unfold spec_l01Var.f
  rw [v_spec 8 k n [] h0 (by have : (128 : Int) ^ (8 + 1) = 9223372036854775808 := by decide
                             omega) h1 (by simp) hk]
  rfl
theorem var_impl (n : Int) (h0 : 0 ≤ n) (h1 : n ≤ 1000000000) (k : Nat) (hk : 8 < k) : impl_VarText.f k n = some (varT n, true) := by
  have h := var_spec n h0 (by omega) k hk
  unfold spec_l01Var.f at h
  unfold impl_VarText.f
  rw [in_impl, Option.bind_some, v_both, h, decide_eq_true h0, decide_eq_true h1]
  rfl
theorem pcs_size : ∀ (n : Nat) (s : ByteArray), s.size = n → ((pcs s).map ByteArray.size).sum + (pcs s).length = s.size + 1 := by
  intro n
  induction n using Nat.strongRecOn with
  | ind n ih =>
    intro s hs
    by_cases h : ∃ x ∈ s.data.toList, (x == 47) = true
    · have hl := List.findIdx_lt_length_of_exists h
      have hg := List.findIdx_getElem (w := hl)
      have h1 : s.data.toList[List.findIdx (fun x => x == 47) s.data.toList]? = some 47 := by
        rw [List.getElem?_eq_getElem hl]
        exact congrArg some (beq_iff_eq.mp hg)
      have hi : List.findIdx (fun x => x == 47) s.data.toList < s.size := by rw [Lib.size_eq]; exact hl
      have e := pcs_hit s _ h1 (fun j hj h2 => by
        have := List.not_of_lt_findIdx hj
        obtain ⟨hj2, e2⟩ := List.getElem?_eq_some_iff.mp h2
        rw [e2] at this
        exact absurd this (by decide))
      have hz : (s.extract (List.findIdx (fun x => x == 47) s.data.toList + 1) s.size).size = s.size - (List.findIdx (fun x => x == 47) s.data.toList + 1) := by rw [ByteArray.size_extract]; omega
      have hz0 : (s.extract 0 (List.findIdx (fun x => x == 47) s.data.toList)).size = List.findIdx (fun x => x == 47) s.data.toList := by rw [ByteArray.size_extract]; omega
      have ih' := ih _ (by omega) _ hz
      rw [e]
      simp only [List.map_cons, List.sum_cons, List.length_cons, hz0]
      omega
    · have e := pcs_none s (fun j hj => h ⟨47, List.mem_of_getElem? hj, rfl⟩)
      rw [e]
      simp
theorem nv_size (p : ByteArray) (h : nvV p = true) : p.size ≤ 36 := by
  have h2 : (spV p).2 = true := by
    cases hb : (spV p).2 with
    | true => rfl
    | false => unfold nvV ppV at h; rw [hb] at h; cases h
  have h3 := spV_small p
  have h4 := spV_len p
  have h5 := sum_le 8 (spV p).1 h3
  have h6 := pcs_size _ (p.extract 1 p.size) rfl
  rw [ByteArray.size_extract] at h6
  unfold spV at h2 h4 h5
  by_cases c : Lib.hasPrefix p.data.toList [47] = true
  · rw [if_pos c] at h2 h4 h5
    by_cases c1 : p.size = 1
    · omega
    · rw [if_neg c1] at h2 h4 h5
      unfold fin at h2 h4 h5
      by_cases c2 : (pcs (p.extract 1 p.size)).all impl_SplitPath.nm = true
      · rw [if_pos c2] at h2 h4 h5
        by_cases c3 : ([] : List ByteArray).length + (pcs (p.extract 1 p.size)).length > 4
        · rw [if_pos c3] at h2; cases h2
        · rw [if_neg c3] at h4 h5
          simp only [List.nil_append] at h4 h5
          omega
      · rw [if_neg c2] at h2; cases h2
  · rw [if_neg c] at h2; cases h2
theorem eo_facts (kd : Int) (path tt : ByteArray) (num who : Int) (h : eoV kd path tt num who = true) : path.size ≤ 36 ∧ tt.size ≤ 36 ∧ 0 ≤ num ∧ num ≤ 1000 ∧ 1 ≤ kd ∧ kd ≤ 10 ∧ 0 ≤ who ∧ who ≤ 9 := by
  have h1 : ∀ p : ByteArray, p.toList = [47] → p.size ≤ 36 := fun p e => by rw [Lib.size_eq, ← Lib.toList_data, e]; decide
  have h2 : ∀ p : ByteArray, p.toList = [] → p.size ≤ 36 := fun p e => by rw [Lib.size_eq, ← Lib.toList_data, e]; decide
  have hp := nv_size path
  have ht := nv_size tt
  unfold eoV at h
  by_cases h10 : kd = 10
  · simp only [if_pos h10, Bool.and_eq_true, decide_eq_true_eq] at h
    obtain ⟨⟨a, b⟩, c, d, e, f⟩ := h
    exact ⟨h1 path c, h2 tt d, by omega, by omega, a, b, by omega, by omega⟩
  · simp only [if_neg h10, Bool.and_eq_true, Bool.or_eq_true, decide_eq_true_eq] at h
    obtain ⟨⟨a, b⟩, ⟨⟨c, d⟩, e⟩, f⟩ := h
    have r1 : path.size ≤ 36 := by
      rcases c with c | c
      · exact hp c
      · exact h1 path c.2
    have r2 : tt.size ≤ 36 := by
      by_cases h3 : kd = 3
      · rw [if_pos h3] at d; exact ht d
      · rw [if_neg h3] at d; exact h2 tt (of_decide_eq_true d)
    have r3 : 0 ≤ num ∧ num ≤ 1000 := by
      repeat' split at e
      all_goals (simp only [Bool.and_eq_true, decide_eq_true_eq] at e; omega)
    have r4 : 0 ≤ who ∧ who ≤ 9 := by
      split at f
      all_goals (simp only [Bool.and_eq_true, decide_eq_true_eq] at f; omega)
    exact ⟨r1, r2, r3.1, r3.2, a, b, r4.1, r4.2⟩
def etV (kd : Int) (path tt : ByteArray) (num who : Int) : ByteArray × Bool :=
  if eoV kd path tt num who = true then (((((strOfNums [kd % 256, who % 256] ++ varT path.size) ++ path) ++ varT tt.size) ++ tt) ++ varT num, true) else (⟨#[]⟩, false)
theorem et_spec (kd : Int) (path tt : ByteArray) (num who : Int) (hp : path.size ≤ 1048576) (ht : tt.size ≤ 1048576) (k : Nat) (hk : 4000010 < k) :
    spec_EditText.f k kd path tt num who = some (etV kd path tt num who) := by
  unfold spec_EditText.f etV
  rw [eo_spec kd path tt num who hp ht k hk, Option.bind_some]
  by_cases c : eoV kd path tt num who = true
  · obtain ⟨f1, f2, f3, f4, _⟩ := eo_facts kd path tt num who c
    have s0 := strOf_size [kd % 256, who % 256]
    have s1 := varT_size path.size
    have s2 := varT_size tt.size
    have s3 := varT_size num
    simp only [List.length_cons, List.length_nil] at s0
    simp only [if_pos c, Option.bind_some, var_spec (path.size : Int) (by omega) (by omega) k (by omega), var_spec (tt.size : Int) (by omega) (by omega) k (by omega), var_spec num f3 (by omega) k (by omega), ByteArray.size_append]
    rw [if_pos (by omega), if_pos (by omega), if_pos (by omega), if_pos (by omega), if_pos (by omega)]
  · rw [if_neg c, if_neg c]
theorem sh_impl (p : ByteArray) (hp : p.size ≤ 20000) (k : Nat) (hk : 8 < k) : impl_ShortText.f k p = some (varT p.size ++ p, true) := by
  have s1 := varT_size p.size
  unfold impl_ShortText.f
  rw [if_neg (by omega), var_impl (p.size : Int) (by omega) (by omega) k hk, Option.bind_some, if_pos (show (varT p.size).size + p.size ≤ 9223372036854775807 by omega)]
theorem et_impl (kd : Int) (path tt : ByteArray) (num who : Int) (hp : path.size ≤ 1048576) (ht : tt.size ≤ 1048576) (k : Nat) (hk : 10 < k) :
    impl_EditText.f k kd path tt num who = some (etV kd path tt num who) := by
  unfold impl_EditText.f etV
  rw [eo_impl kd path tt num who hp ht k hk, Option.bind_some]
  by_cases c : eoV kd path tt num who = true
  · obtain ⟨f1, f2, f3, f4, _⟩ := eo_facts kd path tt num who c
    have s0 := strOf_size [kd % 256, who % 256]
    have s1 := varT_size path.size
    have s2 := varT_size tt.size
    have s3 := varT_size num
    simp only [List.length_cons, List.length_nil] at s0
    simp only [if_pos c, sh_impl path (by omega) k (by omega), sh_impl tt (by omega) k (by omega), var_impl num f3 (by omega) k (by omega), Option.bind_some, ByteArray.size_append]
    rw [if_pos (by omega), if_pos (by omega), if_pos (by omega)]
    simp only [ByteArray.append_assoc]
  · rw [if_neg c, if_neg c]
end Go.Proofs.YtffnjbhimhbomaaDoor.Pure
