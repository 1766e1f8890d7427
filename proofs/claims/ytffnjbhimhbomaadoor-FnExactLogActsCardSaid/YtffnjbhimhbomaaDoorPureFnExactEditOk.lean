/- The program's EditOk returns what the reference's returns: the law is true for every record. -/
import Derived.Test.YtffnjbhimhbomaaDoorQTC
import Derived.Test.YtffnjbhimhbomaaDoorPureFnExactParentPath
namespace Go.Proofs.YtffnjbhimhbomaaDoor.Pure
open Go.RowKit Go.Proofs.YtffnjbhimhbomaaDoor.QTA Go.Proofs.YtffnjbhimhbomaaDoor.QTB Go.Proofs.YtffnjbhimhbomaaDoor.QTC Go.Proofs.YtffnjbhimhbomaaDoorW.PrintWords Go.Proofs.YtffnjbhimhbomaaDoorW.PrintLast Go.Proofs.YtffnjbhimhbomaaDoorW.PrintMore
set_option linter.unusedSimpArgs false
set_option linter.unusedVariables false
def nvV (p : ByteArray) : Bool := (ppV p).2.2
theorem nv_spec (p : ByteArray) (hp : p.size ≤ 1048576) (k : Nat) (hk : 4000000 < k) : spec_l11Named.f k p = some (nvV p) := by
  unfold spec_l11Named.f nvV
  rw [pp_spec p (by omega) k (by omega)]
  rfl
theorem nv_impl (p : ByteArray) (hp : p.size ≤ 1048576) (k : Nat) : impl_named.f k p = some (nvV p) := by
  unfold impl_named.f nvV
  rw [pp_impl p (by omega) k]
  rfl
theorem nv_nil (p : ByteArray) (h : p.toList = []) : nvV p = false := by
  have e : spV p = ([], false) := by
    unfold spV
    rw [← Lib.toList_data, h]
    rfl
  unfold nvV ppV
  rw [e]
  rfl
theorem nv_root (p : ByteArray) (h : p.toList = [47]) : nvV p = false := by
  have e : spV p = ([], true) := by
    unfold spV
    have h1 : p.size = 1 := by rw [Lib.size_eq, ← Lib.toList_data, h]; rfl
    rw [← Lib.toList_data, h, if_pos (show Lib.hasPrefix [47] [47] = true from rfl), if_pos h1]
  unfold nvV ppV
  rw [e]
  rfl
theorem in_spec (a b c : Int) : spec_l01In.f a b c = some (decide (b ≤ a) && decide (a ≤ c)) := by
  unfold spec_l01In.f
  by_cases h : a ≥ b
  · rw [if_pos h, decide_eq_true (show b ≤ a from h), Bool.true_and]
  · rw [if_neg h, decide_eq_false (show ¬ b ≤ a from h), Bool.false_and]
theorem in_impl (a b c : Int) : impl_within.f a b c = some (decide (b ≤ a) && decide (a ≤ c)) := in_spec a b c
theorem so_p (c : Prop) [Decidable c] (y : Bool) : (if c then some y else some false) = some (decide c && y) := by
  by_cases h : c <;> simp [h]
theorem beq_i (a b : Int) : (a == b) = decide (a = b) := by by_cases h : a = b <;> simp [h]
theorem beq_l (a b : List UInt8) : (a == b) = decide (a = b) := by by_cases h : a = b <;> simp [h]
theorem bne_l (a b : List UInt8) : (a != b) = !decide (a = b) := by by_cases h : a = b <;> simp [h]
def eoV (kd : Int) (path tt : ByteArray) (num who : Int) : Bool :=
  decide (1 ≤ kd) && decide (kd ≤ 10) &&
  (if kd = 10 then decide (path.toList = [47]) && (decide (tt.toList = []) && (decide (num = 0) && decide (who = 0)))
   else ((nvV path || (decide (kd = 5 ∨ kd = 6) && decide (path.toList = [47]))) && (if kd = 3 then nvV tt else decide (tt.toList = [])) &&
    (if kd = 5 then decide (1 ≤ num) && decide (num ≤ 3) else if kd = 6 then decide (0 ≤ num) && decide (num ≤ 1000) else if kd = 7 then decide (1 ≤ num) && decide (num ≤ 200) else decide (num = 0)) &&
    (if kd = 2 ∨ kd = 9 then decide (1 ≤ who) && decide (who ≤ 9) else decide (who = 0))))
theorem eo_j1s (k : Nat) (kd : Int) (path tt : ByteArray) (num who : Int) : spec_EditOk.j1 (k + 1) false kd path tt num who =
    some ((if kd = 5 then decide (1 ≤ num) && decide (num ≤ 3) else if kd = 6 then decide (0 ≤ num) && decide (num ≤ 1000) else if kd = 7 then decide (1 ≤ num) && decide (num ≤ 200) else decide (num = 0)) &&
    (if kd = 2 ∨ kd = 9 then decide (1 ≤ who) && decide (who ≤ 9) else decide (who = 0))) := by
  simp only [spec_EditOk.j1, in_spec, Option.bind_some, so_p, Bool.decide_eq_true, beq_i, Bool.false_eq_true, if_false]
  by_cases h5 : kd = 5
  · subst h5; first | rfl | (simp; done)
  by_cases h6 : kd = 6
  · subst h6; first | rfl | (simp; done)
  by_cases h7 : kd = 7
  · subst h7; first | rfl | (simp; done)
  by_cases h2 : kd = 2
  · subst h2; first | rfl | (simp; done)
  by_cases h9 : kd = 9
  · subst h9; first | rfl | (simp; done)
  simp [h5, h6, h7, h2, h9]
theorem eo_spec (kd : Int) (path tt : ByteArray) (num who : Int) (hp : path.size ≤ 1048576) (ht : tt.size ≤ 1048576) (k : Nat) (hk : 4000010 < k) :
    spec_EditOk.f k kd path tt num who = some (eoV kd path tt num who) := by
  obtain ⟨k, rfl⟩ : ∃ m, k = m + 2 := ⟨k - 2, by omega⟩
  have ep := nv_spec path hp (k + 1) (by omega)
  have et := nv_spec tt ht (k + 1) (by omega)
  have hr := nv_root path
  have hn := nv_nil tt
  have hn1 : ∀ kd path tt num who, spec_EditOk.j1 (k + 1) true kd path tt num who = some false := fun _ _ _ _ _ => rfl
  have e0 : ∀ b, spec_EditOk.j0 (k + 2) b kd path tt num who = some ((nvV path || (b && decide (path.toList = [47]))) && ((if kd = 3 then nvV tt else decide (tt.toList = [])) && ((if kd = 5 then decide (1 ≤ num) && decide (num ≤ 3) else if kd = 6 then decide (0 ≤ num) && decide (num ≤ 1000) else if kd = 7 then decide (1 ≤ num) && decide (num ≤ 200) else decide (num = 0)) &&
    (if kd = 2 ∨ kd = 9 then decide (1 ≤ who) && decide (who ≤ 9) else decide (who = 0))))) := by
    intro b
    have ef := eo_j1s k kd path tt num who
    generalize ((if kd = 5 then decide (1 ≤ num) && decide (num ≤ 3) else if kd = 6 then decide (0 ≤ num) && decide (num ≤ 1000) else if kd = 7 then decide (1 ≤ num) && decide (num ≤ 200) else decide (num = 0)) &&
    (if kd = 2 ∨ kd = 9 then decide (1 ≤ who) && decide (who ≤ 9) else decide (who = 0))) = X at ef ⊢
    simp only [spec_EditOk.j0, ep, et, Option.bind_some, hn1, ef, beq_i, bne_l]
    clear ep et hr hp ht hk
    by_cases hk3 : kd = 3
    · simp only [if_pos hk3, decide_eq_true hk3]
      by_cases hR : path.toList = [47] <;> cases nvV path <;> cases b <;> cases nvV tt <;> simp [hR, ef]
    · simp only [if_neg hk3, decide_eq_false hk3]
      by_cases hQ : tt.toList = []
      · rw [hn hQ]
        by_cases hR : path.toList = [47] <;> cases nvV path <;> cases b <;> simp [hR, hQ, ef]
      · have hj : (!decide (tt.toList = [])) = true := by simp [hQ]
        simp only [hj, hn1]
        by_cases hR : path.toList = [47] <;> cases nvV path <;> cases b <;> cases nvV tt <;> simp [hR, hQ, ef]
  unfold spec_EditOk.f
  rw [in_spec, Option.bind_some]
  unfold eoV
  by_cases c : (decide (1 ≤ kd) && decide (kd ≤ 10)) = true
  · rw [if_pos c, c, Bool.true_and]
    by_cases h10 : kd = 10
    · rw [if_pos h10, if_pos h10]
      simp only [so_p, beq_i]
    · rw [if_neg h10, if_neg h10]
      simp only [e0, beq_i]
      by_cases h5 : kd = 5
      · subst h5; simp [Bool.and_assoc]
      · rw [if_neg h5]
        simp [h5, Bool.and_assoc]
  · rw [if_neg c, (Bool.not_eq_true _).mp c, Bool.false_and]
theorem eo_impl (kd : Int) (path tt : ByteArray) (num who : Int) (hp : path.size ≤ 1048576) (ht : tt.size ≤ 1048576) (k : Nat) (hk : 10 < k) :
    impl_EditOk.f k kd path tt num who = some (eoV kd path tt num who) := by
  obtain ⟨k, rfl⟩ : ∃ m, k = m + 4 := ⟨k - 4, by omega⟩
  have ep := nv_impl path hp (k + 4)
  have et := nv_impl tt ht
  have hr := nv_root path
  have hn := nv_nil tt
  simp only [impl_EditOk.f, impl_EditOk.j0, impl_EditOk.j1, impl_EditOk.j2, ep, et, in_impl, Option.bind_some, so_p, Bool.decide_eq_true, beq_i, beq_l]
  unfold eoV
  clear ep et hp ht hk
  generalize nvV path = P at hr ⊢
  generalize nvV tt = T at hn ⊢
  generalize decide (who = 0) = w0
  generalize decide (num = 0) = n0
  by_cases hR : path.toList = [47]
  · have hP := hr hR
    subst hP
    by_cases h5 : kd = 5
    · subst h5; cases w0 <;> simp [hR] <;> (try ac_rfl)
    by_cases h6 : kd = 6
    · subst h6; cases w0 <;> simp [hR] <;> (try ac_rfl)
    by_cases h7 : kd = 7
    · subst h7; simp <;> (try ac_rfl)
    by_cases h2 : kd = 2
    · subst h2; simp <;> (try ac_rfl)
    by_cases h9 : kd = 9
    · subst h9; simp <;> (try ac_rfl)
    by_cases h3 : kd = 3
    · subst h3; simp <;> (try ac_rfl)
    by_cases h10 : kd = 10
    · subst h10; cases w0 <;> cases n0 <;> simp [hR] <;> (try ac_rfl)
    simp [h5, h6, h7, h2, h9, h3, h10]
  · by_cases h5 : kd = 5
    · subst h5; cases w0 <;> cases P <;> simp [hR] <;> (try ac_rfl)
    by_cases h6 : kd = 6
    · subst h6; cases w0 <;> cases P <;> simp [hR] <;> (try ac_rfl)
    by_cases h7 : kd = 7
    · subst h7; cases w0 <;> cases P <;> simp <;> (try ac_rfl)
    by_cases h2 : kd = 2
    · subst h2; cases n0 <;> cases P <;> simp <;> (try ac_rfl)
    by_cases h9 : kd = 9
    · subst h9; cases n0 <;> cases P <;> simp <;> (try ac_rfl)
    by_cases h3 : kd = 3
    · subst h3; cases w0 <;> cases n0 <;> cases P <;> cases T <;> simp <;> (try ac_rfl)
    by_cases h10 : kd = 10
    · subst h10; simp [hR] <;> (try ac_rfl)
    cases w0 <;> cases n0 <;> cases P <;> simp [h5, h6, h7, h2, h9, h3, h10] <;> (try ac_rfl)
theorem sz_edit (kd : Int) (path tt : ByteArray) (num who : Int) (hp : path.size ≤ maxLen) (ht : tt.size ≤ maxLen) :
    laws_szEdit.f kd path tt num who 1048576 = some (-1) ∨ ∃ z, laws_szEdit.f kd path tt num who 1048576 = some z ∧ 0 ≤ z ∧ path.size + tt.size ≤ 1048576 := by
  have hm : maxLen = 9223372036854775807 := by unfold maxLen; rfl
  have e1 : wrap64 (1048576 - (path.size : Int)) = 1048576 - path.size := by unfold wrap64; omega
  unfold laws_szEdit.f
  rw [e1]
  by_cases c1 : (1048576 : Int) - path.size < 0
  · rw [if_pos c1]; exact .inl rfl
  · have e2 : wrap64 (1048576 - (path.size : Int) - (tt.size : Int)) = 1048576 - path.size - tt.size := by unfold wrap64; omega
    rw [e2]
    by_cases c2 : (1048576 : Int) - path.size - tt.size < 0
    · rw [if_neg c1, if_pos c2]; exact .inl rfl
    · rw [if_neg c1, if_neg c2]; exact .inr ⟨_, rfl, by omega, by omega⟩
end Go.Proofs.YtffnjbhimhbomaaDoor.Pure
