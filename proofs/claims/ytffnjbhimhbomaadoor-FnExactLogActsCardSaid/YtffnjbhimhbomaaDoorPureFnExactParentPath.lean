/- The program's ParentPath returns what the reference's returns: the law is true for every text. -/
import Derived.Test.YtffnjbhimhbomaaDoorQTB
import Derived.Test.YtffnjbhimhbomaaDoorPureFnExactSplitPath
namespace Go.Proofs.YtffnjbhimhbomaaDoor.Pure
open Go.RowKit Go.Proofs.YtffnjbhimhbomaaDoor.QTA Go.Proofs.YtffnjbhimhbomaaDoor.QTB Go.Proofs.YtffnjbhimhbomaaDoorW.PrintWords Go.Proofs.YtffnjbhimhbomaaDoorW.PrintLast Go.Proofs.YtffnjbhimhbomaaDoorW.PrintMore
set_option linter.unusedSimpArgs false
set_option linter.unusedVariables false
def jp : List ByteArray → ByteArray
  | [] => ⟨#[]⟩
  | x :: l => ((⟨#[47]⟩ : ByteArray) ++ x) ++ jp l
theorem jp_list : ∀ l : List ByteArray, (jp l).data.toList = l.flatMap fun x => 47 :: x.data.toList
  | [] => rfl
  | x :: l => by
    rw [jp, ByteArray.data_append, ByteArray.data_append, Array.toList_append, Array.toList_append, jp_list l, List.flatMap_cons]
    rfl
theorem jp_size : ∀ l : List ByteArray, (jp l).size = l.length + (l.map ByteArray.size).sum
  | [] => rfl
  | x :: l => by
    have h : (⟨#[47]⟩ : ByteArray).size = 1 := rfl
    rw [jp, ByteArray.size_append, ByteArray.size_append, jp_size l, h]
    simp only [List.length_cons, List.map_cons, List.sum_cons]
    omega
theorem jp_join (g : ByteArray → List UInt8) : ∀ (l : List ByteArray), l ≠ [] → 47 :: Lib.join (l.map g) [47] = l.flatMap fun x => 47 :: g x
  | [], h => absurd rfl h
  | [x], _ => by simp [Lib.join, List.intercalate, List.intersperse]
  | x :: y :: l, _ => by
    have ih := jp_join g (y :: l) (by simp)
    rw [List.flatMap_cons, ← ih]
    simp [Lib.join, List.intercalate, List.intersperse]
theorem jp_loop (l : List ByteArray) (hl : l.length ≤ 1048576) : ∀ (d k : Nat) (acc : ByteArray) (i : Int), 0 ≤ i → (l.length : Int) - i = d → acc.size + (jp (l.drop i.toNat)).size ≤ 67108864 → d < k →
    spec_JoinPath.l0 k l acc i = some (acc ++ jp (l.drop i.toNat)) := by
  intro d
  induction d with
  | zero =>
    intro k acc i h0 h1 hs hk
    obtain ⟨k, rfl⟩ : ∃ m, k = m + 1 := ⟨k - 1, by omega⟩
    have c : ¬ i < (l.length : Int) := by omega
    have hd : l.drop i.toNat = [] := List.drop_eq_nil_of_le (by omega)
    simp only [spec_JoinPath.l0, if_neg c, hd, jp]
    rw [show (ByteArray.mk #[]) = ByteArray.empty from rfl, ByteArray.append_empty]
  | succ d ih =>
    intro k acc i h0 h1 hs hk
    obtain ⟨k, rfl⟩ : ∃ m, k = m + 1 := ⟨k - 1, by omega⟩
    have hi : i.toNat < l.length := by omega
    have hw : wrap64 (i + 1) = i + 1 := by unfold wrap64; omega
    have hd : l.drop i.toNat = l[i.toNat] :: l.drop (i.toNat + 1) := List.drop_eq_getElem_cons hi
    have ht : (i + 1).toNat = i.toNat + 1 := by omega
    have h47 : (⟨#[47]⟩ : ByteArray).size = 1 := rfl
    rw [hd, jp, ByteArray.size_append, ByteArray.size_append, h47, ← s_rd l i hi] at hs
    have c0 : i < (l.length : Int) := by omega
    have c1 : acc.size + 1 ≤ 9223372036854775807 := by omega
    have c2 : (acc ++ (⟨#[47]⟩ : ByteArray)).size + (rdOf ByteArray.empty l i).size ≤ 9223372036854775807 := by rw [ByteArray.size_append, h47]; omega
    have e := ih k ((acc ++ (⟨#[47]⟩ : ByteArray)) ++ rdOf ByteArray.empty l i) (i + 1) (by omega) (by omega) (by rw [ht, ByteArray.size_append, ByteArray.size_append, h47]; omega) (by omega)
    simp only [spec_JoinPath.l0, if_pos c0, if_pos c1, if_pos h0, if_pos c2, hw, e, ht]
    rw [hd, jp, ← s_rd l i hi, ByteArray.append_assoc, ByteArray.append_assoc, ByteArray.append_assoc]
def jv : List ByteArray → ByteArray
  | [] => ⟨#[47]⟩
  | x :: l => jp (x :: l)
theorem jv_spec (l : List ByteArray) (hl : l.length ≤ 1048576) (hs : (l.map ByteArray.size).sum ≤ 33554432) (k : Nat) (hk : l.length < k) : spec_JoinPath.f k l = some (jv l) := by
  cases l with
  | nil => rfl
  | cons x l =>
    have hz := jp_size (x :: l)
    have e := jp_loop (x :: l) hl (x :: l).length k ⟨#[]⟩ 0 (by omega) (by omega) (by rw [show (0 : Int).toNat = 0 from rfl, List.drop_zero, show (⟨#[]⟩ : ByteArray).size = 0 from rfl]; omega) hk
    unfold spec_JoinPath.f
    rw [if_neg (by rw [List.length_cons]; omega), e]
    rw [show (ByteArray.mk #[]) = ByteArray.empty from rfl, ByteArray.empty_append, show (0 : Int).toNat = 0 from rfl, List.drop_zero]
    rfl
theorem jv_impl (l : List ByteArray) (hl : l.length ≤ 1048576) (hs : (l.map ByteArray.size).sum ≤ 33554432) (k : Nat) : impl_JoinPath.f k l = some (jv l) := by
  cases l with
  | nil => rfl
  | cons x l =>
    have hz := jp_size (x :: l)
    have hj := jp_join (·.data.toList) (x :: l) (by simp)
    rw [← jp_list (x :: l)] at hj
    have hz2 : 1 + (Lib.join ((x :: l).map (·.data.toList)) [47]).length = (jp (x :: l)).size := by
      have := congrArg List.length hj
      rw [List.length_cons] at this
      rw [Nat.add_comm, this, Array.length_toList]
      rfl
    unfold impl_JoinPath.f
    rw [if_pos ⟨by omega, by omega⟩]
    congr 1
    apply ByteArray.ext
    apply Array.toList_inj.1
    rw [show jv (x :: l) = jp (x :: l) from rfl, ← hj, ByteArray.data_append, Array.toList_append]
    simp
theorem nm_loop (s : ByteArray) : ∀ (k : Nat) (i : Int), impl_NameOk.l0 k s i = some true → s.size ≤ 8 := by
  intro k
  induction k with
  | zero => intro i h; simp [impl_NameOk.l0] at h
  | succ k ih =>
    intro i h
    simp only [impl_NameOk.l0, impl_within.f] at h
    repeat' split at h
    all_goals first
      | exact ih _ h
      | (simp at h; done)
      | (simp only [Option.bind_some, Option.some.injEq, decide_eq_true_eq] at h; omega)
theorem nm_size (s : ByteArray) (h : impl_SplitPath.nm s = true) : s.size ≤ 8 := by
  unfold impl_SplitPath.nm impl_NameOk.f at h
  cases e : impl_NameOk.l0 (s.size + 1) s 0 with
  | none => rw [e] at h; cases h
  | some b =>
    rw [e] at h
    obtain rfl : b = true := h
    exact nm_loop s _ _ e
theorem spV_small (p : ByteArray) : ∀ x ∈ (spV p).1, x.size ≤ 8 := by
  intro x hx
  unfold spV fin at hx
  repeat' split at hx
  all_goals first
    | (simp at hx; done)
    | (rename_i h _; rw [List.nil_append] at hx; exact nm_size x (List.all_eq_true.mp h x hx))
theorem sum_le (c : Nat) : ∀ l : List ByteArray, (∀ x ∈ l, x.size ≤ c) → (l.map ByteArray.size).sum ≤ l.length * c := by
  intro l
  induction l with
  | nil => intro _; simp
  | cons x l ih =>
    intro h
    have h1 := h x (by simp)
    have h2 := ih (fun y hy => h y (by simp [hy]))
    simp only [List.map_cons, List.sum_cons, List.length_cons, Nat.add_mul]
    omega
def ppV (p : ByteArray) : ByteArray × ByteArray × Bool :=
  if (spV p).2 = true then (if ((spV p).1.length : Int) = 0 then ((⟨#[]⟩ : ByteArray), (⟨#[]⟩ : ByteArray), false) else (jv ((spV p).1.take ((spV p).1.length - 1)), rdOf ByteArray.empty (spV p).1 ((spV p).1.length - 1), true)) else ((⟨#[]⟩ : ByteArray), (⟨#[]⟩ : ByteArray), false)
theorem pp_take (p : ByteArray) : (((spV p).1.take ((spV p).1.length - 1)).map ByteArray.size).sum ≤ 32 ∧ ((spV p).1.take ((spV p).1.length - 1)).length ≤ 4 := by
  have h1 := spV_len p
  have h3 : ((spV p).1.take ((spV p).1.length - 1)).length ≤ 4 := by rw [List.length_take]; omega
  have h2 := sum_le 8 ((spV p).1.take ((spV p).1.length - 1)) (fun x hx => spV_small p x (List.mem_of_mem_take hx))
  exact ⟨by omega, h3⟩
theorem pp_spec (p : ByteArray) (hp : p.size ≤ 4294967280) (k : Nat) (hk : 3 * p.size + 10 < k) : spec_ParentPath.f k p = some (ppV p) := by
  have h1 := spV_len p
  have h2 := pp_take p
  unfold spec_ParentPath.f ppV
  rw [sp_spec p hp k hk, Option.bind_some]
  by_cases c : (spV p).2 = true
  · rw [if_pos c, if_pos c]
    by_cases c0 : ((spV p).1.length : Int) = 0
    · rw [if_pos c0, if_pos c0]
    · have hw : wrap64 (((spV p).1.length : Int) - 1) = ((spV p).1.length : Int) - 1 := by unfold wrap64; omega
      have ht : (((spV p).1.length : Int) - 1).toNat = (spV p).1.length - 1 := by omega
      rw [if_neg c0, if_neg c0, hw, if_pos (by omega), if_pos (by omega), ht, jv_spec _ (by omega) (by omega) k (by omega), Option.bind_some, if_pos (by omega)]
  · rw [if_neg c, if_neg c]
theorem pp_impl (p : ByteArray) (hp : p.size ≤ 4294967280) (k : Nat) : impl_ParentPath.f k p = some (ppV p) := by
  have h1 := spV_len p
  have h2 := pp_take p
  unfold impl_ParentPath.f ppV
  rw [sp_impl p hp k, Option.bind_some]
  by_cases c : (spV p).2 = true
  · rw [if_pos c, if_pos c]
    by_cases c0 : ((spV p).1.length : Int) = 0
    · rw [if_pos c0, if_pos c0]
    · have hw : wrap64 (((spV p).1.length : Int) - 1) = ((spV p).1.length : Int) - 1 := by unfold wrap64; omega
      have ht : (((spV p).1.length : Int) - 1).toNat = (spV p).1.length - 1 := by omega
      rw [if_neg c0, if_neg c0, hw, if_pos (by omega), if_pos (by omega), ht, jv_impl _ (by omega) (by omega) k, Option.bind_some, if_pos (by omega)]
  · rw [if_neg c, if_neg c]
end Go.Proofs.YtffnjbhimhbomaaDoor.Pure
