/- Contracts: paths, by the reference. -/
import Derived.Test.YtbhbkaonlillhaaGreatDoorCEj
import Derived.Test.YtbhbkaonlillhaaGreatDoorCEp
import Derived.Test.YtbhbkaonlillhaaGreatDoorTm
namespace Go.Proofs.YtbhbkaonlillhaaGreatDoor
open Go Go.Abs Go.Proofs Go.Tm
set_option linter.unusedSimpArgs false
set_option linter.unusedVariables false
set_option maxRecDepth 10000
variable {Z : TypeId → Nat} {G : World → Prop} {B0 : Nat}
theorem noShr_strL (l : List ByteArray) : noShr (strsE true l) = true := by simp [strsE, noShrLL_mem]
theorem SplitPath_spec (hZ : ZOk Tryz.prog Z) (p : ByteArray) (hp : p.size ≤ 1048576) : Does Z Tryz.prog G B0 104 [sA p] [] [] (fun y _ => y = .tup [.c (strsE true ((splitP p).getD [])), bA (splitP p).isSome]) := by
  generalize hr : splitP p = r
  refine Does.bodyF hZ Tryz.func104 rfl rfl (Nat.le_of_ble_eq_true rfl) fun hf => ?_
  simp at hf
  simp [Tryz.f104, strsE]
  unfold splitP at hr
  refine Br.dec (fun h0 => ?_) (fun h0 => ?_)
  · simp [h0] at hr
    subst hr
    simp [h0]
  have hlt : 0 < p.size := by
    rcases Nat.eq_zero_or_pos p.size with c | c
    · exact absurd (ByteArray.size_eq_zero_iff.1 c) h0
    · exact c
  simp [h0]
  refine Need.mk hlt ?_
  simp
  refine Br.dec (fun h1 => ?_) (fun h1 => ?_)
  rotate_left
  · simp [h1] at hr
    subst hr
    simp [h1]
  simp [h0, h1] at hr
  simp [h1]
  refine Br.dec (fun h2 => ?_) (fun h2 => ?_)
  · simp [h2] at hr
    subst hr
    simp [h2]
  simp [h2] at hr
  simp [h2]
  refine LoopA.run hZ (fun q : Nat × Nat × List ByteArray => ⟨57, [(0, sA p), (4, .bor [(0, 0)] 0 q.2.2.length), (5, iA q.2.1), (6, iA q.1)], [[strsE true q.2.2]], [false]⟩) (fun q => q.2.1 ≤ q.1 ∧ 1 ≤ q.1 ∧ q.1 ≤ p.size + 1 ∧ q.2.2.length < q.1 ∧ q.2.2.all nmB = true ∧ finP (q.2.2 ++ rest p q.2.1 q.1) = r) (fun q => p.size + 1 - q.1) (1, 1, []) (by simp [hr]) (Sub.by [0] (by simp [strsE])) fun ⟨i, b, o⟩ ⟨hb, hi, hi2, hol, hoa, he⟩ => ?_
  dsimp only at hb hi hi2 hol hoa he
  simp [strsE]
  refine Br.dec (fun h3 => ?_) (fun h3 => ?_)
  · have hw : IntKind.i64.wrap ((i : Int) + 1) = ((i + 1 : Nat) : Int) := wrap_i64 (by omega)
    simp
    refine Br.dec (fun h4 => ?_) (fun h4 => ?_)
    · simp [h4]
      refine Br.dec (fun h5 => ?_) (fun h5 => ?_)
      · have he' : finP (o ++ ([p.extract b i] ++ rest p (i + 1) (i + 1))) = r := by rw [rest_hit h4 h5] at he; exact he
        simp [h5, h4, hb, h3]
        refine CallA.snapE (NameOk_spec hZ (p.extract b i)) (by simp) (by simp) ?_
        simp
        refine Br.bool (fun h6 => ?_) (fun h6 => ?_) <;> simp [h6]
        · simp [h5, h4, hb, h3]
          refine Need.mk ⟨by omega, by omega⟩ ?_
          simp
          exact Again.mk (i + 1, i + 1, o ++ [p.extract b i]) ⟨by dsimp only; omega, by dsimp only; omega, by dsimp only; omega, by simp; omega, by rw [List.all_append, hoa]; simp [h6], by dsimp only; rw [List.append_assoc]; exact he'⟩ (by dsimp only; omega) (Sub.by [3] (by simp [hw, strsE]))
        · rw [List.singleton_append, finP_bad h6] at he'
          subst he'
          simp [strsE]
      · simp [h5, h4]
        exact Again.mk (i + 1, b, o) ⟨by dsimp only; omega, by dsimp only; omega, by dsimp only; omega, by dsimp only; omega, hoa, by dsimp only; rw [← rest_miss h4 h5]; exact he⟩ (by dsimp only; omega) (Sub.by [0] (by simp [hw, strsE]))
    · have he' : finP (o ++ ([p.extract b i] ++ rest p (i + 1) (i + 1))) = r := by rw [rest_last (by omega)] at he; rw [rest_end (show p.size < i + 1 by omega)]; exact he
      simp [h4, hb, h3]
      refine CallA.snapE (NameOk_spec hZ (p.extract b i)) (by simp) (by simp) ?_
      simp
      refine Br.bool (fun h6 => ?_) (fun h6 => ?_) <;> simp [h6]
      · simp [h4, hb, h3]
        refine Need.mk ⟨by omega, by omega⟩ ?_
        simp
        exact Again.mk (i + 1, i + 1, o ++ [p.extract b i]) ⟨by dsimp only; omega, by dsimp only; omega, by dsimp only; omega, by simp; omega, by rw [List.all_append, hoa]; simp [h6], by dsimp only; rw [List.append_assoc]; exact he'⟩ (by dsimp only; omega) (Sub.by [3] (by simp [hw, strsE]))
      · rw [List.singleton_append, finP_bad h6] at he'
        subst he'
        simp [strsE]
  · rw [rest_end (by omega), List.append_nil, finP, hoa] at he
    simp
    refine Br.dec (fun h4 => ?_) (fun h4 => ?_)
    · have : ¬ o.length ≤ 4 := by omega
      simp [this] at he
      subst he
      simp [strsE]
    · have : o.length ≤ 4 := by omega
      simp [this] at he
      subst he
      simp [strsE]
theorem JoinPath_spec (hZ : ZOk Tryz.prog Z) (l : List ByteArray) (hb : l.length ≤ 1000 ∧ ∀ x ∈ l, x.size ≤ 1000) : Does Z Tryz.prog G B0 112 [.c (strsE false l)] [] [] (fun y _ => y = sA (joinP l)) := by
  refine Does.bodyF hZ Tryz.func112 rfl rfl (Nat.le_of_ble_eq_true rfl) fun hf => ?_
  simp [strsE] at hf
  simp [Tryz.f112, strsE]
  refine Br.dec (fun h0 => ?_) (fun h0 => ?_)
  · simp [joinP, h0, slash]
  simp [joinP, h0]
  generalize hr : joinF ⟨#[]⟩ l = r
  refine LoopA.run hZ (fun q : Nat × ByteArray => ⟨22, [(0, .c (strsE false l)), (3, sA q.2), (4, iA q.1)], [], []⟩) (fun q => joinF q.2 (l.drop q.1) = r ∧ q.2.size ≤ q.1 * 1001 ∧ q.1 ≤ l.length) (fun q => l.length - q.1) (0, ⟨#[]⟩) (by simpa using hr) (Sub.by [] (by simp [strsE])) fun ⟨i, s⟩ ⟨he, hs, hi⟩ => ?_
  dsimp only at he hs hi
  simp [strsE]
  refine Br.dec (fun h3 => ?_) (fun h3 => ?_)
  · have hw := w_inc h3 hf.1
    have hx : l[i]? = some l[i] := List.getElem?_eq_getElem h3
    have hxs := hb.2 _ (List.getElem_mem h3)
    rw [List.drop_eq_getElem_cons h3, joinF, List.foldl_cons] at he
    simp [hx]
    refine Need.mk (by omega) ?_
    simp [hx]
    refine Need.mk (by omega) ?_
    simp
    exact Again.mk (i + 1, s ++ slash ++ l[i]) ⟨he, by simp [slash]; omega, by dsimp only; omega⟩ (by dsimp only; omega) (Sub.by [] (by simp [hw, strsE, slash]))
  · rw [List.drop_eq_nil_of_le (show l.length ≤ i by omega), joinF, List.foldl_nil] at he
    simp [he]
end Go.Proofs.YtbhbkaonlillhaaGreatDoor
