/- Contracts: drawn paths and records. -/
import Derived.Test.YtbhbkaonlillhaaGreatDoorCDa
import Derived.Test.YtbhbkaonlillhaaGreatDoorTm
namespace Go.Proofs.YtbhbkaonlillhaaGreatDoor
open Go Go.Abs Go.Proofs Go.Tm
set_option linter.unusedSimpArgs false
set_option linter.unusedVariables false
set_option maxRecDepth 10000
variable {Z : TypeId → Nat} {G : World → Prop} {B0 : Nat}
/-- A drawn path. -/
def GoodP (p : ByteArray) : Prop := ∃ ns, splitP p = some ns ∧ 1 ≤ ns.length ∧ ns.length ≤ 3 ∧ p.size ≤ 6 ∧ ∀ x ∈ ns, x ∈ abcL
theorem joinF_sz1 : ∀ (l : List ByteArray) (s : ByteArray), (∀ x ∈ l, x.size = 1) → (joinF s l).size = s.size + 2 * l.length
  | [], s, _ => by simp [joinF]
  | x :: r, s, h => by
    have e : joinF s (x :: r) = joinF (s ++ slash ++ x) r := rfl
    rw [e, joinF_sz1 r _ fun y hy => h y (by simp [hy]), ByteArray.size_append, ByteArray.size_append, h x (by simp)]
    have : slash.size = 1 := rfl
    simp [this]; omega
theorem goodP_join {ns : List ByteArray} (h : ∀ x ∈ ns, x ∈ abcL) (h1 : 1 ≤ ns.length) (h3 : ns.length ≤ 3) : GoodP (joinF ⟨#[]⟩ ns) := by
  have hne : ¬ ns.length = 0 := by omega
  have e : joinP ns = joinF ⟨#[]⟩ ns := by unfold joinP; rw [if_neg hne]
  refine ⟨ns, ?_, h1, h3, ?_, h⟩
  · rw [← e]; exact splitP_join (fun x hx => (nms_abc (h x hx)).1) (by omega)
  · rw [joinF_sz1 _ _ fun x hx => (nms_abc (h x hx)).2]; simp; omega
theorem l09Path_spec (hZ : ZOk Tryz.prog Z) (c : Cur) : Does Z Tryz.prog G B0 173 [.ptr [(0, 0)]] [curE c] [true] (fun y r => ∃ p c', y = sA p ∧ GoodP p ∧ r = [curE c']) := by
  refine Does.bodyR hZ Tryz.func173 rfl rfl (Nat.le_of_ble_eq_true rfl) fun ha hf => ?_
  simp [Tryz.f173]
  refine LoopA.run hZ (fun p : Cur × List ByteArray => ⟨19, [(0, .ptr [(0, 0)]), (3, sA (joinF ⟨#[]⟩ p.2)), (4, iA p.2.length)], [curE p.1], [true]⟩) (fun p => p.2.length ≤ 3 ∧ ∀ x ∈ p.2, x ∈ abcL) (fun p => 3 - p.2.length) (c, []) (by simp) (Sub.by [0] (by simp [joinF])) fun ⟨c, ns⟩ ⟨hl, hns⟩ => ?_
  dsimp only at hl hns
  simp
  refine CallA.rootsP [0] (l01Below_spec hZ c 3 (by omega)) (by simp [curE, byE]) ?_
  rintro y r ⟨v, c', rfl, hv, rfl⟩ _
  have hv3 := hv.1 (by omega)
  have hw : IntKind.i64.wrap (1 + v) = 1 + v := wrap_i64 (by omega)
  simp [curE, byE, hw]
  refine Br.dec (fun h => ?_) (fun h => ?_)
  · have hsz : (joinF ⟨#[]⟩ ns).size ≤ 6 := by rw [joinF_sz1 _ _ fun x hx => (nms_abc (hns x hx)).2]; simp; omega
    simp
    refine Need.mk (by omega) ?_
    simp
    refine CallA.rootsP [0, 2] (l01Pick_spec hZ c' abcL (by simp [abcL])) (by simp [curE, byE, strsE, abcL, nmA, nmBb, nmC]) ?_
    rintro y r ⟨s, c2, rfl, hs, rfl⟩ _
    have hs1 := (nms_abc hs).2
    simp [curE, byE]
    refine Need.mk (by omega) ?_
    have hw2 : IntKind.i64.wrap ((ns.length : Int) + 1) = (ns.length : Int) + 1 := wrap_i64 (by omega)
    have hj : joinF ⟨#[]⟩ (ns ++ [s]) = joinF ⟨#[]⟩ ns ++ ⟨#[47]⟩ ++ s := by simp [joinF, slash]
    simp
    refine Again.mk (c2, ns ++ [s]) ⟨by simp; omega, fun x hx => ?_⟩ (by simp; omega) (Sub.by [0] (by simp [hw2, hj, curE, byE]))
    rcases List.mem_append.1 hx with hx | hx
    · exact hns x hx
    · simp at hx; subst hx; exact hs
  · simp
    refine ⟨goodP_join hns (by omega) hl, c', rfl, rfl, rfl⟩
theorem goodP_named {p : ByteArray} (h : GoodP p) : namedP p = true ∧ p.size ≤ 6 ∧ AbcP p := by
  obtain ⟨ns, h1, h2, _, h4, h5⟩ := h
  refine ⟨namedP_iff.2 ?_, h4, fun ms hm => by rw [h1] at hm; cases hm; exact h5⟩
  have hne : ns ≠ [] := by rintro rfl; simp at h2
  exact ⟨ns.dropLast, ns.getLast hne, by rw [List.dropLast_concat_getLast, h1]⟩
theorem named_none : namedP ⟨#[]⟩ = false := by
  unfold namedP parentP splitP
  rfl
theorem named_slash : namedP slash = false := by
  cases h : namedP slash with
  | false => rfl
  | true =>
    obtain ⟨ns, nm, hs⟩ := namedP_iff.1 h
    have e := splitP_join (ns := []) (fun x hx => by simp at hx) (by simp)
    rw [show joinP [] = slash from rfl, hs] at e
    simp at e
theorem abc_none : AbcP ⟨#[]⟩ := fun ns h => by
  have e : splitP ⟨#[]⟩ = none := rfl
  rw [e] at h; cases h
theorem abc_slash : AbcP slash := fun ns h => by
  have e := splitP_join (ns := []) (fun x hx => by simp at hx) (by simp)
  rw [show joinP [] = slash from rfl, h] at e
  cases e
  simp
set_option maxHeartbeats 2000000 in
theorem l11Edit_spec (hZ : ZOk Tryz.prog Z) (c : Cur) : Does Z Tryz.prog G B0 109 [.ptr [(0, 0)]] [curE c] [true] (fun y r => ∃ e c', y = edA e ∧ GoodE e ∧ r = [curE c']) := by
  refine Does.bodyR hZ Tryz.func109 rfl rfl (Nat.le_of_ble_eq_true rfl) fun ha hf => ?_
  simp [Tryz.f109]
  refine CallA.rootsP [0, 2] (l01PickInt_spec hZ c [1, 1, 1, 2, 2, 2, 3, 4, 5, 6, 7, 7, 7, 8, 9, 10] (by simp)) (by simp [curE, byE, intsE]) ?_
  rintro y r ⟨k, c1, rfl, hk, rfl⟩ _
  have hk2 : k = 1 ∨ k = 2 ∨ k = 3 ∨ k = 4 ∨ k = 5 ∨ k = 6 ∨ k = 7 ∨ k = 8 ∨ k = 9 ∨ k = 10 := by simp at hk; omega
  clear hk
  simp [curE, byE, intsE]
  refine CallA.rootsP [0] (l09Path_spec hZ c1) (by simp [curE, byE]) ?_
  rintro y r ⟨p, c2, rfl, hp, rfl⟩ _
  obtain ⟨hn, hsz, hpa⟩ := goodP_named hp
  simp [curE, byE]
  rcases hk2 with rfl | rfl | rfl | rfl | rfl | rfl | rfl | rfl | rfl | rfl
  · simp
    exact ⟨⟨1, p, ⟨#[]⟩, 0, 0⟩, by simp [edA, edE], ⟨by simp [editB, hn, named_none, inB], hsz, by simp, hpa, abc_none⟩, c2, rfl, rfl, rfl⟩
  · simp
    refine CallA.rootsP [0] (l01Below_spec hZ c2 3 (by omega)) (by simp [curE, byE]) ?_
    rintro y r ⟨v, c3, rfl, hv, rfl⟩ _
    have hv3 := hv.1 (by omega)
    have hw : IntKind.i64.wrap (1 + v) = 1 + v := wrap_i64 (by omega)
    simp [curE, byE, hw]
    exact ⟨⟨2, p, ⟨#[]⟩, 0, 1 + v⟩, by simp [edA, edE], ⟨by simp [editB, hn, named_none, inB]; omega, hsz, by simp, hpa, abc_none⟩, c3, rfl, rfl, rfl⟩
  · simp
    refine CallA.rootsP [0] (l09Path_spec hZ c2) (by simp [curE, byE]) ?_
    rintro y r ⟨q, c3, rfl, hq, rfl⟩ _
    obtain ⟨hn2, hsz2, hpa2⟩ := goodP_named hq
    simp [curE, byE]
    exact ⟨⟨3, p, q, 0, 0⟩, by simp [edA, edE], ⟨by simp [editB, hn, hn2, inB], hsz, hsz2, hpa, hpa2⟩, c3, rfl, rfl, rfl⟩
  · simp
    exact ⟨⟨4, p, ⟨#[]⟩, 0, 0⟩, by simp [edA, edE], ⟨by simp [editB, hn, named_none, inB], hsz, by simp, hpa, abc_none⟩, c2, rfl, rfl, rfl⟩
  · simp
    refine CallA.rootsP [0] (l01Below_spec hZ c2 3 (by omega)) (by simp [curE, byE]) ?_
    rintro y r ⟨v, c3, rfl, hv, rfl⟩ _
    have hv3 := hv.1 (by omega)
    have hw : IntKind.i64.wrap (1 + v) = 1 + v := wrap_i64 (by omega)
    simp [curE, byE, hw]
    refine CallA.rootsP [0] (l01Once_spec hZ c3 3 (by omega)) (by simp [curE, byE]) ?_
    rintro y r ⟨b, c4, rfl, rfl⟩ _
    simp [curE, byE]
    refine Br.bool (fun hb => ?_) (fun hb => ?_) <;> simp [hb]
    · exact ⟨⟨5, slash, ⟨#[]⟩, 1 + v, 0⟩, by simp [edA, edE, slash], ⟨by simp [editB, named_slash, named_none, inB]; omega, by simp [slash], by simp, abc_slash, abc_none⟩, c4, rfl, rfl, rfl⟩
    · exact ⟨⟨5, p, ⟨#[]⟩, 1 + v, 0⟩, by simp [edA, edE], ⟨by simp [editB, hn, named_none, inB]; omega, hsz, by simp, hpa, abc_none⟩, c4, rfl, rfl, rfl⟩
  · simp
    refine CallA.rootsP [0, 6] (l01PickInt_spec hZ c2 [0, 20, 60, 1000] (by simp)) (by simp [curE, byE, intsE]) ?_
    rintro y r ⟨v, c3, rfl, hv, rfl⟩ _
    have hv3 : v = 0 ∨ v = 20 ∨ v = 60 ∨ v = 1000 := by simpa using hv
    simp [curE, byE, intsE]
    refine CallA.rootsP [0] (l01Once_spec hZ c3 3 (by omega)) (by simp [curE, byE]) ?_
    rintro y r ⟨b, c4, rfl, rfl⟩ _
    simp [curE, byE]
    refine Br.bool (fun hb => ?_) (fun hb => ?_) <;> simp [hb]
    · exact ⟨⟨6, slash, ⟨#[]⟩, v, 0⟩, by simp [edA, edE, slash], ⟨by simp [editB, named_slash, named_none, inB]; omega, by simp [slash], by simp, abc_slash, abc_none⟩, c4, rfl, rfl, rfl⟩
    · exact ⟨⟨6, p, ⟨#[]⟩, v, 0⟩, by simp [edA, edE], ⟨by simp [editB, hn, named_none, inB]; omega, hsz, by simp, hpa, abc_none⟩, c4, rfl, rfl, rfl⟩
  · simp
    refine CallA.rootsP [0] (l01Below_spec hZ c2 60 (by omega)) (by simp [curE, byE]) ?_
    rintro y r ⟨v, c3, rfl, hv, rfl⟩ _
    have hv3 := hv.1 (by omega)
    have hw : IntKind.i64.wrap (1 + v) = 1 + v := wrap_i64 (by omega)
    simp [curE, byE, hw]
    exact ⟨⟨7, p, ⟨#[]⟩, 1 + v, 0⟩, by simp [edA, edE], ⟨by simp [editB, hn, named_none, inB]; omega, hsz, by simp, hpa, abc_none⟩, c3, rfl, rfl, rfl⟩
  · simp
    exact ⟨⟨8, p, ⟨#[]⟩, 0, 0⟩, by simp [edA, edE], ⟨by simp [editB, hn, named_none, inB], hsz, by simp, hpa, abc_none⟩, c2, rfl, rfl, rfl⟩
  · simp
    refine CallA.rootsP [0] (l01Below_spec hZ c2 3 (by omega)) (by simp [curE, byE]) ?_
    rintro y r ⟨v, c3, rfl, hv, rfl⟩ _
    have hv3 := hv.1 (by omega)
    have hw : IntKind.i64.wrap (1 + v) = 1 + v := wrap_i64 (by omega)
    simp [curE, byE, hw]
    exact ⟨⟨9, p, ⟨#[]⟩, 0, 1 + v⟩, by simp [edA, edE], ⟨by simp [editB, hn, named_none, inB]; omega, hsz, by simp, hpa, abc_none⟩, c3, rfl, rfl, rfl⟩
  · simp
    exact ⟨⟨10, slash, ⟨#[]⟩, 0, 0⟩, by simp [edA, edE, slash], ⟨by simp [editB, named_slash, named_none, inB], by simp [slash], by simp, abc_slash, abc_none⟩, c2, rfl, rfl, rfl⟩
end Go.Proofs.YtbhbkaonlillhaaGreatDoor
