/- Contracts: the laws' helpers. -/
import Derived.Test.YtbhbkaonlillhaaGreatDoorCEb
import Derived.Test.YtbhbkaonlillhaaGreatDoorCDa
namespace Go.Proofs.YtbhbkaonlillhaaGreatDoor
open Go Go.Abs Go.Proofs Go.Tm
set_option linter.unusedSimpArgs false
set_option linter.unusedVariables false
set_option maxRecDepth 10000
variable {Z : TypeId → Nat} {G : World → Prop} {B0 : Nat}
theorem big_spec (hZ : ZOk Tryz.prog Z) (b : List Int) : Does Z Tryz.prog G B0 15 [.c (byE b)] [] [] (fun y _ => ∃ v, y = bA v) := by
  refine Does.bodyF hZ Tryz.func15 rfl rfl (Nat.le_of_ble_eq_true rfl) fun hf => ?_
  simp [Tryz.f15, byE]
  omega
theorem pc_ne (x y : Pc) : (!decide (x.group = y.group) || !decide (x.len = y.len)) = !decide (x = y) := by
  obtain ⟨a, b⟩ := x
  obtain ⟨c, d⟩ := y
  by_cases h1 : a = c <;> by_cases h2 : b = d <;> simp [h1, h2]
theorem sameNode_spec (hZ : ZOk Tryz.prog Z) (x y : Nod) : Does Z Tryz.prog G B0 89 [ndA false x, ndA false y] [] [] (fun z _ => z = bA (decide (x = y))) := by
  refine Does.bodyF hZ Tryz.func89 rfl rfl (Nat.le_of_ble_eq_true rfl) fun hf => ?_
  obtain ⟨a1, a2, a3, a4, a5, a6, a7, p, a9⟩ := x
  obtain ⟨b1, b2, b3, b4, b5, b6, b7, q, b9⟩ := y
  simp [ndA, ndE, pcsE] at hf
  simp [Tryz.f89, ndA, ndE, bytes_eq, pcsE]
  refine Br.dec (fun h => ?_) (fun h => ?_) <;> simp [h, bool_beq]
  refine Br.dec (fun h => ?_) (fun h => ?_) <;> simp [h, bool_beq]
  refine Br.dec (fun h => ?_) (fun h => ?_) <;> simp [h, bool_beq]
  refine Br.dec (fun h => ?_) (fun h => ?_) <;> simp [h, bool_beq]
  refine Br.dec (fun h => ?_) (fun h => ?_) <;> simp [h, bool_beq]
  refine Br.dec (fun h => ?_) (fun h => ?_) <;> simp [h, bool_beq]
  refine Br.dec (fun h => ?_) (fun h => ?_) <;> simp [h, bool_beq]
  refine Br.dec (fun h => ?_) (fun h => ?_) <;> simp [h, bool_beq]
  refine Br.dec (fun h => ?_) (fun h => ?_)
  rotate_left
  · have hl : p ≠ q := fun e => h (by rw [e])
    simp [h, hl]
  have hl : p.length = q.length := by omega
  simp [hl]
  refine LoopA.run hZ (fun i : Nat => ⟨87, [(2, .ptr [(0, 0)]), (3, .ptr [(1, 0)]), (4, bA false), (5, iA i)], [ndE false ⟨b1, b2, b3, b4, b5, b6, b7, p, b9⟩, ndE false ⟨b1, b2, b3, b4, b5, b6, b7, q, b9⟩], [true, true]⟩) (fun i => i ≤ p.length ∧ p.take i = q.take i) (fun i => p.length - i) 0 (by simp) (Sub.by [0, 1] (by simp [ndE, pcsE])) fun i ⟨hi, he⟩ => ?_
  simp [ndE, pcsE]
  refine Br.dec (fun h => ?_) (fun h => ?_)
  · have hx : p[i]? = some p[i] := List.getElem?_eq_getElem h
    have hy : q[i]? = some q[i] := List.getElem?_eq_getElem (by omega)
    have hw := w_inc h (by have := hf.1.2; revert this; simp; intros; omega)
    first | refine W_draw hZ hmo 0 10 [(2, []), (2, []), (2, []), (2, []), (2, []), (2, []), (2, []), (2, []), (2, []), (2, [])] (by kernel_rfl) ?_
    simp [hx, hy, pcE]
    simp only [pc_ne]
    simp
    refine Br.dec (fun h2 => ?_) (fun h2 => ?_)
    · simp [h2]
      exact Again.mk (i + 1) ⟨by omega, by rw [List.take_add_one, List.take_add_one, he, hx, hy, h2]⟩ (by omega) (Sub.by [0, 1] (by simp [hw, ndE, pcsE, pcE]))
    · have hne : p ≠ q := by rintro rfl; simp at h2
      simp [h2, hne]
  · simp
    rwa [List.take_of_length_le (by omega), List.take_of_length_le (by omega)] at he
theorem sameTree_spec (hZ : ZOk Tryz.prog Z) (p q : Tree) : Does Z Tryz.prog G B0 25 [trA false p, trA false q] [] [] (fun y _ => y = bA (decide (p = q))) := by
  refine Does.bodyF hZ Tryz.func25 rfl rfl (Nat.le_of_ble_eq_true rfl) fun hf => ?_
  obtain ⟨a, b⟩ := p
  obtain ⟨c, d⟩ := q
  simp [trA, ndsE] at hf
  simp [Tryz.f25, trA, ndsE]
  refine Br.dec (fun h => ?_) (fun h => ?_)
  rotate_left
  · have hl : a ≠ c := fun e => h (by rw [e])
    simp [h, hl]
  have hl : a.length = c.length := by omega
  simp [hl]
  refine Br.dec (fun h => ?_) (fun h => ?_) <;> simp [h]
  refine LoopA.run hZ (fun i : Nat => ⟨39, [(2, .ptr [(0, 0)]), (3, .ptr [(1, 0)]), (4, bA false), (5, iA i)], [[ndsE false a, iC d], [ndsE false c, iC d]], [true, true]⟩) (fun i => i ≤ a.length ∧ a.take i = c.take i) (fun i => a.length - i) 0 (by simp) (Sub.by [0, 1] (by simp [ndsE])) fun i ⟨hi, he⟩ => ?_
  simp [ndsE]
  refine Br.dec (fun h => ?_) (fun h => ?_)
  · have hx : a[i]? = some a[i] := List.getElem?_eq_getElem h
    have hy : c[i]? = some c[i] := List.getElem?_eq_getElem (by omega)
    have hw := w_inc h hf.1.1
    first | refine W_draw hZ hmo 0 10 [(2, []), (2, []), (2, []), (2, []), (2, []), (2, []), (2, []), (2, []), (2, []), (2, [])] (by kernel_rfl) ?_
    simp [hx, hy, ndE]
    refine CallA.snapE (sameNode_spec hZ a[i] c[i]) (by simp [ndA, ndE]) (by simp) ?_
    simp
    refine Br.dec (fun h2 => ?_) (fun h2 => ?_)
    · simp [h2]
      exact Again.mk (i + 1) ⟨by omega, by rw [List.take_add_one, List.take_add_one, he, hx, hy, h2]⟩ (by omega) (Sub.by [0, 1] (by simp [hw, ndsE, ndE]))
    · have hne : a ≠ c := by rintro rfl; simp at h2
      simp [h2, hne]
  · simp
    rwa [List.take_of_length_le (by omega), List.take_of_length_le (by omega)] at he
theorem in_spec (hZ : ZOk Tryz.prog Z) (p : List Int) (x : Int) : Does Z Tryz.prog G B0 35 [.c (intsE false p), iA x] [] [] (fun y _ => y = bA (decide (x ∈ p))) := by
  refine Does.bodyF hZ Tryz.func35 rfl rfl (Nat.le_of_ble_eq_true rfl) fun hf => ?_
  simp [intsE] at hf
  simp [Tryz.f35, intsE]
  refine LoopA.run hZ (fun i : Nat => ⟨18, [(0, .c (intsE false p)), (1, iA x), (4, bA false), (5, iA i)], [], []⟩) (fun i => i ≤ p.length ∧ ∀ k, k < i → p[k]? ≠ some x) (fun i => p.length - i) 0 (by simp) (Sub.by [] (by simp [intsE])) fun i ⟨hi, he⟩ => ?_
  simp [intsE]
  refine Br.dec (fun h => ?_) (fun h => ?_)
  · have hx : p[i]? = some p[i] := List.getElem?_eq_getElem h
    have hw := w_inc h hf.1
    simp [hx]
    refine Br.dec (fun h2 => ?_) (fun h2 => ?_)
    · simp [h2]
      rw [← h2]; exact List.getElem_mem h
    · simp [h2]
      exact Again.mk (i + 1) ⟨by omega, fun k hk => by
        rcases Nat.lt_or_ge k i with c | c
        · exact he k c
        · rw [show k = i by omega, hx]; simpa using h2⟩ (by omega) (Sub.by [] (by simp [hw, intsE]))
  · simp
    intro hm
    obtain ⟨k, hk⟩ := List.getElem?_of_mem hm
    exact he k (by have := (List.getElem?_eq_some_iff.1 hk).1; omega) hk
theorem sameInts_spec (hZ : ZOk Tryz.prog Z) (p q : List Int) : Does Z Tryz.prog G B0 51 [.c (intsE false p), .c (intsE false q)] [] [] (fun y _ => y = bA (decide (p = q))) := by
  refine Does.bodyF hZ Tryz.func51 rfl rfl (Nat.le_of_ble_eq_true rfl) fun hf => ?_
  simp [intsE] at hf
  simp [Tryz.f51, intsE]
  refine Br.dec (fun h => ?_) (fun h => ?_)
  · have hl : p.length = q.length := by omega
    simp [h]
    refine LoopA.run hZ (fun i : Nat => ⟨26, [(0, .c (intsE false p)), (1, .c (intsE false q)), (4, bA false), (5, iA i)], [], []⟩) (fun i => i ≤ p.length ∧ p.take i = q.take i) (fun i => p.length - i) 0 (by simp) (Sub.by [] (by simp [intsE])) fun i ⟨hi, he⟩ => ?_
    simp [intsE]
    refine Br.dec (fun h => ?_) (fun h => ?_)
    · have hw := w_inc h hf.1.1
      have hx : p[i]? = some p[i] := List.getElem?_eq_getElem h
      have hy : q[i]? = some q[i] := List.getElem?_eq_getElem (by omega)
      refine W_draw hZ hmo 0 8 [(0, []), (0, []), (0, []), (0, []), (0, []), (0, []), (0, []), (0, [])] (by kernel_rfl) ?_
      simp [hx, hy]
      refine Br.dec (fun h2 => ?_) (fun h2 => ?_)
      · simp
        exact Again.mk (i + 1) ⟨by omega, by rw [List.take_add_one, List.take_add_one, he, hx, hy, h2]⟩ (by omega) (Sub.by [] (by simp [hw, intsE]))
      · have hne : p ≠ q := by rintro rfl; simp at h2
        simp [hne]
    · simp
      rwa [List.take_of_length_le (by omega), List.take_of_length_le (by omega)] at he
  · have hl : p ≠ q := fun e => h (by rw [e])
    simp [hl]
theorem begins_spec (hZ : ZOk Tryz.prog Z) (a b : ByteArray) : Does Z Tryz.prog G B0 56 [sA a, sA b] [] [] (fun y _ => y = bA (decide (a.size ≤ b.size) && decide (b.extract 0 a.size = a))) := by
  refine Does.bodyF hZ Tryz.func56 rfl rfl (Nat.le_of_ble_eq_true rfl) fun hf => ?_
  simp [Tryz.f56]
  refine Br.dec (fun h => ?_) (fun h => ?_) <;> simp [h]
end Go.Proofs.YtbhbkaonlillhaaGreatDoor
