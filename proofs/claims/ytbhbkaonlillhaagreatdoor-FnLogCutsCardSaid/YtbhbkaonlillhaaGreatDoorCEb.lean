/- Contracts of the laws' small functions: copies, comparisons. -/
import Derived.Test.YtbhbkaonlillhaaGreatDoorCEn
import Derived.Test.YtbhbkaonlillhaaGreatDoorTm
namespace Go.Proofs.YtbhbkaonlillhaaGreatDoor
open Go Go.Abs Go.Proofs Go.Tm
set_option linter.unusedSimpArgs false
set_option linter.unusedVariables false
variable {Z : TypeId → Nat} {G : World → Prop} {B0 : Nat}

theorem toPiece_spec (hZ : ZOk Tryz.prog Z) (p : Pc) : Does Z Tryz.prog G B0 246 [pcA p] [] [] (fun y _ => y = pcA p) := by
  refine Does.body hZ Tryz.func246 rfl rfl (Nat.le_of_ble_eq_true rfl) ?_
  simp [Tryz.f246, pcA, pcE]

theorem toPieceS_spec (hZ : ZOk Tryz.prog Z) (p : List Pc) (hp : p.length ≤ 1048576) : Does Z Tryz.prog G B0 217 [.c (pcsL p)] [] [] (fun y _ => y = .c (pcsE true p)) := by
  refine Does.bodyF hZ Tryz.func217 rfl rfl (Nat.le_of_ble_eq_true rfl) fun hf => ?_
  simp [pcsL] at hf
  simp [Tryz.f217, pcsL]
  refine Need.mk (by omega) ?_
  simp
  have hl : (p.map pcE).length = (List.replicate p.length [iC 0, iC 0]).length := by simp
  refine LoopA.run hZ (fun i : Nat => ⟨23, [(0, .c (pcsL p)), (3, .bor [(0, 0)] 0 p.length), (4, iA i)], [[.row true 121 (mix (p.map pcE) (List.replicate p.length [iC 0, iC 0]) i)]], [false]⟩) (fun i => i ≤ p.length) (fun i => p.length - i) 0 (by simp) (Sub.by [0] (by simp [pcsL, mix_zero])) fun i hi => ?_
  simp [pcsL]
  refine Br.dec (fun h => ?_) (fun h => ?_)
  · have hw := w_inc h hf.1
    have hx : p[i]? = some p[i] := List.getElem?_eq_getElem h
    have hm := mix_at (i := i) hl
    simp [hx, pcE]
    refine CallA.snapE (toPiece_spec hZ p[i]) (by simp [pcA, pcE]) (by simp [pcA, pcE]) ?_
    simp [pcA, pcE, h, hm]
    exact Again.mk (i + 1) (by omega) (by omega) (Sub.by [0] (by simp [pcsL, hw, List.modify_modify_eq]; exact mix_step hl (by simp [hx, h, pcE])))
  · simp [mix_all (i := i) hl (by simp; omega), pcsE]

theorem toInode_spec (hZ : ZOk Tryz.prog Z) (n : Nod) (hp : n.pieces.length ≤ 1048576) : Does Z Tryz.prog G B0 170 [ndLA n] [] [] (fun y _ => y = ndA true n) := by
  refine Does.body hZ Tryz.func170 rfl rfl (Nat.le_of_ble_eq_true rfl) ?_
  simp [Tryz.f170, ndLA, ndL, pcsL]
  refine CallA.snapE (toPieceS_spec hZ n.pieces hp) (by simp [pcsL]) (by simp [pcsE, noShrLL_mem, pcE]) ?_
  simp [pcsE, ndA, ndE]

theorem noShr_pcs (l : List Pc) : noShr (pcsE true l) = true := by simp [pcsE, noShrLL_mem, pcE]
theorem noShr_nds (l : List Nod) : noShr (ndsE true l) = true := by simp [ndsE, ndE, noShrLL_mem, pcE, pcsE]

/-- Small enough to be copied. -/
def Sm (l : List Nod) : Prop := l.length ≤ 1048576 ∧ ∀ x ∈ l, x.pieces.length ≤ 1048576
def zNod : List Cell := [iC 0, iC 0, sC ⟨#[]⟩, bC false, iC 0, iC 0, iC 0, .row true 121 [], iC 0]

theorem toInodeS_spec (hZ : ZOk Tryz.prog Z) (p : List Nod) (hp : Sm p) : Does Z Tryz.prog G B0 106 [.c (ndsL p)] [] [] (fun y _ => y = .c (ndsE true p)) := by
  refine Does.bodyF hZ Tryz.func106 rfl rfl (Nat.le_of_ble_eq_true rfl) fun hf => ?_
  simp [ndsL] at hf
  simp [Tryz.f106, ndsL]
  refine Need.mk (by have := hp.1; omega) ?_
  simp
  have hl : (p.map (ndE true)).length = (List.replicate p.length zNod).length := by simp
  refine LoopA.run hZ (fun i : Nat => ⟨23, [(0, .c (ndsL p)), (3, .bor [(0, 0)] 0 p.length), (4, iA i)], [[.row true 57 (mix (p.map (ndE true)) (List.replicate p.length zNod) i)]], [false]⟩) (fun i => i ≤ p.length) (fun i => p.length - i) 0 (by simp) (Sub.by [0] (by simp [ndsL, mix_zero, zNod])) fun i hi => ?_
  simp [ndsL]
  refine Br.dec (fun h => ?_) (fun h => ?_)
  · have hw := w_inc h hf.1
    have hx : p[i]? = some p[i] := List.getElem?_eq_getElem h
    have hm : (mix (p.map (ndE true)) (List.replicate p.length zNod) i)[i]? = some [iC 0, iC 0, sC ⟨#[]⟩, bC false, iC 0, iC 0, iC 0, .row true 121 [], iC 0] := by rw [mix_at hl]; simp [h, zNod]
    simp [hx, ndL]
    refine CallA.snapE (toInode_spec hZ p[i] (hp.2 _ (List.getElem_mem h))) (by simp [ndLA, ndL]) (by simp [ndA, ndE, noShr_pcs]) ?_
    simp [ndA, ndE, pcsE, h, hm]
    exact Again.mk (i + 1) (by omega) (by omega) (Sub.by [0] (by simp [ndsL, hw, List.modify_modify_eq]; exact mix_step hl (by simp [hx, h, ndE, zNod, pcsE])))
  · simp [mix_all (i := i) hl (by simp; omega), ndsE]

theorem toTree_spec (hZ : ZOk Tryz.prog Z) (t : Tree) (hp : Sm t.nodes) : Does Z Tryz.prog G B0 41 [trL t] [] [] (fun y _ => y = trA true t) := by
  refine Does.body hZ Tryz.func41 rfl rfl (Nat.le_of_ble_eq_true rfl) ?_
  simp [Tryz.f41, trL, ndsL]
  refine CallA.snapE (toInodeS_spec hZ t.nodes hp) (by simp [ndsL]) (by simp [noShr_nds]) ?_
  simp [trA, ndsE]

theorem eqInode_spec (hZ : ZOk Tryz.prog Z) (x y : Nod) : Does Z Tryz.prog G B0 171 [ndA false x, ndA false y] [] [] (fun z _ => z = bA (decide (x = y))) := by
  refine Does.body hZ Tryz.func171 rfl rfl (Nat.le_of_ble_eq_true rfl) ?_
  obtain ⟨a1, a2, a3, a4, a5, a6, a7, a8, a9⟩ := x
  obtain ⟨b1, b2, b3, b4, b5, b6, b7, b8, b9⟩ := y
  simp [Tryz.f171, ndA, ndE, bytes_eq, pcsE]
  refine Br.dec (fun h => ?_) (fun h => ?_) <;> simp [h, bool_beq]
  refine Br.dec (fun h => ?_) (fun h => ?_) <;> simp [h, bool_beq]
  refine Br.dec (fun h => ?_) (fun h => ?_) <;> simp [h, bool_beq]
  refine Br.dec (fun h => ?_) (fun h => ?_) <;> simp [h, bool_beq]
  refine Br.dec (fun h => ?_) (fun h => ?_) <;> simp [h, bool_beq]
  refine Br.dec (fun h => ?_) (fun h => ?_) <;> simp [h, bool_beq]
  refine Br.dec (fun h => ?_) (fun h => ?_) <;> simp [h, bool_beq]
  refine CallA.snapE (eqPieceS_spec hZ a8 b8) (by simp [pcsE]) (by simp) ?_
  simp
  refine Br.dec (fun h => ?_) (fun h => ?_) <;> simp [h]
  refine Br.dec (fun h => ?_) (fun h => ?_) <;> simp [h]

theorem eqInodeS_spec (hZ : ZOk Tryz.prog Z) (p q : List Nod) : Does Z Tryz.prog G B0 107 [.c (ndsE false p), .c (ndsE false q)] [] [] (fun y _ => y = bA (decide (p = q))) := by
  refine Does.bodyF hZ Tryz.func107 rfl rfl (Nat.le_of_ble_eq_true rfl) fun hf => ?_
  simp [ndsE] at hf
  simp [Tryz.f107, ndsE]
  refine Br.dec (fun h => ?_) (fun h => ?_)
  · have hl : p.length = q.length := by omega
    simp
    refine LoopA.run hZ (fun i : Nat => ⟨27, [(0, .c (ndsE false p)), (1, .c (ndsE false q)), (4, bA false), (5, iA i)], [], []⟩) (fun i => i ≤ p.length ∧ p.take i = q.take i) (fun i => p.length - i) 0 (by simp) (Sub.by [] (by simp [ndsE])) fun i ⟨hi, he⟩ => ?_
    simp [ndsE]
    refine Br.dec (fun h => ?_) (fun h => ?_)
    · have hw := w_inc h hf.1.1
      have hx : p[i]? = some p[i] := List.getElem?_eq_getElem h
      have hy : q[i]? = some q[i] := List.getElem?_eq_getElem (by omega)
      refine W_draw hZ hmo 0 8 [(0, []), (0, []), (0, []), (0, []), (0, []), (0, []), (0, []), (0, [])] (by kernel_rfl) ?_
      simp [hx, hy, ndE]
      refine CallA.snapE (eqInode_spec hZ p[i] q[i]) (by simp [ndA, ndE]) (by simp) ?_
      simp
      refine Br.dec (fun h2 => ?_) (fun h2 => ?_)
      · simp
        exact Again.mk (i + 1) ⟨by omega, by rw [List.take_add_one, List.take_add_one, he, hx, hy, h2]⟩ (by omega) (Sub.by [] (by simp [hw, ndsE]))
      · have hne : p ≠ q := by rintro rfl; simp at h2
        simp [hne]
    · simp
      rwa [List.take_of_length_le (by omega), List.take_of_length_le (by omega)] at he
  · have hl : p ≠ q := fun e => h (by rw [e])
    simp [hl]

theorem eqTree_spec (hZ : ZOk Tryz.prog Z) (p q : Tree) : Does Z Tryz.prog G B0 43 [trA false p, trA false q] [] [] (fun y _ => y = bA (decide (p = q))) := by
  refine Does.body hZ Tryz.func43 rfl rfl (Nat.le_of_ble_eq_true rfl) ?_
  obtain ⟨a, b⟩ := p
  obtain ⟨c, d⟩ := q
  simp [Tryz.f43, trA, ndsE]
  refine CallA.snapE (eqInodeS_spec hZ a c) (by simp [ndsE]) (by simp) ?_
  simp
  refine Br.dec (fun h => ?_) (fun h => ?_) <;> simp [h]
  refine Br.dec (fun h => ?_) (fun h => ?_) <;> simp [h]

end Go.Proofs.YtbhbkaonlillhaaGreatDoor
