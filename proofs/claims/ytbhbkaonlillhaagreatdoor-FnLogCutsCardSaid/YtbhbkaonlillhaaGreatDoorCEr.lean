/- Contracts: parents, records, places by the reference. -/
import Derived.Test.YtbhbkaonlillhaaGreatDoorCEq
namespace Go.Proofs.YtbhbkaonlillhaaGreatDoor
open Go Go.Abs Go.Proofs Go.Tm
set_option linter.unusedSimpArgs false
set_option linter.unusedVariables false
set_option maxRecDepth 10000
variable {Z : TypeId → Nat} {G : World → Prop} {B0 : Nat}
theorem nmB_size {x : ByteArray} (h : nmB x = true) : x.size ≤ 8 ∧ 1 ≤ x.size := by
  unfold nmB inB at h
  simp at h
  omega
theorem splitP_ok {p : ByteArray} {l : List ByteArray} (h : splitP p = some l) : l.length ≤ 4 ∧ ∀ x ∈ l, nmB x = true := by
  unfold splitP finP at h
  split at h
  · exact absurd h (by simp)
  · split at h
    · cases h; simp
    · split at h
      · rename_i h2; cases h; exact ⟨h2.2, List.all_eq_true.1 h2.1⟩
      · exact absurd h (by simp)
theorem ParentPath_spec (hZ : ZOk Tryz.prog Z) (p : ByteArray) (hp : p.size ≤ 1048576) : Does Z Tryz.prog G B0 174 [sA p] [] [] (fun y _ => y = .tup [sA ((parentP p).getD (⟨#[]⟩, ⟨#[]⟩)).1, sA ((parentP p).getD (⟨#[]⟩, ⟨#[]⟩)).2, bA (parentP p).isSome]) := by
  generalize hr : parentP p = r
  refine Does.bodyF hZ Tryz.func174 rfl rfl (Nat.le_of_ble_eq_true rfl) fun hf => ?_
  simp [Tryz.f174]
  refine CallA.snapE (SplitPath_spec hZ p hp) (by simp) (by simp [strsE, noShrLL_mem]) ?_
  unfold parentP at hr
  cases hs : splitP p with
  | none =>
    rw [hs] at hr
    dsimp only at hr
    subst hr
    simp [strsE]
  | some l =>
    rw [hs] at hr
    dsimp only at hr
    simp [strsE]
    have hl := splitP_ok hs
    rcases List.eq_nil_or_concat l with rfl | ⟨q, x, rfl⟩
    · simp at hr
      subst hr
      simp
    · rw [List.concat_eq_append] at hr hl ⊢
      simp at hr
      subst hr
      simp
      have hw : IntKind.i64.wrap (q.length : Int) = q.length := wrap_i64 (by have := hl.1; simp at this; omega)
      refine W_draw hZ hmo 1 13 [(1, []), (1, []), (1, []), (1, []), (1, []), (1, []), (2, []), (2, []), (2, []), (2, []), (2, []), (2, []), (2, [1])] (by kernel_rfl) ?_
      simp [hw, show (q.length : Int) ≤ (q.length : Int) + 1 by omega]
      refine CallD.snapE (JoinPath_spec hZ q ⟨by have := hl.1; simp at this; omega, fun y hy => by have := nmB_size (hl.2 y (by simp [hy])); omega⟩) (by simp [strsE]) (by simp) ?_
      simp [hw]
      refine Need.mk (by omega) ?_
      simp
theorem l11Named_spec (hZ : ZOk Tryz.prog Z) (p : ByteArray) (hp : p.size ≤ 1048576) : Does Z Tryz.prog G B0 114 [sA p] [] [] (fun y _ => y = bA (namedP p)) := by
  refine Does.bodyF hZ Tryz.func114 rfl rfl (Nat.le_of_ble_eq_true rfl) fun hf => ?_
  simp [Tryz.f114, namedP]
  refine CallA.snapE (ParentPath_spec hZ p hp) (by simp) (by simp) ?_
  simp
set_option maxHeartbeats 1000000 in
theorem l10Copy_spec (hZ : ZOk Tryz.prog Z) (t : Tree) (hq : Sm t.nodes) : Does Z Tryz.prog G B0 88 [trA false t] [] [] (fun y _ => y = trA true t) := by
  refine Does.bodyF hZ Tryz.func88 rfl rfl (Nat.le_of_ble_eq_true rfl) fun hf => ?_
  simp [trA, ndsE] at hf
  simp [Tryz.f88, trA, ndsE]
  refine LoopA.run hZ (fun p : Nat × List Nod => ⟨33, [(1, .ptr [(0, 0)]), (2, .ptr [(1, 0)]), (3, .ptr [(2, 0)]), (4, iA p.1)], [[ndsE false t.nodes, iC t.next], [ndsE true [], iC 0], [ndsE true p.2, iC t.next]], [true, true, true]⟩) (fun p => p.1 ≤ t.nodes.length ∧ p.2.length = p.1 ∧ p.2 = t.nodes.take p.1) (fun p => t.nodes.length - p.1) (0, []) (by simp) (Sub.by [0, 1, 2] (by simp [ndsE])) fun ⟨i, o⟩ ⟨hi, hol, ho⟩ => ?_
  dsimp only at hi hol ho
  simp [ndsE]
  refine Br.dec (fun h => ?_) (fun h => ?_)
  · have hx : t.nodes[i]? = some t.nodes[i] := List.getElem?_eq_getElem h
    have hp := hq.2 _ (List.getElem_mem h)
    have ht : t.nodes.take (i + 1) = o ++ [t.nodes[i]] := by rw [List.take_add_one, hx, ho]; rfl
    have hn := hq.1
    generalize t.nodes[i] = x at hx hp ht
    have hw := w_inc h hf.1
    simp [hx, ndE, pcsE]
    refine Need.mk (by omega) ?_
    simp
    refine Need.mk (by omega) ?_
    simp
    exact Again.mk (i + 1, o ++ [x]) ⟨by dsimp only; omega, by simp [hol], ht.symm⟩ (by dsimp only; omega) (Sub.by [0, 1, 2] (by simp [hw, ndsE, ndE, pcsE]; try rw [List.take_of_length_le (by simp)]))
  · rw [List.take_of_length_le (by omega)] at ho
    subst ho
    simp
end Go.Proofs.YtbhbkaonlillhaaGreatDoor
