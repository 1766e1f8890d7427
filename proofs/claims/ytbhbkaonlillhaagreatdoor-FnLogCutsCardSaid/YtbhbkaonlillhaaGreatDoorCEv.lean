/- Contracts: nodes set, moved, dropped. -/
import Derived.Test.YtbhbkaonlillhaaGreatDoorCEu
namespace Go.Proofs.YtbhbkaonlillhaaGreatDoor
open Go Go.Abs Go.Proofs Go.Tm
set_option linter.unusedSimpArgs false
set_option linter.unusedVariables false
set_option maxRecDepth 10000
variable {Z : TypeId → Nat} {G : World → Prop} {B0 : Nat}
set_option maxHeartbeats 1000000 in
theorem l12Set_spec (hZ : ZOk Tryz.prog Z) (t : Tree) (e : Edt) (k : Nat) (x : Nod) (hx : t.nodes[k]? = some x) (ht : okT t.nodes t.next = true) : Does Z Tryz.prog G B0 127 [trA false t, edA e, iA k] [] [] (fun y _ => y = .tup [trA true (setT t e k x).1, iA (setT t e k x).2]) := by
  generalize hr : setT t e k x = r
  refine Does.bodyF hZ Tryz.func127 rfl rfl (Nat.le_of_ble_eq_true rfl) fun hf => ?_
  simp [trA, ndsE] at hf
  simp [Tryz.f127, trA, ndsE, edA, edE]
  refine CallA.snapE (l10Copy_spec hZ t (okT_sm ht)) (by simp [trA, ndsE]) (by simp [trA, noShr_nds]) ?_
  unfold setT at hr
  have hlen := (okT_iff.1 ht).len2
  have hk : k < t.nodes.length := (List.getElem?_eq_some_iff.1 hx).1
  simp [trA, ndsE, hx, ndE, pcsE]
  refine Br.bool (fun h1 => ?_) (fun h1 => ?_) <;> simp [h1] at hr ⊢
  rotate_left
  · subst hr
    simp [trA, ndsE]
  refine Br.dec (fun h2 => ?_) (fun h2 => ?_) <;> simp [h2] at hr ⊢
  · simp [hk, hx, ndE, pcsE]
    subst hr
    simp [modN]
    exact map_mod _ _ _ _ _ (fun y => by simp [ndE])
  refine W_drawB hZ hmo 5 rfl 1 14 [(5, []), (5, []), (5, []), (5, []), (5, []), (5, []), (5, []), (5, []), (5, []), (5, []), (5, []), (5, []), (5, []), (5, [])] (by kernel_rfl) ?_
  simp
  refine Br.dec (fun h3 => ?_) (fun h3 => ?_) <;> simp [h3, hx, ndE, pcsE] at hr ⊢
  · refine CallD.snapE (UsedBelow_spec hZ t x.id) (by simp [trA, ndsE]) (by simp) ?_
    simp
    refine Br.dec (fun h4 => ?_) (fun h4 => ?_) <;> simp [h4] at hr ⊢
    · subst hr
      simp [trA, ndsE]
    · simp [hk, hx, ndE, pcsE]
      subst hr
      simp [modN]
      exact map_mod _ _ _ _ _ (fun y => by simp [ndE])
  · simp [hk, hx, ndE, pcsE]
    subst hr
    simp [modN]
    exact map_mod _ _ _ _ _ (fun y => by simp [ndE])
set_option maxHeartbeats 1000000 in
theorem l12Move_spec (hZ : ZOk Tryz.prog Z) (t : Tree) (e : Edt) (id : Int) (he : SmE e) (k : Nat) (x : Nod) (hx : t.nodes[k]? = some x) (hk : atI t.nodes id = (k : Int)) (ht : okT t.nodes t.next = true) : Does Z Tryz.prog G B0 125 [trA false t, edA e, iA id] [] [] (fun y _ => y = .tup [trA true (moveT t e id).1, iA (moveT t e id).2]) := by
  generalize hr : moveT t e id = r
  refine Does.bodyF hZ Tryz.func125 rfl rfl (Nat.le_of_ble_eq_true rfl) fun hf => ?_
  simp [trA, ndsE] at hf
  simp [Tryz.f125, trA, ndsE, edA, edE]
  refine CallA.snapE (l10Copy_spec hZ t (okT_sm ht)) (by simp [trA, ndsE]) (by simp [trA, noShr_nds]) ?_
  simp [trA, ndsE]
  refine CallA.snapE (ParentPath_up hZ e.to he.2) (by simp) (by simp) ?_
  simp
  refine CallA.snapE (FindPath_spec hZ t (upOf e.to).1 (upOf_size e.to).1) (by simp [trA, ndsE]) (by simp) ?_
  unfold moveT at hr
  have hlen := (okT_iff.1 ht).len2
  have hkl : k < t.nodes.length := (List.getElem?_eq_some_iff.1 hx).1
  simp
  refine Br.dec (fun h1 => ?_) (fun h1 => ?_) <;> simp [h1] at hr ⊢
  · subst hr
    simp [trA, ndsE]
  obtain ⟨j, q, gq, ga, gn⟩ := findP_nd h1
  refine W_drawB hZ hmo 7 rfl 1 5 [(7, []), (7, []), (7, []), (7, []), (7, [])] (by kernel_rfl) ?_
  simp
  refine CallD.snapE (l10At_spec hZ t (findP t (upOf e.to).1)) (by simp [trA, ndsE]) (by simp) ?_
  simp [ga, gq, ndE, pcsE]
  have hd : dirAt t.nodes (findP t (upOf e.to).1) = q.dir := by simp [dirAt, gn]
  rw [hd] at hr
  refine Br.bool (fun h2 => ?_) (fun h2 => ?_) <;> simp [h2] at hr ⊢
  rotate_left
  · subst hr
    simp [trA, ndsE]
  refine CallA.snapE (FindPath_spec hZ t e.to he.2) (by simp [trA, ndsE]) (by simp) ?_
  simp
  refine Br.dec (fun h3 => ?_) (fun h3 => ?_) <;> simp [h3] at hr ⊢
  rotate_left
  · subst hr
    simp [trA, ndsE]
  refine CallA.snapE (l10Below_spec hZ t (findP t (upOf e.to).1) id) (by simp [trA, ndsE]) (by simp) ?_
  simp
  refine Br.bool (fun h4 => ?_) (fun h4 => ?_) <;> simp [h4] at hr ⊢
  · subst hr
    simp [trA, ndsE]
  refine CallA.snapE (l10Copy_spec hZ t (okT_sm ht)) (by simp [trA, ndsE]) (by simp [trA, noShr_nds]) ?_
  simp [trA, ndsE]
  refine W_drawB hZ hmo 12 rfl 1 6 [(12, []), (12, []), (12, []), (12, []), (12, []), (13, [])] (by kernel_rfl) ?_
  simp
  refine CallD.snapE (l10At_spec hZ t id) (by simp [trA, ndsE]) (by simp) ?_
  simp [hk, hkl, hx, ndE, pcsE]
  refine W_drawB hZ hmo 13 rfl 1 6 [(13, []), (13, []), (13, []), (13, []), (13, []), (14, [])] (by kernel_rfl) ?_
  simp
  refine CallD.snapE (l10At_spec hZ t id) (by simp [trA, ndsE]) (by simp) ?_
  simp [hk, hkl, hx, ndE, pcsE, List.modify_modify_eq]
  have hm : (t.nodes.map (ndE true)).modify k ((fun x => x.set 2 (Cell.sc (Value.string (upOf e.to).2))) ∘ fun x => x.set 1 (Cell.sc (Value.int IntKind.i64 (findP t (upOf e.to).1)))) = (t.nodes.modify k (movedN (findP t (upOf e.to).1) (upOf e.to).2)).map (ndE true) := map_mod _ _ _ _ _ (fun y => by simp [ndE, movedN])
  have hat : atN t.nodes id = k := by simp [atN, hk]
  rw [hat] at hr
  rw [hm]
  refine CallA.snapE (TreeOk_spec hZ (modN t k (movedN (findP t (upOf e.to).1) (upOf e.to).2))) (by simp [trA, ndsE, modN]) (by simp) ?_
  simp
  refine Br.bool (fun h5 => ?_) (fun h5 => ?_) <;> simp [h5] at hr ⊢
  · subst hr
    simp [modN]
  · subst hr
    simp [trA, ndsE]
/-- A node of which the pieces are gone. -/
def ndG (l : List Nod) (top : Int) (x : Nod) : List Cell := if below l x.id top = true then ndE true x else [iC x.id, iC x.parent, sC x.name, bC x.dir, iC x.schema, iC x.quota, iC x.len, .hole, iC x.writer]
set_option maxHeartbeats 1000000 in
theorem l12Drop_spec (hZ : ZOk Tryz.prog Z) (t : Tree) (id : Int) (ht : okT t.nodes t.next = true) : Does Z Tryz.prog G B0 126 [trA false t, iA id] [] [] (fun y _ => y = trA true (dropT t id)) := by
  refine Does.bodyF hZ Tryz.func126 rfl rfl (Nat.le_of_ble_eq_true rfl) fun hf => ?_
  simp [trA, ndsE] at hf
  simp [Tryz.f126, trA, ndsE]
  refine CallA.snapE (l10Copy_spec hZ t (okT_sm ht)) (by simp [trA, ndsE]) (by simp [trA, noShr_nds]) ?_
  have hlen := (okT_iff.1 ht).len2
  simp [trA, ndsE]
  have hl : (t.nodes.map (ndG t.nodes id)).length = (t.nodes.map (ndE true)).length := by simp
  refine LoopA.run hZ (fun p : Nat × List Nod => ⟨41, [(1, iA id), (2, .ptr [(0, 0)]), (4, .ptr [(1, 0)]), (5, .ptr [(2, 0)]), (6, .ptr [(3, 0)]), (7, iA p.1)], [[ndsE false t.nodes, iC t.next], [ndsE true [], iC 0], [ndsE true p.2, iC t.next], [.row true 57 (mix (t.nodes.map (ndG t.nodes id)) (t.nodes.map (ndE true)) p.1), iC t.next]], [true, true, true, true]⟩) (fun p => p.1 ≤ t.nodes.length ∧ p.2.length ≤ p.1 ∧ p.2 = (t.nodes.take p.1).filter fun x => !below t.nodes x.id id) (fun p => t.nodes.length - p.1) (0, []) (by simp) (Sub.by [0, 1, 2, 4] (by simp [ndsE, mix_zero])) fun ⟨i, o⟩ ⟨hi, hol, ho⟩ => ?_
  dsimp only at hi hol ho
  have hml : (mix (t.nodes.map (ndG t.nodes id)) (t.nodes.map (ndE true)) i).length = t.nodes.length := by simp [mix]; omega
  simp [ndsE, hml]
  refine Br.dec (fun h => ?_) (fun h => ?_)
  · have hw := w_inc h hf.1
    have hx : t.nodes[i]? = some t.nodes[i] := List.getElem?_eq_getElem h
    have hm := mix_at (i := i) hl
    have hf2 : ((t.nodes.take (i + 1)).filter fun x => !below t.nodes x.id id) = o ++ (if (!below t.nodes t.nodes[i].id id) = true then [t.nodes[i]] else []) := by rw [filter_take hx, ho]
    have hs : below t.nodes t.nodes[i].id id = true → mix (t.nodes.map (ndG t.nodes id)) (t.nodes.map (ndE true)) (i + 1) = mix (t.nodes.map (ndG t.nodes id)) (t.nodes.map (ndE true)) i := fun hb => by
      rw [← mix_step (f := fun x => x) hl (by simp [hx, h, ndG, hb])]
      exact List.ext_getElem? fun j => by simp [List.getElem?_modify]
    generalize t.nodes[i] = x at hx hf2 hs
    refine W_drawB hZ hmo 4 rfl 0 8 [(4, []), (4, []), (4, []), (4, []), (4, []), (4, []), (4, []), (4, [])] (by kernel_rfl) ?_
    simp [hm, hx, hml, ndE, pcsE]
    refine Need.mk h ?_
    simp [hm, hx, hml, ndE, pcsE]
    refine CallA.snapE (l10Below_spec hZ t x.id id) (by simp [trA, ndsE]) (by simp) ?_
    simp
    refine Br.bool (fun h2 => ?_) (fun h2 => ?_) <;> simp [h2] at hf2 ⊢
    · exact Again.mk (i + 1, o) ⟨by dsimp only; omega, by dsimp only; omega, hf2.symm⟩ (by dsimp only; omega) (Sub.by [0, 1, 2, 3] (by simp [hw, ndsE, hs h2]))
    · refine W_drawMB hZ hmo 5 rfl 1 7 [(5, []), (5, []), (5, []), (5, []), (5, []), (5, []), (5, [])] [0, 1] 5 (by kernel_rfl) rfl ?_
      simp [hm, hx, hml, ndE, pcsE]
      refine Need.mk h ?_
      simp [hm, hx, hml, ndE, pcsE]
      refine Need.mk (by omega) ?_
      simp
      have hms : (mix (t.nodes.map (ndG t.nodes id)) (t.nodes.map (ndE true)) i).modify i (fun x => x.set 7 Cell.hole) = mix (t.nodes.map (ndG t.nodes id)) (t.nodes.map (ndE true)) (i + 1) := mix_step hl (by simp [hx, ndG, h2, ndE])
      exact Again.mk (i + 1, o ++ [x]) ⟨by dsimp only; omega, by simp; omega, hf2.symm⟩ (by dsimp only; omega) (Sub.by [0, 1, 2, 3] (by simp [hw, hms, ndsE, ndE, pcsE]))
  · rw [List.take_of_length_le (by omega)] at ho
    subst ho
    simp [dropT]
end Go.Proofs.YtbhbkaonlillhaaGreatDoor
