/- Contracts: nodes moved; why a file may not be longer; by the program. -/
import Derived.Test.YtbhbkaonlillhaaGreatDoorCFe
namespace Go.Proofs.YtbhbkaonlillhaaGreatDoor
open Go Go.Abs Go.Proofs Go.Tm
set_option linter.unusedSimpArgs false
set_option linter.unusedVariables false
set_option maxRecDepth 10000
variable {Z : TypeId → Nat} {G : World → Prop} {B0 : Nat}
def movedTree (t : Tree) (e : Edt) : Tree := modN t (atN t.nodes (findP t e.path)) (movedN (findP t (upOf e.to).1) (upOf e.to).2)
def moveTi (t : Tree) (e : Edt) : Tree × Int :=
  if findP t e.path = 0 then (t, 1)
  else if parentC t e.to ≠ 0 then (t, parentC t e.to)
  else if under e.to e.path = true then (t, 7)
  else if okT (movedTree t e).nodes (movedTree t e).next = false then (t, 8) else (movedTree t e, 0)
set_option maxHeartbeats 1000000 in
theorem movedTo_spec (hZ : ZOk Tryz.prog Z) (hG : ∀ w, G w → MG w) (t : Tree) (e : Edt) (he : SmE e) (ht : okT t.nodes t.next = true) : Does Z Tryz.prog G B0 164 [trA false t, edA e] [] [] (fun y _ => y = .tup [trA (decide ((moveTi t e).2 = 0)) (moveTi t e).1, iA (moveTi t e).2]) := by
  generalize hr : moveTi t e = r
  refine Does.bodyF hZ Tryz.func164 rfl rfl (Nat.le_of_ble_eq_true rfl) fun hf => ?_
  simp [Tryz.f164, trA, ndsE, edA, edE]
  unfold moveTi at hr
  refine CallA.snapE (found_spec hZ hG t e.path he.1 ht) (by simp [trA, ndsE]) (by simp) ?_
  by_cases h1 : findP t e.path = 0
  · rw [if_pos h1] at hr
    subst hr
    simp [h1, at_zero ht]
  rw [if_neg h1] at hr
  obtain ⟨k, x, hx, ga, gn⟩ := findP_nd h1
  have hk0 : ¬ ((k : Int) < 0) := by omega
  have hat : atN t.nodes (findP t e.path) = k := by simp [atN, ga]
  have hlen := (okT_iff.1 ht).len2
  have hkl : k < t.nodes.length := (List.getElem?_eq_some_iff.1 hx).1
  simp [ga, hk0]
  refine CallA.snapE (parentCode_spec hZ hG t e.to he.2 ht) (by simp [trA, ndsE]) (by simp) ?_
  simp
  refine Br.dec (fun h2 => ?_) (fun h2 => ?_) <;> simp [h2] at hr ⊢
  rotate_left
  · subst hr
    simp [h2]
  refine CallA.snapE (underPath_spec hZ e.to e.path he.1) (by simp) (by simp) ?_
  simp
  refine Br.bool (fun h3 => ?_) (fun h3 => ?_) <;> simp [h3] at hr ⊢
  · subst hr
    simp [trA, ndsE]
  refine CallA.snapE (iParentPath_spec hZ hG e.to he.2) (by simp) (by simp) ?_
  simp
  refine CallA.snapE (copyTree_spec hZ t (okT_sm ht)) (by simp [trA, ndsE]) (by simp [trA, noShr_nds]) ?_
  simp [trA, ndsE]
  refine W_drawMB hZ hmo 9 rfl 1 12 [(9, []), (9, []), (9, []), (9, []), (9, []), (9, []), (9, []), (9, []), (9, []), (10, []), (10, [9]), (10, [9])] [3, 4, 5, 9] 10 (by kernel_rfl) rfl ?_
  simp
  refine CallD.snapE (iFindPath_spec hZ hG t (upOf e.to).1 (upOf_size e.to).1 (okT_ids ht)) (by simp [trA, ndsE]) (by simp) ?_
  simp [hkl, hx, ndE, pcsE, List.modify_modify_eq]
  have hm : (t.nodes.map (ndE true)).modify k ((fun x => x.set 2 (Cell.sc (Value.string (upOf e.to).2))) ∘ fun x => x.set 1 (Cell.sc (Value.int IntKind.i64 (findP t (upOf e.to).1)))) = (t.nodes.modify k (movedN (findP t (upOf e.to).1) (upOf e.to).2)).map (ndE true) := map_mod _ _ _ _ _ (fun y => by simp [ndE, movedN])
  have hmt : movedTree t e = modN t k (movedN (findP t (upOf e.to).1) (upOf e.to).2) := by rw [movedTree, hat]
  rw [hmt] at hr
  rw [hm]
  refine CallA.snapE (iTreeOk_spec hZ (modN t k (movedN (findP t (upOf e.to).1) (upOf e.to).2))) (by simp [trA, ndsE, modN]) (by simp) ?_
  simp
  refine Br.bool (fun h5 => ?_) (fun h5 => ?_) <;> simp [h5] at hr ⊢
  · subst hr
    simp [modN]
  · subst hr
    simp [trA, ndsE]
def addC (t : Tree) (x : Nod) (n : Int) : Int :=
  if x.dir = true then 3
  else if x.writer = 0 then 6
  else if roomFor t x.id n = false ∨ 1000 < x.len + n then 5
  else if (40 : Int) < (x.pieces.length : Int) + ((spans x.schema n).length : Int) then 8 else 0
theorem addCode_spec (hZ : ZOk Tryz.prog Z) (t : Tree) (x : Nod) (n : Int) (hxl : 0 ≤ x.len ∧ x.len ≤ 1000) (hxp : x.pieces.length ≤ 40) (hn : 1 ≤ n ∧ n ≤ 200) : Does Z Tryz.prog G B0 210 [trA false t, ndA false x, iA n] [] [] (fun y _ => y = iA (addC t x n)) := by
  generalize hr : addC t x n = r
  refine Does.bodyF hZ Tryz.func210 rfl rfl (Nat.le_of_ble_eq_true rfl) fun hf => ?_
  simp [Tryz.f210, trA, ndsE, ndA, ndE, pcsE]
  unfold addC at hr
  have hw : IntKind.i64.wrap (x.len + n) = x.len + n := wrap_i64 (by omega)
  refine Br.bool (fun h1 => ?_) (fun h1 => ?_) <;> simp [h1] at hr ⊢
  · exact hr
  refine Br.dec (fun h2 => ?_) (fun h2 => ?_) <;> simp [h2] at hr ⊢
  · exact hr
  refine CallA.snapE (iRoomFor_spec hZ t x.id n) (by simp [trA, ndsE]) (by simp) ?_
  simp
  refine Br.bool (fun h3 => ?_) (fun h3 => ?_) <;> simp [h3, hw] at hr ⊢
  rotate_left
  · exact hr
  refine Br.dec (fun h4 => ?_) (fun h4 => ?_) <;> simp [h3, h4, hw] at hr ⊢
  · exact hr
  have hsl := spans_len x.schema n
  refine W_drawB hZ hmo 3 rfl 1 8 [(3, []), (3, []), (3, []), (3, []), (3, []), (3, []), (3, []), (4, [3])] (by kernel_rfl) ?_
  simp
  refine CallD.snapE (iSpans_spec2 hZ x.schema n) (by simp) (by simp [noShr_ints]) ?_
  have hw2 : IntKind.i64.wrap ((x.pieces.length : Int) + ((spans x.schema n).length : Int)) = (x.pieces.length : Int) + (spans x.schema n).length := wrap_i64 (by omega)
  simp [intsE, hw2]
  refine Br.dec (fun h5 => ?_) (fun h5 => ?_) <;> simp [h5] at hr ⊢
  · exact hr
  · exact hr
end Go.Proofs.YtbhbkaonlillhaaGreatDoor
