/- Contracts: a record about a node that is there, by the program (all but EdDrop). -/
import Derived.Test.YtbhbkaonlillhaaGreatDoorCFf
namespace Go.Proofs.YtbhbkaonlillhaaGreatDoor
open Go Go.Abs Go.Proofs Go.Tm
set_option linter.unusedSimpArgs false
set_option linter.unusedVariables false
set_option maxRecDepth 10000
variable {Z : TypeId → Nat} {G : World → Prop} {B0 : Nat}
def turnedT (t : Tree) (e : Edt) (k : Nat) (x : Nod) (g : Int) : Tree × Int :=
  if e.kind = 5 ∨ e.kind = 6 then setT t e k x
  else if e.kind = 7 then (if addC t x e.num ≠ 0 then (t, addC t x e.num) else (modN t k fun y => { y with pieces := x.pieces ++ newPcs g (spans x.schema e.num), len := x.len + e.num }, 0))
  else if x.dir = true then (t, 3)
  else if decide (e.kind = 8) = decide (x.writer = 0) then (t, 6)
  else (modN t k fun y => { y with writer := e.who }, 0)
set_option maxHeartbeats 2000000 in
theorem turned_rest (hZ : ZOk Tryz.prog Z) (t : Tree) (e : Edt) (k : Nat) (x : Nod) (g : Int) (hx : t.nodes[k]? = some x) (ht : okT t.nodes t.next = true) (hn : e.kind = 7 → 1 ≤ e.num ∧ e.num ≤ 200) (hg : 1 ≤ g ∧ g ≤ 99000) (hk5 : e.kind = 5 ∨ e.kind = 6 ∨ e.kind = 7 ∨ e.kind = 8 ∨ e.kind = 9) : Does Z Tryz.prog G B0 165 [trA false t, iA k, edA e, iA g] [] [] (fun y _ => y = .tup [trA (decide ((turnedT t e k x g).2 = 0)) (turnedT t e k x g).1, iA (turnedT t e k x g).2]) := by
  generalize hr : turnedT t e k x g = r
  refine Does.bodyF hZ Tryz.func165 rfl rfl (Nat.le_of_ble_eq_true rfl) fun hf => ?_
  simp [Tryz.f165, trA, ndsE, edA, edE]
  refine CallA.snapE (copyTree_spec hZ t (okT_sm ht)) (by simp [trA, ndsE]) (by simp [trA, noShr_nds]) ?_
  unfold turnedT setT at hr
  have hlen := (okT_iff.1 ht).len2
  have hk : k < t.nodes.length := (List.getElem?_eq_some_iff.1 hx).1
  have hxk : t.nodes[k] = x := (List.getElem?_eq_some_iff.1 hx).2
  have hxm := List.mem_of_getElem? hx
  simp [trA, ndsE, hx, hk, hxk, ndE, pcsE]
  rcases hk5 with h5 | h6 | h7 | h8 | h9
  · simp [h5, hx, hk, hxk, ndE, pcsE] at hr ⊢
    refine Br.bool (fun h1 => ?_) (fun h1 => ?_) <;> simp [h1, h5, hx, hk, hxk, ndE, pcsE] at hr ⊢
    · subst hr
      simp [modN]
      exact map_mod _ _ _ _ _ (fun y => by simp [ndE])
    · subst hr
      simp [trA, ndsE]
  · simp [h6, hx, hk, hxk, ndE, pcsE] at hr ⊢
    refine Br.bool (fun h1 => ?_) (fun h1 => ?_) <;> simp [h1, h6, hx, hk, hxk, ndE, pcsE] at hr ⊢
    · refine W_drawB hZ hmo 5 rfl 1 12 [(5, []), (5, []), (5, []), (5, []), (5, []), (5, []), (5, []), (5, []), (5, []), (5, []), (5, []), (5, [])] (by kernel_rfl) ?_
      simp
      refine Br.dec (fun h3 => ?_) (fun h3 => ?_) <;> simp [h3, h6, hx, hk, hxk, ndE, pcsE] at hr ⊢
      · refine CallD.snapE (iUsedBelow_spec hZ t x.id) (by simp [trA, ndsE]) (by simp) ?_
        simp
        refine Br.dec (fun h4 => ?_) (fun h4 => ?_) <;> simp [h4] at hr ⊢
        · subst hr
          simp [trA, ndsE]
        · simp [hk, hx, hxk, ndE, pcsE]
          subst hr
          simp [modN]
          exact map_mod _ _ _ _ _ (fun y => by simp [ndE])
      · subst hr
        simp [modN]
        exact map_mod _ _ _ _ _ (fun y => by simp [ndE])
    · subst hr
      simp [trA, ndsE]
  · simp [h7, hx, hk, hxk, ndE, pcsE] at hr ⊢
    have hnd := (okT_iff.1 ht).nds x hxm
    have hxp : x.pieces.length ≤ 40 := by
      cases hd : x.dir with
      | true => rw [(ndB_dir hnd hd).2.2.2.1]; simp
      | false => exact (ndB_file hnd hd).2.2.1
    refine W_drawB hZ hmo 5 rfl 0 6 [(5, []), (5, []), (5, []), (5, []), (5, []), (5, [])] (by kernel_rfl) ?_
    simp [hx, hk, hxk, ndE, pcsE]
    refine CallA.snapE (addCode_spec hZ t x e.num (ndB_len hnd) hxp (hn h7)) (by simp [trA, ndsE, ndA, ndE, pcsE, hx]) (by simp) ?_
    simp
    refine Br.dec (fun h2 => ?_) (fun h2 => ?_) <;> simp [h2] at hr ⊢
    rotate_left
    · subst hr
      simp [h2]
    refine W_drawB hZ hmo 6 rfl 1 9 [(6, []), (6, []), (6, []), (6, []), (6, []), (6, []), (6, []), (7, [6]), (7, [])] (by kernel_rfl) ?_
    simp [hx, hk, hxk, ndE, pcsE]
    refine CallD.snapE (iSpans_spec2 hZ x.schema e.num) (by simp) (by simp [noShr_ints]) ?_
    have hsl := spans_len x.schema e.num
    generalize spans x.schema e.num = l at hr hsl ⊢
    simp [intsE]
    have hz0 : t.nodes.modify k (addedN x g []) = t.nodes := modify_same hx _ (by simp [addedN, newPcs])
    refine LoopA.run hZ (fun i : Nat => ⟨153, [(3, iA g), (6, .ptr [(0, 0)]), (8, .ptr [(1, 0)]), (10, .ptr [(2, 0)]), (11, .ptr [(2, 0), (k, 0)]), (83, .bor [(3, 0)] 0 l.length), (84, iA l.length), (85, iA i)], [edE e, [ndsE true [], iC 0], [ndsE true (t.nodes.modify k (addedN x g (l.take i))), iC t.next], [intsE true l]], [true, true, true, false]⟩) (fun i => i ≤ l.length) (fun i => l.length - i) 0 (by simp) (Sub.by [1, 2, 4, 6] (by simp [ndsE, ndE, pcsE, edE, intsE, hz0, h7])) fun i hi => ?_
    simp [ndsE, ndE, pcsE, edE, intsE]
    refine Br.dec (fun h5 => ?_) (fun h5 => ?_)
    · have hy : l[i]? = some l[i] := List.getElem?_eq_getElem h5
      have hwi : IntKind.i64.wrap ((i : Int) + 1) = ((i + 1 : Nat) : Int) := wrap_i64 (by omega)
      have hwg : IntKind.i64.wrap (g + i) = g + i := wrap_i64 (by omega)
      have hmk : (t.nodes.modify k (addedN x g (l.take i)))[k]? = some (addedN x g (l.take i) x) := by simp [List.getElem?_modify, hx]
      have hmin : min i l.length = i := by omega
      generalize l[i] = z at hy
      simp [hmk, hx, hy, ndE, pcsE, addedN, hwg]
      refine Need.mk h5 ?_
      simp [hmk, hx, hy, ndE, pcsE, addedN, hwg]
      refine Need.mk (by omega) ?_
      simp [hmk, hx, hy, ndE, pcsE, addedN, hwg]
      have htk : newPcs g (l.take (i + 1)) = newPcs g (l.take i) ++ [⟨g + i, z⟩] := by rw [List.take_add_one, hy, Option.toList, newPcs_snoc, List.length_take, hmin]
      have hfin : ((t.nodes.modify k (addedN x g (l.take i))).map (ndE true)).modify k ((fun y => y.set 7 (.row true 121 (x.pieces.map pcE ++ (newPcs g (l.take i)).map pcE ++ [[iC (g + i), iC z]]))) ∘ fun y => y.set 7 Cell.hole) = (t.nodes.modify k (addedN x g (l.take (i + 1)))).map (ndE true) := by
        rw [map_mod (ndE true) (fun y => { y with pieces := x.pieces ++ newPcs g (l.take (i + 1)) }) _ _ _ (fun y => by simp [ndE, pcsE, htk, pcE]), List.modify_modify_eq]
        rfl
      refine Again.mk (i + 1) (by omega) (by omega) (Sub.by [0, 1, 2, 3] ?_)
      simp [hwi, ndsE, ndE, pcsE, edE, intsE, List.modify_modify_eq]
      rw [hmin, List.take_of_length_le (show (x.pieces.map pcE ++ (newPcs g (l.take i)).map pcE).length ≤ x.pieces.length + i by simp; omega), show List.take (x.pieces.length + i + 1) (x.pieces.map pcE ++ (newPcs g (l.take i)).map pcE ++ [[iC (g + i), iC z]]) = x.pieces.map pcE ++ (newPcs g (l.take i)).map pcE ++ [[iC (g + i), iC z]] from List.take_of_length_le (by simp; omega)]
      exact hfin
    · have hmk : (t.nodes.modify k (addedN x g (l.take i)))[k]? = some (addedN x g (l.take i) x) := by simp [List.getElem?_modify, hx]
      rw [List.take_of_length_le (show l.length ≤ i by omega)] at hmk ⊢
      refine W_drawB hZ hmo 4 rfl 0 6 [(4, []), (4, []), (4, []), (4, []), (4, []), (4, [])] (by kernel_rfl) ?_
      have hn7 := hn h7
      have hln := ndB_len hnd
      have hw : IntKind.i64.wrap (x.len + e.num) = x.len + e.num := wrap_i64 (by omega)
      simp [hmk, hk, hx, hxk, hw, ndE, pcsE, addedN]
      subst hr
      rw [List.take_of_length_le (by simp), List.take_of_length_le (by simp), map_mod (ndE true) (fun y => { y with len := x.len + e.num }) _ _ _ (fun y => by simp [ndE]), List.modify_modify_eq]
      exact ⟨⟨⟨rfl, rfl⟩, rfl⟩, rfl⟩
  · simp [h8, hx, hk, hxk, ndE, pcsE] at hr ⊢
    refine Br.bool (fun h1 => ?_) (fun h1 => ?_) <;> simp [h1, h8, hx, hk, hxk, ndE, pcsE] at hr ⊢
    · subst hr
      simp [trA, ndsE]
    · refine W_drawB hZ hmo 5 rfl 0 8 [(5, []), (5, []), (5, []), (5, []), (5, []), (5, []), (5, []), (5, [])] (by kernel_rfl) ?_
      simp [h8, hx, hk, hxk, ndE, pcsE]
      by_cases h0 : x.writer = 0
      · simp [h0] at hr ⊢
        subst hr
        simp [trA, ndsE]
      · simp [h0, hx, hk, hxk, ndE, pcsE] at hr ⊢
        subst hr
        simp [modN]
        exact map_mod _ _ _ _ _ (fun y => by simp [ndE])
  · simp [h9, hx, hk, hxk, ndE, pcsE] at hr ⊢
    refine Br.bool (fun h1 => ?_) (fun h1 => ?_) <;> simp [h1, h9, hx, hk, hxk, ndE, pcsE] at hr ⊢
    · subst hr
      simp [trA, ndsE]
    · refine W_drawB hZ hmo 5 rfl 0 8 [(5, []), (5, []), (5, []), (5, []), (5, []), (5, []), (5, []), (5, [])] (by kernel_rfl) ?_
      simp [h9, hx, hk, hxk, ndE, pcsE]
      by_cases h0 : x.writer = 0
      · simp [h0, hx, hk, hxk, ndE, pcsE] at hr ⊢
        subst hr
        simp [modN]
        exact map_mod _ _ _ _ _ (fun y => by simp [ndE])
      · simp [h0] at hr ⊢
        subst hr
        simp [trA, ndsE]
end Go.Proofs.YtbhbkaonlillhaaGreatDoor
