/- Contracts: what is written; records applied. -/
import Derived.Test.YtbhbkaonlillhaaGreatDoorCEv
namespace Go.Proofs.YtbhbkaonlillhaaGreatDoor
open Go Go.Abs Go.Proofs Go.Tm
set_option linter.unusedSimpArgs false
set_option linter.unusedVariables false
set_option maxRecDepth 10000
variable {Z : TypeId → Nat} {G : World → Prop} {B0 : Nat}
def addedN (x : Nod) (g : Int) (l : List Int) (y : Nod) : Nod := { y with pieces := x.pieces ++ newPcs g l }
theorem newPcs_snoc (g : Int) (l : List Int) (z : Int) : newPcs g (l ++ [z]) = newPcs g l ++ [⟨g + l.length, z⟩] := by simp [newPcs, List.mapIdx_append]
@[simp] theorem newPcs_len (g : Int) (l : List Int) : (newPcs g l).length = l.length := by simp [newPcs]
theorem modify_same {α : Type} {l : List α} {k : Nat} {x : α} (hx : l[k]? = some x) (f : α → α) (hf : f x = x) : l.modify k f = l := by
  apply List.ext_getElem?
  intro i
  rw [List.getElem?_modify]
  by_cases c : k = i
  · subst c; simp [hx, hf]
  · cases l[i]? <;> simp [c]
theorem spansF_len : ∀ (k : Nat) (z n : Int), (spansF k z n).length ≤ k + 1
  | 0, _, _ => by simp [spansF]
  | k + 1, z, n => by
    unfold spansF
    split
    · have := spansF_len k z (n - z); simp; omega
    · simp
theorem spans_len (s n : Int) : (spans s n).length ≤ 1001 := by
  unfold spans
  split
  · simp
  · exact spansF_len _ _ _
set_option maxHeartbeats 2000000 in
theorem l12Write_spec (hZ : ZOk Tryz.prog Z) (t : Tree) (e : Edt) (k : Nat) (x : Nod) (g : Int) (hx : t.nodes[k]? = some x) (ht : okT t.nodes t.next = true) (hn : e.kind ≠ 8 → e.kind ≠ 9 → 1 ≤ e.num ∧ e.num ≤ 200) (hg : 1 ≤ g ∧ g ≤ 99000) : Does Z Tryz.prog G B0 128 [trA false t, edA e, iA k, iA g] [] [] (fun y _ => y = .tup [trA true (writeT t e k x g).1, iA (writeT t e k x g).2]) := by
  generalize hr : writeT t e k x g = r
  refine Does.bodyF hZ Tryz.func128 rfl rfl (Nat.le_of_ble_eq_true rfl) fun hf => ?_
  simp [trA, ndsE] at hf
  simp [Tryz.f128, trA, ndsE, edA, edE]
  refine CallA.snapE (l10Copy_spec hZ t (okT_sm ht)) (by simp [trA, ndsE]) (by simp [trA, noShr_nds]) ?_
  unfold writeT at hr
  have hlen := (okT_iff.1 ht).len2
  have hk : k < t.nodes.length := (List.getElem?_eq_some_iff.1 hx).1
  have hxm := List.mem_of_getElem? hx
  simp [trA, ndsE, hx, ndE, pcsE]
  refine Br.bool (fun h1 => ?_) (fun h1 => ?_) <;> simp [h1] at hr ⊢
  · subst hr
    simp [trA, ndsE]
  have hfile := ndB_file ((okT_iff.1 ht).nds x hxm) h1
  by_cases h9 : e.kind = 9
  · by_cases h0 : x.writer = 0
    · simp [h9, h0, hk, hx, ndE, pcsE] at hr ⊢
      subst hr
      simp [modN]
      exact map_mod _ _ _ _ _ (fun y => by simp [ndE])
    · simp [h9, h0] at hr ⊢
      subst hr
      simp [trA, ndsE]
  · by_cases h0 : x.writer = 0
    · simp [h9, h0] at hr ⊢
      subst hr
      simp [trA, ndsE]
    · simp [h9, h0] at hr ⊢
      refine Br.dec (fun h8 => ?_) (fun h8 => ?_) <;> simp [h8] at hr ⊢
      · simp [hk, hx, ndE, pcsE]
        subst hr
        simp [modN]
        exact map_mod _ _ _ _ _ (fun y => by simp [ndE])
      have hn := hn h8 h9
      have hw : IntKind.i64.wrap (x.len + e.num) = x.len + e.num := wrap_i64 (by omega)
      refine CallA.snapE (RoomFor_spec hZ t x.id e.num) (by simp [trA, ndsE]) (by simp) ?_
      simp
      refine Br.bool (fun h2 => ?_) (fun h2 => ?_) <;> simp [h2, hw] at hr ⊢
      rotate_left
      · subst hr
        simp [trA, ndsE]
      refine Br.dec (fun h3 => ?_) (fun h3 => ?_) <;> simp [h2, h3, hw] at hr ⊢
      · subst hr
        simp [trA, ndsE]
      refine CallA.snapE (Spans_spec hZ x.schema e.num) (by simp) (by simp [noShr_ints]) ?_
      simp [intsE]
      have hsl := spans_len x.schema e.num
      generalize spans x.schema e.num = l at hr hsl ⊢
      have hw2 : IntKind.i64.wrap ((x.pieces.length : Int) + (l.length : Int)) = (x.pieces.length : Int) + l.length := wrap_i64 (by have := hfile.2.2.1; omega)
      simp [hw2]
      refine Br.dec (fun h4 => ?_) (fun h4 => ?_) <;> simp [h4] at hr ⊢
      · subst hr
        simp [trA, ndsE]
      have hz0 : t.nodes.modify k (addedN x g []) = t.nodes := modify_same hx _ (by simp [addedN, newPcs])
      refine LoopA.run hZ (fun i : Nat => ⟨119, [(2, iA k), (3, iA g), (5, .ptr [(0, 0)]), (8, .ptr [(1, 0)]), (10, .ptr [(2, 0)]), (11, .ptr [(3, 0)]), (12, .bor [(4, 0)] 0 l.length), (13, iA i)], [edE e, [ndsE true [], iC 0], [ndsE true (t.nodes.modify k (addedN x g (l.take i))), iC t.next], ndE false x, [intsE true l]], [true, true, true, true, false]⟩) (fun i => i ≤ l.length) (fun i => l.length - i) 0 (by simp) (Sub.by [1, 2, 4, 5, 7] (by simp [ndsE, ndE, pcsE, edE, intsE, hz0, h1])) fun i hi => ?_
      simp [ndsE, ndE, pcsE, edE, intsE]
      refine Br.dec (fun h5 => ?_) (fun h5 => ?_)
      · have hy : l[i]? = some l[i] := List.getElem?_eq_getElem h5
        have hwi : IntKind.i64.wrap ((i : Int) + 1) = ((i + 1 : Nat) : Int) := wrap_i64 (by omega)
        have hwg : IntKind.i64.wrap (g + i) = g + i := wrap_i64 (by omega)
        have hmk : (t.nodes.modify k (addedN x g (l.take i)))[k]? = some (addedN x g (l.take i) x) := by simp [List.getElem?_modify, hx]
        generalize l[i] = z at hy
        refine W_drawMB hZ hmo 5 rfl 2 18 [(5, []), (5, []), (5, []), (5, []), (5, []), (5, []), (5, []), (5, []), (5, []), (5, []), (5, []), (5, []), (5, []), (5, []), (5, []), (5, []), (5, []), (5, [])] [0, 1, 2] 6 (by kernel_rfl) rfl ?_
        simp [hmk, hx, hy, ndE, pcsE, addedN, hwg]
        refine Need.mk hk ?_
        simp [hmk, hx, hy, ndE, pcsE, addedN, hwg]
        refine Need.mk h5 ?_
        simp [hmk, hx, hy, ndE, pcsE, addedN, hwg]
        refine Need.mk (by have := hfile.2.2.1; omega) ?_
        simp [hmk, hx, hy, ndE, pcsE, addedN, hwg]
        refine Need.mk hk ?_
        simp [hmk, hx, hy, ndE, pcsE, addedN, hwg]
        have hmin : min i l.length = i := by omega
        have htk : newPcs g (l.take (i + 1)) = newPcs g (l.take i) ++ [⟨g + i, z⟩] := by rw [List.take_add_one, hy, Option.toList, newPcs_snoc, List.length_take, hmin]
        have hfin : ((t.nodes.modify k (addedN x g (l.take i))).map (ndE true)).modify k ((fun y => y.set 7 (.row true 121 (x.pieces.map pcE ++ (newPcs g (l.take i)).map pcE ++ [[iC (g + i), iC z]]))) ∘ fun y => y.set 7 Cell.hole) = (t.nodes.modify k (addedN x g (l.take (i + 1)))).map (ndE true) := by
          rw [map_mod (ndE true) (fun y => { y with pieces := x.pieces ++ newPcs g (l.take (i + 1)) }) _ _ _ (fun y => by simp [ndE, pcsE, htk, pcE]), List.modify_modify_eq]
          rfl
        refine Again.mk (i + 1) (by omega) (by omega) (Sub.by [0, 1, 2, 3, 4] ?_)
        simp [hwi, ndsE, ndE, pcsE, edE, intsE, List.modify_modify_eq]
        rw [hmin, List.take_of_length_le (show (x.pieces.map pcE ++ (newPcs g (l.take i)).map pcE).length ≤ x.pieces.length + i by simp; omega), show List.take (x.pieces.length + i + 1) (x.pieces.map pcE ++ (newPcs g (l.take i)).map pcE ++ [[iC (g + i), iC z]]) = x.pieces.map pcE ++ (newPcs g (l.take i)).map pcE ++ [[iC (g + i), iC z]] from List.take_of_length_le (by simp; omega)]
        exact hfin
      · have hmk : (t.nodes.modify k (addedN x g (l.take i)))[k]? = some (addedN x g (l.take i) x) := by simp [List.getElem?_modify, hx]
        rw [List.take_of_length_le (show l.length ≤ i by omega)] at hmk ⊢
        simp [hmk, hk, hw, hx, ndE, pcsE, addedN]
        subst hr
        rw [List.take_of_length_le (by simp), List.take_of_length_le (by simp), map_mod (ndE true) (fun y => { y with len := x.len + e.num }) _ _ _ (fun y => by simp [ndE]), List.modify_modify_eq]
        exact ⟨⟨rfl, rfl⟩, rfl⟩
end Go.Proofs.YtbhbkaonlillhaaGreatDoor
