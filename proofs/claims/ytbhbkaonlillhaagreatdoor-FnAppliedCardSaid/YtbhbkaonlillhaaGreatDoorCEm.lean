/- Contracts: groups of files. -/
import Derived.Test.YtbhbkaonlillhaaGreatDoorCEk
import Derived.Test.YtbhbkaonlillhaaGreatDoorTm
namespace Go.Proofs.YtbhbkaonlillhaaGreatDoor
open Go Go.Abs Go.Proofs Go.Tm
set_option linter.unusedSimpArgs false
set_option linter.unusedVariables false
set_option maxRecDepth 10000
variable {Z : TypeId → Nat} {G : World → Prop} {B0 : Nat}

theorem l12Insert_spec (hZ : ZOk Tryz.prog Z) (l : List Int) (x : Int) (hl : l.length ≤ 1048576) : Does Z Tryz.prog G B0 138 [.c (intsE false l), iA x] [] [] (fun y _ => y = .c (intsE true (insI x l))) := by
  refine Does.body hZ Tryz.func138 rfl rfl (Nat.le_of_ble_eq_true rfl) ?_
  simp [Tryz.f138, intsE]
  refine LoopA.run hZ (fun p : Nat × List Int => ⟨52, [(0, .c (intsE false l)), (1, iA x), (5, .bor [(0, 0)] 0 p.2.length), (6, iA p.1)], [[intsE true p.2]], [false]⟩) (fun p => p.1 ≤ l.length ∧ p.2.length ≤ p.1 ∧ p.2 = (l.take p.1).filter fun y => decide (y < x)) (fun p => l.length - p.1) (0, []) (by simp) (Sub.by [0] (by simp [intsE])) fun ⟨k, n⟩ ⟨hk, hnl, hn⟩ => ?_
  dsimp only at hk hnl hn
  simp [intsE]
  refine Br.dec (fun h3 => ?_) (fun h3 => ?_)
  · have hy : l[k]? = some l[k] := List.getElem?_eq_getElem h3
    have hw2 : IntKind.i64.wrap ((k : Int) + 1) = ((k + 1 : Nat) : Int) := wrap_i64 (by omega)
    simp [hy, h3]
    refine Br.dec (fun h4 => ?_) (fun h4 => ?_) <;> simp [h4, hy]
    · refine Need.mk ⟨by omega, by omega⟩ ?_
      simp
      exact Again.mk (k + 1, n ++ [l[k]]) ⟨by dsimp only; omega, by simp; omega, by dsimp only; rw [filter_take' hy, hn]; simp [h4]⟩ (by dsimp only; omega) (Sub.by [2] (by simp [hw2, intsE]))
    · exact Again.mk (k + 1, n) ⟨by dsimp only; omega, by dsimp only; omega, by dsimp only; rw [filter_take' hy, hn]; simp [h4]⟩ (by dsimp only; omega) (Sub.by [0] (by simp [hw2, intsE]))
  · rw [List.take_of_length_le (by omega)] at hn
    simp
    refine Need.mk ⟨by omega, by omega⟩ ?_
    simp
    refine LoopA.run hZ (fun p : Nat × List Int => ⟨52, [(0, .c (intsE false l)), (1, iA x), (5, .bor [(0, 0)] 0 p.2.length), (7, iA p.1)], [[intsE true p.2]], [false]⟩) (fun p => p.1 ≤ l.length ∧ p.2.length ≤ n.length + 1 + p.1 ∧ p.2 = n ++ x :: (l.take p.1).filter fun y => decide (x < y)) (fun p => l.length - p.1) (0, n ++ [x]) (by simp) (Sub.by [2] (by simp [intsE])) fun ⟨k, n2⟩ ⟨hk, hnl2, hn2⟩ => ?_
    dsimp only at hk hnl2 hn2
    simp [intsE]
    refine Br.dec (fun h3 => ?_) (fun h3 => ?_)
    · have hy : l[k]? = some l[k] := List.getElem?_eq_getElem h3
      have hw2 : IntKind.i64.wrap ((k : Int) + 1) = ((k + 1 : Nat) : Int) := wrap_i64 (by omega)
      simp [hy, h3]
      refine Br.dec (fun h4 => ?_) (fun h4 => ?_) <;> simp [h4, hy]
      · refine Need.mk ⟨by omega, by omega⟩ ?_
        simp
        exact Again.mk (k + 1, n2 ++ [l[k]]) ⟨by dsimp only; omega, by simp; omega, by dsimp only; rw [filter_take' hy, hn2]; simp [h4]⟩ (by dsimp only; omega) (Sub.by [2] (by simp [hw2, intsE]))
      · exact Again.mk (k + 1, n2) ⟨by dsimp only; omega, by dsimp only; omega, by dsimp only; rw [filter_take' hy, hn2]; simp [h4]⟩ (by dsimp only; omega) (Sub.by [0] (by simp [hw2, intsE]))
    · rw [List.take_of_length_le (by omega)] at hn2
      have hI : n2 = insI x l := by rw [hn2, hn]; rfl
      simp [hI]

set_option maxHeartbeats 1000000 in
theorem GroupsOf_spec (hZ : ZOk Tryz.prog Z) (t : Tree) (id : Int) : Does Z Tryz.prog G B0 66 [trA false t, iA id] [] [] (fun y _ => y = .c (intsE true (groupsOf t id))) := by
  refine Does.body hZ Tryz.func66 rfl rfl (Nat.le_of_ble_eq_true rfl) ?_
  simp [Tryz.f66, trA, ndsE]
  refine CallA.snapE (BelowOf_spec hZ t id) (by simp [trA, ndsE]) (noShr_ints _) ?_
  have hmem := @mem_belowOf t id
  have hkl := belowOf_len t id
  unfold groupsOf
  generalize belowOf t id = ks at hmem hkl
  simp [intsE]
  have hks : ks = [] ∨ OkT t.nodes t.next := by
    cases ks with
    | nil => exact .inl rfl
    | cons k r => exact .inr (okT_iff.1 (hmem (k := k) (by simp)).1)
  have hk14 : ks.length ≤ 14 := by
    rcases hks with rfl | H
    · simp
    · have := H.len2; omega
  refine LoopA.run hZ (fun p : Nat × List Int => ⟨46, [(2, .ptr [(0, 0)]), (5, .bor [(1, 0)] 0 ks.length), (6, .bor [(2, 0)] 0 p.2.length), (7, iA p.1)], [[ndsE false t.nodes, iC t.next], [intsE true ks], [intsE true p.2]], [true, false, false]⟩) (fun p => p.1 ≤ ks.length ∧ p.2.length ≤ 40 * p.1 ∧ p.2 = gSet (groupsL t.nodes (ks.take p.1))) (fun p => ks.length - p.1) (0, []) (by simp [gSet, groupsL]) (Sub.by [0, 1, 2] (by simp [ndsE, intsE])) fun ⟨i, o⟩ ⟨hi, hol, ho⟩ => ?_
  dsimp only at hi hol ho
  simp [ndsE, intsE]
  refine Br.dec (fun h => ?_) (fun h => ?_)
  · have hk : ks[i]? = some ks[i] := List.getElem?_eq_getElem h
    have hw : IntKind.i64.wrap ((i : Int) + 1) = ((i + 1 : Nat) : Int) := wrap_i64 (by omega)
    have H : OkT t.nodes t.next := by
      rcases hks with rfl | H
      · simp at h
      · exact H
    obtain ⟨_, x, hxm, hxid⟩ := hmem (k := ks[i]) (List.getElem_mem h)
    obtain ⟨j, hj⟩ := List.getElem?_of_mem hxm
    have hat := H.nd_at hj
    rw [hxid] at hat
    have hpl := ndB_pieces (H.nds x hxm)
    refine W_draw hZ hmo 2 11 [(3, []), (3, []), (3, []), (3, []), (3, []), (3, []), (3, []), (3, []), (4, [3]), (4, [3]), (4, [])] (by kernel_rfl) ?_
    simp [hk, h]
    refine CallD.snapE (l10At_spec hZ t ks[i]) (by simp [trA, ndsE]) (by simp) ?_
    simp [hat.1, hj, ndE, pcsE]
    refine LoopA.run hZ (fun p : Nat × List Int => ⟨46, [(2, .ptr [(0, 0)]), (5, .bor [(1, 0)] 0 ks.length), (6, .bor [(2, 0)] 0 p.2.length), (7, iA i), (8, .ptr [(3, 0)]), (9, iA p.1)], [[ndsE false t.nodes, iC t.next], [intsE true ks], [intsE true p.2], ndE false x], [true, false, false, true]⟩) (fun p => p.1 ≤ x.pieces.length ∧ p.2.length ≤ o.length + p.1 ∧ p.2 = ((x.pieces.map (·.group)).take p.1).foldl (fun o g => insI g o) o) (fun p => x.pieces.length - p.1) (0, o) (by simp) (Sub.by [0, 1, 2, 4] (by simp [ndsE, intsE, ndE, pcsE])) fun ⟨m, n⟩ ⟨hm, hnl, hn⟩ => ?_
    dsimp only at hm hnl hn
    simp [ndsE, intsE, ndE, pcsE]
    refine Br.dec (fun h3 => ?_) (fun h3 => ?_)
    · have hy : x.pieces[m]? = some x.pieces[m] := List.getElem?_eq_getElem h3
      have hw2 : IntKind.i64.wrap ((m : Int) + 1) = ((m + 1 : Nat) : Int) := wrap_i64 (by omega)
      simp [hy, pcE]
      refine CallA.snapE (l12Insert_spec hZ n x.pieces[m].group (by omega)) (by simp [intsE]) (noShr_ints _) ?_
      simp [intsE]
      exact Again.mk (m + 1, insI x.pieces[m].group n) ⟨by dsimp only; omega, by have := insI_len x.pieces[m].group n; dsimp only; omega, by dsimp only; rw [List.take_add_one, List.foldl_append, ← hn]; simp [hy]⟩ (by dsimp only; omega) (Sub.by [0, 1, 4, 3] (by simp [hw2, ndsE, intsE, ndE, pcsE]))
    · rw [List.take_of_length_le (by simp; omega)] at hn
      simp
      exact Again.mk (i + 1, n) ⟨by dsimp only; omega, by dsimp only; omega, by dsimp only; rw [groupsL_take hk, gSet_app, ← ho, hn]; simp [grpAt, hat.2]⟩ (by dsimp only; omega) (Sub.by [0, 1, 2] (by simp [hw, ndsE, intsE]))
  · rw [List.take_of_length_le (by omega)] at ho
    subst ho
    simp

theorem sortI_spec (hZ : ZOk Tryz.prog Z) (l : List Int) (hl : l.length ≤ 1048576) : Does Z Tryz.prog G B0 96 [.bor [(0, 0)] 0 l.length] [[intsE true l]] [false] (fun y r => y = .tup [] ∧ r = [[intsE true (l.mergeSort fun x y => decide (x ≤ y))]]) := by
  have h := Does.turn (Z := Z) (P := Tryz.prog) (G := G) (B0 := B0) (f := 96) (e := 3) (enc := Value.int .i64) (xs := l) (ys := l.mergeSort fun x y => decide (x ≤ y)) (by kernel_rfl) (hZ.sz (ag := false) (by kernel_rfl)) (fun a ha => (List.mergeSort_perm l _).mem_iff.1 ha) (by simp) (fun w v ho => by
    rcases row_turn (Value.int .i64) (ys := l.mergeSort (fun x y => decide (x ≤ y))) ho (by simp) (by simp) with ⟨h0, rfl⟩ | ⟨g, cap, rfl, hnc, hH, hlt, hrest⟩
    · have hl0 : l = [] := List.eq_nil_of_length_eq_zero h0
      subst hl0
      refine (Tryz.slices_Sort_int_none none 0 w).mono fun en w' ⟨h1, h2⟩ => ?_
      subst h2
      exact ⟨h1, by simpa using ho, Fr.refl _ _⟩
    · refine (Tryz.slices_Sort_int g 0 cap l w hH hlt (by omega)).mono fun en w' ⟨h1, q, os, h2⟩ => ?_
      subst h2
      exact ⟨h1, hrest q os⟩)
  simpa [intsE, scs] using h

theorem grow_none (w : World) : Go.Sort.grow w #[] = w := by simp
theorem compactI_spec (hZ : ZOk Tryz.prog Z) (l : List Int) : Does Z Tryz.prog G B0 97 [.bor [(0, 0)] 0 l.length] [[intsE true l]] [false] (fun y r => y = .c (intsE true (Lib.compact l)) ∧ r = [[.hole]]) := by
  have hcl : (Lib.compact l).length ≤ l.length := by
    unfold Lib.compact Lib.compactUpTo
    rw [List.length_map]
    exact Nat.le_trans (List.length_filter_le _ _) (by simp)
  have hmem : ∀ a ∈ Lib.compact l, a ∈ l := fun a ha => by
    unfold Lib.compact Lib.compactUpTo at ha
    obtain ⟨j, hj, rfl⟩ := List.mem_map.1 ha
    have hj2 : j < l.length := by simpa using (List.mem_filter.1 hj).1
    rw [getElem!_pos _ _ (by simpa using hj2)]; simp
  have h := Does.turnRes (Z := Z) (P := Tryz.prog) (G := G) (B0 := B0) (f := 97) (e := 3) (enc := Value.int .i64) (xs := l) (ys := Lib.compact l) (by kernel_rfl) (hZ.sz (ag := false) (by kernel_rfl)) hmem (fun w v ho => by
    rcases row_turn (Value.int .i64) (ys := Lib.compact l ++ List.replicate (l.length - (Lib.compact l).length) 0) ho (by simp) (by simp; omega) with ⟨h0, rfl⟩ | ⟨g, cap, rfl, hnc, hH, hlt, hrest⟩
    · have hl0 : l = [] := List.eq_nil_of_length_eq_zero h0
      subst hl0
      refine (Tryz.slices_Compact_int_empty none 0 w).mono fun en w' ⟨h1, h2⟩ => ?_
      subst h2
      exact ⟨_, h1, by simpa [Lib.compact, Lib.compactUpTo] using ho, Fr.refl _ _, rfl⟩
    · have hm63 : l.length ≤ 9223372036854775807 := by
        rcases ho.2 with ⟨hh, _⟩ | ⟨_, cap2, _, hh, _, _, h1, h2, _⟩
        · cases hh
        · rw [maxLen_eq] at h2; omega
      refine (Tryz.slices_Compact_int g 0 cap l w hH hm63 hnc).mono fun en w' ⟨h1, q, h2⟩ => ?_
      subst h2
      have hr := hrest q #[]
      rw [grow_none] at hr
      refine ⟨_, h1, ?_, hr.2, rfl⟩
      have h3 := owns_less hr.1 hcl
      rw [List.map_append, List.take_append_of_le_length (by simp), List.take_of_length_le (by simp)] at h3
      exact h3)
  simpa [intsE, scs] using h

set_option maxHeartbeats 1000000 in
theorem iGroupsOf_spec (hZ : ZOk Tryz.prog Z) (t : Tree) (id : Int) : Does Z Tryz.prog G B0 31 [trA false t, iA id] [] [] (fun y _ => y = .c (intsE true (groupsOf t id))) := by
  refine Does.body hZ Tryz.func31 rfl rfl (Nat.le_of_ble_eq_true rfl) ?_
  simp [Tryz.f31, trA, ndsE]
  refine CallA.snapE (iBelowOf_spec2 hZ t id) (by simp [trA, ndsE]) (noShr_ints _) ?_
  have hmem := @mem_belowOf t id
  have hkl := belowOf_len t id
  unfold groupsOf
  generalize belowOf t id = ks at hmem hkl
  simp [intsE]
  have hks : ks = [] ∨ OkT t.nodes t.next := by
    cases ks with
    | nil => exact .inl rfl
    | cons k r => exact .inr (okT_iff.1 (hmem (k := k) (by simp)).1)
  have hk14 : ks.length ≤ 14 := by
    rcases hks with rfl | H
    · simp
    · have := H.len2; omega
  refine LoopA.run hZ (fun p : Nat × List Int => ⟨42, [(2, .ptr [(0, 0)]), (5, .bor [(2, 0)] 0 p.2.length), (12, .bor [(1, 0)] 0 ks.length), (13, iA ks.length), (14, iA p.1)], [[ndsE false t.nodes, iC t.next], [intsE true ks], [intsE true p.2]], [true, false, false]⟩) (fun p => p.1 ≤ ks.length ∧ p.2.length ≤ 40 * p.1 ∧ p.2 = groupsL t.nodes (ks.take p.1)) (fun p => ks.length - p.1) (0, []) (by simp [groupsL]) ((Sub.nil 5 3 rfl).trans (Sub.by [0, 1, 2] (by simp [ndsE, intsE]))) fun ⟨i, o⟩ ⟨hi, hol, ho⟩ => ?_
  dsimp only at hi hol ho
  simp [ndsE, intsE]
  refine Br.dec (fun h => ?_) (fun h => ?_)
  · have hk : ks[i]? = some ks[i] := List.getElem?_eq_getElem h
    have hw : IntKind.i64.wrap ((i : Int) + 1) = ((i + 1 : Nat) : Int) := wrap_i64 (by omega)
    have H : OkT t.nodes t.next := by
      rcases hks with rfl | H
      · simp at h
      · exact H
    obtain ⟨_, x, hxm, hxid⟩ := hmem (k := ks[i]) (List.getElem_mem h)
    obtain ⟨j, hj⟩ := List.getElem?_of_mem hxm
    have hat := H.nd_at hj
    rw [hxid] at hat
    have hpl := ndB_pieces (H.nds x hxm)
    simp [hk, h]
    refine W_draw hZ hmo 1 10 [(3, []), (3, []), (3, []), (3, []), (3, []), (4, [3]), (4, [3]), (4, [3]), (4, [3]), (4, [])] (by kernel_rfl) ?_
    simp [hk, h]
    refine CallD.snapE (nodeAt_spec hZ t ks[i]) (by simp [trA, ndsE]) (by simp) ?_
    simp [hat.1, hj, ndE, pcsE]
    refine LoopA.run hZ (fun p : Nat × List Int => ⟨42, [(2, .ptr [(0, 0)]), (5, .bor [(2, 0)] 0 p.2.length), (12, .bor [(1, 0)] 0 ks.length), (13, iA ks.length), (14, iA i), (25, .c (pcsE false x.pieces)), (26, iA x.pieces.length), (27, iA p.1)], [[ndsE false t.nodes, iC t.next], [intsE true ks], [intsE true p.2]], [true, false, false]⟩) (fun p => p.1 ≤ x.pieces.length ∧ p.2.length ≤ o.length + p.1 ∧ p.2 = o ++ (x.pieces.map (·.group)).take p.1) (fun p => x.pieces.length - p.1) (0, o) (by simp) (Sub.by [0, 1, 2] (by simp [ndsE, intsE, pcsE])) fun ⟨m, n⟩ ⟨hm, hnl, hn⟩ => ?_
    dsimp only at hm hnl hn
    simp [ndsE, intsE, pcsE]
    refine Br.dec (fun h3 => ?_) (fun h3 => ?_)
    · have hy : x.pieces[m]? = some x.pieces[m] := List.getElem?_eq_getElem h3
      have hw2 : IntKind.i64.wrap ((m : Int) + 1) = ((m + 1 : Nat) : Int) := wrap_i64 (by omega)
      simp [hy, pcE]
      refine Need.mk ⟨by omega, by omega⟩ ?_
      simp
      exact Again.mk (m + 1, n ++ [x.pieces[m].group]) ⟨by dsimp only; omega, by simp; omega, by dsimp only; rw [List.take_add_one, hn]; simp [hy]⟩ (by dsimp only; omega) (Sub.by [0, 1, 5] (by simp [hw2, ndsE, intsE, pcsE]))
    · rw [List.take_of_length_le (by simp; omega)] at hn
      simp
      exact Again.mk (i + 1, n) ⟨by dsimp only; omega, by dsimp only; omega, by dsimp only; rw [groupsL_take hk, ← ho, hn]; simp [grpAt, hat.2]⟩ (by dsimp only; omega) (Sub.by [0, 1, 2] (by simp [hw, ndsE, intsE]))
  · rw [List.take_of_length_le (by omega)] at ho
    simp
    refine CallA.rowE [(2, 0)] (sortI_spec hZ o (by omega)) (by simp [intsE]) (by simp) ⟨by simp, noShr_ints _⟩ ?_
    simp [intsE]
    have e : o.length = (o.mergeSort fun x y => decide (x ≤ y)).length := by simp
    refine CallA.rowE [(2, 0)] (compactI_spec hZ (o.mergeSort fun x y => decide (x ≤ y))) (by simp [intsE]) (by simp) ⟨noShr_ints _, by simp⟩ ?_
    simp [intsE, compact_sort, ho]
end Go.Proofs.YtbhbkaonlillhaaGreatDoor
