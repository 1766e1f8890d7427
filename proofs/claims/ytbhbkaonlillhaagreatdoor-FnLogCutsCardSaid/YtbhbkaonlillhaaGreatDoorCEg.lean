/- Contracts: right trees. -/
import Derived.Test.YtbhbkaonlillhaaGreatDoorCEf
namespace Go.Proofs.YtbhbkaonlillhaaGreatDoor
open Go Go.Abs Go.Proofs Go.Tm
set_option linter.unusedSimpArgs false
set_option linter.unusedVariables false
set_option maxRecDepth 10000
variable {Z : TypeId → Nat} {G : World → Prop} {B0 : Nat}

theorem TreeOk_spec (hZ : ZOk Tryz.prog Z) (t : Tree) : Does Z Tryz.prog G B0 101 [trA false t] [] [] (fun y _ => y = bA (okT t.nodes t.next)) := by
  refine Does.bodyF hZ Tryz.func101 rfl rfl (Nat.le_of_ble_eq_true rfl) fun hf => ?_
  simp [trA, ndsE] at hf
  simp [Tryz.f101, trA, ndsE]
  refine CallA.snapE (l01In_spec hZ t.nodes.length 1 14) (by simp) (by simp) ?_
  simp
  refine Br.bool (fun h1 => ?_) (fun h1 => ?_) <;> simp [h1, okT]
  refine Br.dec (fun h2 => ?_) (fun h2 => ?_) <;> simp [h2]
  · intros; omega
  have h2' : t.next ≤ 100000 := by omega
  refine LoopA.run hZ (fun i : Nat => ⟨25, [(1, .ptr [(0, 0)]), (3, iA i)], [[ndsE false t.nodes, iC t.next]], [true]⟩) (fun i => ∀ (j : Nat) x, j < i → t.nodes[j]? = some x → okN t.nodes t.next j x = true) (fun i => t.nodes.length - i) 0 (by simp) (Sub.by [0] (by simp [ndsE])) fun i hi => ?_
  simp [ndsE]
  refine Br.dec (fun h => ?_) (fun h => ?_)
  · have hx : t.nodes[i]? = some t.nodes[i] := List.getElem?_eq_getElem h
    have hw := w_inc h hf.1
    simp
    refine CallA.snapE (l10Node_spec hZ t i _ hx) (by simp [trA, ndsE]) (by simp) ?_
    simp
    refine Br.bool (fun h3 => ?_) (fun h3 => ?_) <;> simp [h3]
    · refine Again.mk (i + 1) (fun j x hj hxj => ?_) (by omega) (Sub.by [0] (by simp [hw, ndsE]))
      rcases Nat.lt_succ_iff_lt_or_eq.1 hj with c | rfl
      · exact hi j x c hxj
      · rw [hx] at hxj; cases hxj; exact h3
    · exact fun _ => ⟨i, h, by simp [hx, h3]⟩
  · simp
    refine ⟨h2', fun i hi2 => ?_⟩
    rw [List.getElem?_eq_getElem hi2]
    exact hi i _ (by omega) (List.getElem?_eq_getElem hi2)

theorem containsNd_spec (hZ : ZOk Tryz.prog Z) (l : List Nod) (p : Nod → Bool) (g : FuncId) (caps : List AV) (hcl : closL caps = true) (hg : ∀ x ∈ l, Does Z Tryz.prog G B0 g (ndA false x :: caps) [] [] (fun y _ => y = bA (p x))) :
    Does Z Tryz.prog G B0 119 [.c (ndsE false l), .fn g [] caps] [] [] (fun y _ => y = bA (l.any p)) := by
  refine Does.body hZ Tryz.func119 rfl rfl (Nat.le_of_ble_eq_true rfl) ?_
  simp [Tryz.f119, ndsE]
  refine CallA.snapE (idxNd_spec hZ l p g caps hcl hg) (by simp [ndsE, snapL_clos _ _ hcl]) (by simp) ?_
  simp [idxF_any]

theorem TreeOk1_spec (hZ : ZOk Tryz.prog Z) (x y : Nod) : Does Z Tryz.prog G B0 120 [ndA false x, .sptr (ndE false y) 0] [] [] (fun z _ => z = bA (decide (x.parent = y.parent) && decide (x.name = y.name))) := by
  refine Does.body hZ Tryz.func120 rfl rfl (Nat.le_of_ble_eq_true rfl) ?_
  simp [Tryz.f120, ndA, ndE, pcsE]
  refine Br.dec (fun h => ?_) (fun h => ?_) <;> simp [h]

theorem reachI_parent {l : List Nod} {x : Nod} : reachI l 4 x.parent = reachI l 4 x.parent := rfl
set_option maxHeartbeats 4000000 in
theorem iTreeOk_spec (hZ : ZOk Tryz.prog Z) (t : Tree) : Does Z Tryz.prog G B0 48 [trA false t] [] [] (fun y _ => y = bA (okT t.nodes t.next)) := by
  rw [← okTi_eq]
  refine Does.bodyF hZ Tryz.func48 rfl rfl (Nat.le_of_ble_eq_true rfl) fun hf => ?_
  simp [trA, ndsE] at hf
  simp [Tryz.f48, trA, ndsE]
  refine CallA.snapE (within_spec hZ t.nodes.length 1 14) (by simp) (by simp) ?_
  simp
  refine Br.bool (fun h1 => ?_) (fun h1 => ?_) <;> simp [h1, okTi]
  refine Br.dec (fun h2 => ?_) (fun h2 => ?_) <;> simp [h2]
  · intros; omega
  have h2' : t.next ≤ 100000 := by omega
  have hlen : 1 ≤ t.nodes.length ∧ t.nodes.length ≤ 14 := by rw [inB_iff] at h1; omega
  have hx0 : t.nodes[0]? = some t.nodes[0] := List.getElem?_eq_getElem (by omega)
  generalize t.nodes[0] = r at hx0
  simp [hx0, ndE, pcsE]
  refine Br.dec (fun h3 => ?_) (fun h3 => ?_) <;> simp [h3, rootB]
  refine Br.dec (fun h4 => ?_) (fun h4 => ?_) <;> simp [h4, rootB]
  refine Br.dec (fun h5 => ?_) (fun h5 => ?_) <;> simp [h5, rootB]
  refine Br.bool (fun h6 => ?_) (fun h6 => ?_) <;> simp [h6, rootB]
  refine Br.dec (fun h7 => ?_) (fun h7 => ?_) <;> simp [h7, rootB]
  refine LoopA.run hZ (fun i : Nat => ⟨98, [(1, .ptr [(0, 0)]), (44, .c (ndsE false t.nodes)), (45, iA t.nodes.length), (46, iA i)], [[ndsE false t.nodes, iC t.next]], [true]⟩) (fun i => ∀ (j : Nat) x, j < i → t.nodes[j]? = some x → okNi t.nodes t.next j x = true) (fun i => t.nodes.length - i) 0 (by simp) (Sub.by [0] (by simp [ndsE])) fun i hi => ?_
  simp [ndsE]
  refine Br.dec (fun h => ?_) (fun h => ?_)
  · have hx : t.nodes[i]? = some t.nodes[i] := List.getElem?_eq_getElem h
    generalize t.nodes[i] = x at hx
    have hw := w_inc h hf.1
    have go : okNi t.nodes t.next i x = true → ∀ (j : Nat) y, j < i + 1 → t.nodes[j]? = some y → okNi t.nodes t.next j y = true := fun hk j y hj hy => by
      rcases Nat.lt_succ_iff_lt_or_eq.1 hj with c | rfl
      · exact hi j y c hy
      · rw [hx] at hy; cases hy; exact hk
    have no : okNi t.nodes t.next i x = false → ∃ k, k < t.nodes.length ∧ (match t.nodes[k]? with | some x => okNi t.nodes t.next k x | none => true) = false := fun hk => ⟨i, h, by simp [hx, hk]⟩
    have cont : (t.nodes.take i).any (fun z => decide (z.parent = x.parent) && decide (z.name = x.name)) = !uniqB t.nodes i x := by
      unfold uniqB; rw [List.not_all_eq_any_not]; simp
    simp [hx, ndE, pcsE]
    refine W_draw hZ hmo 1 23 [(2, []), (2, []), (3, [2]), (3, [2]), (3, [2]), (3, [2]), (3, [2]), (3, [2]), (3, [2]), (3, [2]), (3, [2]), (3, [2]), (3, [2]), (3, [2]), (3, [2]), (3, [2]), (3, [2]), (3, [2]), (3, [2]), (3, [2]), (3, [2]), (3, [2]), (3, [2])] (by kernel_rfl) ?_
    simp
    refine CallD.snapE (inodeOk_spec hZ x) (by simp [ndA, ndE, pcsE]) (by simp) ?_
    simp
    refine Br.bool (fun g1 => ?_) (fun g1 => ?_) <;> simp [g1]
    rotate_left
    · exact fun _ => no (by simp [okNi, g1])
    refine Br.dec (fun g2 => ?_) (fun g2 => ?_) <;> simp [g2]
    · exact fun _ => no (by simp [okNi]; intros; omega)
    have g2' : x.id < t.next := by omega
    rcases Nat.eq_zero_or_pos i with rfl | hi0
    · simp
      refine CallA.snapE (containsNd_spec hZ (t.nodes.take 0) (fun z => decide (z.parent = x.parent) && decide (z.name = x.name)) 120 [.sptr (ndE false x) 0] (by simp) (fun z _ => TreeOk1_spec hZ z x)) (by simp [ndsE, ndE, pcsE]) (by simp) ?_
      simp
      exact Again.mk 1 (go (by simp [okNi, g1, g2', prevB, uniqB])) (by omega) (Sub.by [0] (by simp [w_one, ndsE]))
    · have hi1 : i ≠ 0 := by omega
      have hi2 : (0 : Int) < (i : Int) := by omega
      have hy : t.nodes[i - 1]? = some t.nodes[i - 1] := List.getElem?_eq_getElem (by omega)
      generalize t.nodes[i - 1] = z at hy
      have hwd := w_dec h hf.1 hi0
      simp [hi0, hwd, hy, ndE, pcsE]
      refine Br.dec (fun g3 => ?_) (fun g3 => ?_) <;> simp [g3, hi0]
      · exact fun _ => no (by simp [okNi, prevB, hy, hi1]; intros; omega)
      have g3' : z.id < x.id := by omega
      refine CallA.snapE (iNameOk_spec hZ x.name) (by simp) (by simp) ?_
      simp
      refine Br.bool (fun g4 => ?_) (fun g4 => ?_) <;> simp [g4]
      rotate_left
      · exact fun _ => no (by simp [okNi, hi1, g4])
      refine CallA.snapE (reaches_spec hZ t x) (by simp [trA, ndsE, ndA, ndE, pcsE]) (by simp) ?_
      simp
      refine Br.bool (fun g5 => ?_) (fun g5 => ?_) <;> simp [g5]
      rotate_left
      · exact fun _ => no (by simp [okNi, hi1, g5])
      have hle : i ≤ t.nodes.length := by omega
      simp [hle]
      refine CallA.snapE (containsNd_spec hZ (t.nodes.take i) (fun z => decide (z.parent = x.parent) && decide (z.name = x.name)) 120 [.sptr (ndE false x) 0] (by simp) (fun z _ => TreeOk1_spec hZ z x)) (by simp [ndsE, ndE, pcsE]) (by simp) ?_
      simp [cont]
      refine Br.bool (fun g6 => ?_) (fun g6 => ?_) <;> simp [g6]
      · exact Again.mk (i + 1) (go (by simp [okNi, g1, g2', prevB, hy, g3', g4, g5, g6])) (by omega) (Sub.by [0] (by simp [hw, ndsE]))
      · exact fun _ => no (by simp [okNi, g6])
  · simp
    try refine ⟨h2', ?_⟩
    intro i hi2
    rw [List.getElem?_eq_getElem hi2]
    exact hi i _ (by omega) (List.getElem?_eq_getElem hi2)
end Go.Proofs.YtbhbkaonlillhaaGreatDoor
