/- Contracts: schemas, use, room. -/
import Derived.Test.YtbhbkaonlillhaaGreatDoorCEj
namespace Go.Proofs.YtbhbkaonlillhaaGreatDoor
open Go Go.Abs Go.Proofs Go.Tm
set_option linter.unusedSimpArgs false
set_option linter.unusedVariables false
set_option maxRecDepth 10000
variable {Z : TypeId → Nat} {G : World → Prop} {B0 : Nat}
theorem SchemaAt_spec (hZ : ZOk Tryz.prog Z) (t : Tree) (id : Int) : Does Z Tryz.prog G B0 179 [trA false t, iA id] [] [] (fun y _ => y = iA (schemaAt t id)) := by
  refine Does.bodyF hZ Tryz.func179 rfl rfl (Nat.le_of_ble_eq_true rfl) fun hf => ?_
  simp [trA, ndsE] at hf
  simp [Tryz.f179, trA, ndsE]
  refine CallA.snapE (TreeOk_spec hZ t) (by simp [trA, ndsE]) (by simp) ?_
  simp
  refine Br.bool (fun h1 => ?_) (fun h1 => ?_) <;> simp [h1, schemaAt]
  generalize hr : schF t.nodes 15 id = r
  refine LoopA.run hZ (fun p : Nat × Int => ⟨38, [(1, iA p.2), (2, .ptr [(0, 0)]), (5, iA p.1)], [[ndsE false t.nodes, iC t.next]], [true]⟩) (fun p => p.1 ≤ 15 ∧ schF t.nodes (15 - p.1) p.2 = r) (fun p => 15 - p.1) (0, id) ⟨Nat.zero_le _, hr⟩ (Sub.by [0] (by simp [ndsE])) fun ⟨n, id⟩ ⟨hn, he⟩ => ?_
  dsimp only at hn he
  simp [ndsE]
  refine Br.dec (fun h => ?_) (fun h => ?_)
  · have hw : IntKind.i64.wrap ((n : Int) + 1) = ((n + 1 : Nat) : Int) := wrap_i64 (by omega)
    obtain ⟨m, hm⟩ : ∃ m, 15 - n = m + 1 := ⟨14 - n, by omega⟩
    rw [hm, schF] at he
    simp
    refine CallA.snapE (l10At_spec hZ t id) (by simp [trA, ndsE]) (by simp) ?_
    rcases atI_spec t.nodes id with ⟨g1, g2, _⟩ | ⟨k, q, gq, g1, gid, g2, _⟩
    · rw [g2] at he
      dsimp only at he
      subst he
      simp [g1]
    · rw [g2] at he
      dsimp only at he
      have hk0 : ¬ ((k : Int) < 0) := by omega
      simp [g1, gq, hk0, ndE, pcsE]
      refine Br.dec (fun h1 => ?_) (fun h1 => ?_) <;> simp [h1, gq, hk0, ndE, pcsE] at he ⊢
      · exact Again.mk (n + 1, q.parent) ⟨by dsimp only; omega, by dsimp only; rw [show 15 - (n + 1) = m by omega]; exact he⟩ (by dsimp only; omega) (Sub.by [0] (by simp [hw, ndsE]))
      · exact he
  · rw [show 15 - n = 0 by omega, schF] at he
    subst he
    simp
theorem belowOf_mem {t : Tree} {id k : Int} (h : k ∈ belowOf t id) : okT t.nodes t.next = true ∧ ∃ x ∈ t.nodes, x.id = k := by
  unfold belowOf at h
  split at h
  · rename_i h1
    refine ⟨h1.1, ?_⟩
    unfold belows at h
    obtain ⟨x, hx, rfl⟩ := List.mem_map.1 h
    exact ⟨x, (List.mem_filter.1 hx).1, rfl⟩
  · exact absurd h (by simp)
theorem belowOf_at {t : Tree} {id k : Int} (h : k ∈ belowOf t id) : ∃ (j : Nat) (q : Nod), t.nodes[j]? = some q ∧ atI t.nodes k = (j : Int) ∧ nd t.nodes k = some q := by
  obtain ⟨h1, x, hx, rfl⟩ := belowOf_mem h
  rcases atI_spec t.nodes x.id with ⟨g1, g2, _⟩ | ⟨k, q, gq, g1, gid, g2, _⟩
  · rw [(okT_iff.1 h1).nd_self hx] at g2; cases g2
  · exact ⟨k, q, gq, g1, g2⟩
theorem UsedBelow_spec (hZ : ZOk Tryz.prog Z) (t : Tree) (id : Int) : Does Z Tryz.prog G B0 50 [trA false t, iA id] [] [] (fun y _ => y = iA (usedBelow t id)) := by
  generalize hr : usedBelow t id = r
  refine Does.bodyF hZ Tryz.func50 rfl rfl (Nat.le_of_ble_eq_true rfl) fun hf => ?_
  simp [trA, ndsE] at hf
  simp [Tryz.f50, trA, ndsE]
  refine CallA.snapE (BelowOf_spec hZ t id) (by simp [trA, ndsE]) (by simp [intsE, noShrLL_mem]) ?_
  have hlen := belowOf_len t id
  simp [intsE]
  refine LoopA.run hZ (fun p : Nat × Int => ⟨31, [(2, .ptr [(0, 0)]), (5, .bor [(1, 0)] 0 (belowOf t id).length), (6, iA p.2), (7, iA p.1)], [[ndsE false t.nodes, iC t.next], [intsE true (belowOf t id)]], [true, false]⟩) (fun p => p.1 ≤ (belowOf t id).length ∧ usedL t.nodes ((belowOf t id).drop p.1) p.2 = r) (fun p => (belowOf t id).length - p.1) (0, 0) ⟨Nat.zero_le _, hr⟩ (Sub.by [0, 1] (by simp [ndsE, intsE])) fun ⟨i, n⟩ ⟨hi, he⟩ => ?_
  dsimp only at hi he
  simp [ndsE, intsE]
  refine Br.dec (fun h => ?_) (fun h => ?_)
  · have hx : (belowOf t id)[i]? = some (belowOf t id)[i] := List.getElem?_eq_getElem h
    have hw : IntKind.i64.wrap ((i : Int) + 1) = ((i + 1 : Nat) : Int) := wrap_i64 (by omega)
    obtain ⟨j, q, gq, g1, g2⟩ := belowOf_at (List.getElem_mem h)
    rw [List.drop_eq_getElem_cons h, usedL, List.foldl_cons, lenAt, g2] at he
    refine W_draw hZ hmo 1 12 [(2, []), (2, []), (2, []), (2, []), (2, []), (2, []), (2, []), (2, []), (2, []), (3, [2]), (3, [2]), (3, [2])] (by kernel_rfl) ?_
    simp [hx, h]
    refine CallD.snapE (l10At_spec hZ t (belowOf t id)[i]) (by simp [trA, ndsE]) (by simp) ?_
    simp [g1, gq, ndE, pcsE]
    exact Again.mk (i + 1, w64 (n + q.len)) ⟨by dsimp only; omega, he⟩ (by dsimp only; omega) (Sub.by [0, 1] (by simp [hw, ndsE, intsE, w64]))
  · rw [List.drop_eq_nil_of_le (show (belowOf t id).length ≤ i by omega), usedL, List.foldl_nil] at he
    subst he
    simp
set_option maxHeartbeats 1000000 in
theorem RoomFor_spec (hZ : ZOk Tryz.prog Z) (t : Tree) (id n : Int) : Does Z Tryz.prog G B0 180 [trA false t, iA id, iA n] [] [] (fun y _ => y = bA (roomFor t id n)) := by
  refine Does.bodyF hZ Tryz.func180 rfl rfl (Nat.le_of_ble_eq_true rfl) fun hf => ?_
  simp [trA, ndsE] at hf
  simp [Tryz.f180, trA, ndsE]
  refine CallA.snapE (TreeOk_spec hZ t) (by simp [trA, ndsE]) (by simp) ?_
  simp
  refine Br.bool (fun h1 => ?_) (fun h1 => ?_) <;> simp [h1, roomFor]
  generalize hr : roomF t n 15 false id = r
  refine LoopA.run hZ (fun p : Nat × Int => ⟨58, [(1, iA p.2), (2, iA n), (3, .ptr [(0, 0)]), (7, iA p.1)], [[ndsE false t.nodes, iC t.next]], [true]⟩) (fun p => p.1 ≤ 15 ∧ roomF t n (15 - p.1) (decide (0 < p.1)) p.2 = r) (fun p => 15 - p.1) (0, id) ⟨Nat.zero_le _, hr⟩ (Sub.by [0] (by simp [ndsE])) fun ⟨s, id⟩ ⟨hn, he⟩ => ?_
  dsimp only at hn he
  simp [ndsE]
  refine Br.dec (fun h => ?_) (fun h => ?_)
  · have hw : IntKind.i64.wrap ((s : Int) + 1) = ((s + 1 : Nat) : Int) := wrap_i64 (by omega)
    obtain ⟨m, hm⟩ : ∃ m, 15 - s = m + 1 := ⟨14 - s, by omega⟩
    rw [hm, roomF] at he
    simp
    refine CallA.snapE (l10At_spec hZ t id) (by simp [trA, ndsE]) (by simp) ?_
    rcases atI_spec t.nodes id with ⟨g1, g2, _⟩ | ⟨k, q, gq, g1, gid, g2, _⟩
    · rw [g2] at he
      dsimp only at he
      subst he
      simp [g1]
    · rw [g2] at he
      dsimp only at he
      have hk0 : ¬ ((k : Int) < 0) := by omega
      simp [g1, gq, hk0, ndE, pcsE]
      refine W_draw hZ hmo 1 27 [(2, []), (2, []), (2, []), (2, []), (2, []), (2, []), (2, []), (2, []), (2, []), (2, []), (2, []), (2, []), (2, []), (2, []), (2, []), (2, []), (2, []), (2, []), (2, []), (2, []), (2, []), (2, []), (2, []), (2, []), (2, []), (2, []), (3, [2])] (by kernel_rfl) ?_
      simp [gq, ndE, pcsE]
      refine Br.bool (fun h2 => ?_) (fun h2 => ?_) <;> simp [h2, gq, ndE, pcsE] at he ⊢
      · refine Br.dec (fun h3 => ?_) (fun h3 => ?_) <;> simp [h2, h3, gq, ndE, pcsE] at he ⊢
        · refine CallD.snapE (UsedBelow_spec hZ t id) (by simp [trA, ndsE]) (by simp) ?_
          simp
          refine Br.dec (fun h4 => ?_) (fun h4 => ?_)
          · have h4' : w64 (q.quota - usedBelow t id) < n := h4
            simp [h4'] at he
            subst he
            simp [h4]
          · have h4' : ¬ w64 (q.quota - usedBelow t id) < n := h4
            simp [h4'] at he
            simp [h4, gq, ndE, pcsE]
            exact Again.mk (s + 1, q.parent) ⟨by dsimp only; omega, by dsimp only; rw [show 15 - (s + 1) = m by omega]; simpa using he⟩ (by dsimp only; omega) (Sub.by [0] (by simp [hw, ndsE]))
        · exact Again.mk (s + 1, q.parent) ⟨by dsimp only; omega, by dsimp only; rw [show 15 - (s + 1) = m by omega]; simpa using he⟩ (by dsimp only; omega) (Sub.by [0] (by simp [hw, ndsE]))
      · exact Again.mk (s + 1, q.parent) ⟨by dsimp only; omega, by dsimp only; rw [show 15 - (s + 1) = m by omega]; simpa using he⟩ (by dsimp only; omega) (Sub.by [0] (by simp [hw, ndsE]))
  · rw [show 15 - s = 0 by omega, roomF] at he
    subst he
    simp
theorem root_schema {l : List Nod} {nx : Int} (H : OkT l nx) {x : Nod} (hx : x ∈ l) (h : x.id = 1) : x.schema ≠ 0 := by
  obtain ⟨r, h1, h2⟩ := H.root
  simp only [rootB, Bool.and_eq_true, decide_eq_true_eq, Bool.not_eq_true', decide_eq_false_iff_not] at h2
  have hr := H.nd_self (List.mem_of_getElem? h1)
  have := H.nd_self hx
  rw [h] at this
  rw [h2.1.1.1.1, this] at hr
  cases hr; exact h2.2
theorem lead_up {l : List Nod} {nx : Int} (H : OkT l nx) {m : Nat} {z : Nod} (hz : z ∈ l) (hL : Lead l m z) (hne : z.id ≠ 1) : ∃ m' y j, m = m' + 1 ∧ nd l z.parent = some y ∧ Lead l m' y ∧ y ∈ l ∧ l[j]? = some y ∧ atI l z.parent = ((j : Nat) : Int) := by
  cases m with
  | zero => exact absurd hL hne
  | succ m =>
    rcases hL with hL | ⟨y, hy, hL⟩
    · exact absurd hL hne
    · rcases atI_spec l z.parent with ⟨g1, g2, _⟩ | ⟨k, q, gq, g1, gid, g2, _⟩
      · rw [hy] at g2; cases g2
      · rw [hy] at g2; cases g2
        exact ⟨m, y, k, rfl, hy, hL, (nd_mem hy).1, gq, g1⟩
theorem schF_none {l : List Nod} {id : Int} (h : nd l id = none) : ∀ n, schF l n id = 0
  | 0 => rfl
  | n + 1 => by rw [schF, h]
theorem roomF_none {t : Tree} {id n : Int} (h : nd t.nodes id = none) : ∀ k b, 0 < k → roomF t n k b id = b
  | k + 1, b, _ => by rw [roomF, h]
set_option maxHeartbeats 1000000 in
theorem iSchemaAt_spec (hZ : ZOk Tryz.prog Z) (t : Tree) (id : Int) : Does Z Tryz.prog G B0 29 [trA false t, iA id] [] [] (fun y _ => y = iA (schemaAt t id)) := by
  refine Does.bodyF hZ Tryz.func29 rfl rfl (Nat.le_of_ble_eq_true rfl) fun hf => ?_
  simp [trA, ndsE] at hf
  simp [Tryz.f29, trA, ndsE]
  refine CallA.snapE (iTreeOk_spec hZ t) (by simp [trA, ndsE]) (by simp) ?_
  simp
  refine Br.bool (fun h1 => ?_) (fun h1 => ?_) <;> simp [h1, schemaAt]
  refine CallA.snapE (nodeAt_spec hZ t id) (by simp [trA, ndsE]) (by simp) ?_
  have H := okT_iff.1 h1
  rcases atI_spec t.nodes id with ⟨g1, g2, _⟩ | ⟨k, x, gx, g1, gid, g2, _⟩
  · simp [g1, schF_none g2]
  · have hk0 : ¬ ((k : Int) < 0) := by omega
    simp [g1, g2, hk0]
    refine W_draw hZ hmo 2 8 [(3, []), (3, []), (3, []), (3, []), (3, []), (4, [3]), (4, [3]), (4, [])] (by kernel_rfl) ?_
    simp
    refine CallD.snapE (nodeAt_spec hZ t id) (by simp [trA, ndsE]) (by simp) ?_
    simp [g1, gx, ndE, pcsE]
    generalize hr : schF t.nodes 15 id = r
    refine LoopA.run hZ (fun p : Nat × Nod => ⟨35, [(2, .ptr [(0, 0)]), (5, .ptr [(1, 0)])], [[ndsE false t.nodes, iC t.next], ndE false p.2], [true, true]⟩) (fun p => p.2 ∈ t.nodes ∧ Lead t.nodes p.1 p.2 ∧ ∃ n, p.1 + 1 ≤ n ∧ schF t.nodes n p.2.id = r) (fun p => p.1) (4, x) ⟨List.mem_of_getElem? gx, H.lead (List.mem_of_getElem? gx), 15, by dsimp only; omega, by dsimp only; rw [gid]; exact hr⟩ (Sub.by [0, 4] (by simp [ndsE, ndE, pcsE])) fun ⟨m, z⟩ ⟨hz, hL, n, hn, hb⟩ => ?_
    dsimp only at hz hL hn hb
    simp [ndsE, ndE, pcsE]
    obtain ⟨n, rfl⟩ : ∃ m, n = m + 1 := ⟨n - 1, by omega⟩
    rw [schF, H.nd_self hz] at hb
    dsimp only at hb
    refine Br.dec (fun h3 => ?_) (fun h3 => ?_) <;> simp [h3] at hb ⊢
    · obtain ⟨m, y, j, rfl, hy, hLy, hmy, hj, haj⟩ := lead_up H hz hL (fun c => root_schema H hz c h3)
      refine W_draw hZ hmo 1 6 [(2, []), (2, []), (2, []), (2, []), (2, []), (2, [])] (by kernel_rfl) ?_
      simp
      refine CallD.snapE (nodeAt_spec hZ t z.parent) (by simp [trA, ndsE]) (by simp) ?_
      simp [haj, hj, ndE, pcsE]
      exact Again.mk (m, y) ⟨hmy, hLy, n, by dsimp only; omega, by dsimp only; rw [(nd_mem hy).2]; exact hb⟩ (by dsimp only; omega) (Sub.by [0, 1] (by simp [ndsE, ndE, pcsE]))
    · exact hb
theorem iUsedBelow_spec (hZ : ZOk Tryz.prog Z) (t : Tree) (id : Int) : Does Z Tryz.prog G B0 32 [trA false t, iA id] [] [] (fun y _ => y = iA (usedBelow t id)) := by
  generalize hr : usedBelow t id = r
  refine Does.bodyF hZ Tryz.func32 rfl rfl (Nat.le_of_ble_eq_true rfl) fun hf => ?_
  simp [trA, ndsE] at hf
  simp [Tryz.f32, trA, ndsE]
  refine CallA.snapE (iBelowOf_spec2 hZ t id) (by simp [trA, ndsE]) (by simp [intsE, noShrLL_mem]) ?_
  have hlen := belowOf_len t id
  simp [intsE]
  refine LoopA.run hZ (fun p : Nat × Int => ⟨28, [(2, .ptr [(0, 0)]), (5, iA p.2), (10, .bor [(1, 0)] 0 (belowOf t id).length), (11, iA (belowOf t id).length), (12, iA p.1)], [[ndsE false t.nodes, iC t.next], [intsE true (belowOf t id)]], [true, false]⟩) (fun p => p.1 ≤ (belowOf t id).length ∧ usedL t.nodes ((belowOf t id).drop p.1) p.2 = r) (fun p => (belowOf t id).length - p.1) (0, 0) ⟨Nat.zero_le _, hr⟩ (Sub.by [0, 1] (by simp [ndsE, intsE])) fun ⟨i, n⟩ ⟨hi, he⟩ => ?_
  dsimp only at hi he
  simp [ndsE, intsE]
  refine Br.dec (fun h => ?_) (fun h => ?_)
  · have hx : (belowOf t id)[i]? = some (belowOf t id)[i] := List.getElem?_eq_getElem h
    have hw : IntKind.i64.wrap ((i : Int) + 1) = ((i + 1 : Nat) : Int) := wrap_i64 (by omega)
    obtain ⟨j, q, gq, g1, g2⟩ := belowOf_at (List.getElem_mem h)
    rw [List.drop_eq_getElem_cons h, usedL, List.foldl_cons, lenAt, g2] at he
    simp [hx, h]
    refine W_draw hZ hmo 1 9 [(2, []), (2, []), (2, []), (2, []), (2, []), (2, []), (3, [2]), (3, [2]), (3, [2])] (by kernel_rfl) ?_
    simp
    refine CallD.snapE (nodeAt_spec hZ t (belowOf t id)[i]) (by simp [trA, ndsE]) (by simp) ?_
    simp [g1, gq, ndE, pcsE]
    exact Again.mk (i + 1, w64 (n + q.len)) ⟨by dsimp only; omega, he⟩ (by dsimp only; omega) (Sub.by [0, 1] (by simp [hw, ndsE, intsE, w64]))
  · rw [List.drop_eq_nil_of_le (show (belowOf t id).length ≤ i by omega), usedL, List.foldl_nil] at he
    subst he
    simp
set_option maxHeartbeats 1000000 in
theorem iRoomFor_spec (hZ : ZOk Tryz.prog Z) (t : Tree) (id n : Int) : Does Z Tryz.prog G B0 244 [trA false t, iA id, iA n] [] [] (fun y _ => y = bA (roomFor t id n)) := by
  refine Does.bodyF hZ Tryz.func244 rfl rfl (Nat.le_of_ble_eq_true rfl) fun hf => ?_
  simp [trA, ndsE] at hf
  simp [Tryz.f244, trA, ndsE]
  refine CallA.snapE (iTreeOk_spec hZ t) (by simp [trA, ndsE]) (by simp) ?_
  simp
  refine Br.bool (fun h1 => ?_) (fun h1 => ?_) <;> simp [h1, roomFor]
  refine CallA.snapE (nodeAt_spec hZ t id) (by simp [trA, ndsE]) (by simp) ?_
  have H := okT_iff.1 h1
  rcases atI_spec t.nodes id with ⟨g1, g2, _⟩ | ⟨k, x, gx, g1, gid, g2, _⟩
  · simp [g1, roomF_none g2]
  · have hk0 : ¬ ((k : Int) < 0) := by omega
    simp [g1, g2, hk0]
    generalize hr : roomF t n 15 false id = r
    refine LoopA.run hZ (fun p : Nat × Nod => ⟨41, [(1, iA p.2.id), (2, iA n), (3, .ptr [(0, 0)])], [[ndsE false t.nodes, iC t.next]], [true]⟩) (fun p => p.2 ∈ t.nodes ∧ Lead t.nodes p.1 p.2 ∧ ∃ k b, p.1 + 2 ≤ k ∧ roomF t n k b p.2.id = r) (fun p => p.1) (4, x) ⟨List.mem_of_getElem? gx, H.lead (List.mem_of_getElem? gx), 15, false, by dsimp only; omega, by dsimp only; rw [gid]; exact hr⟩ (Sub.by [0] (by simp [ndsE, gid])) fun ⟨m, z⟩ ⟨hz, hL, s, b, hn, hb⟩ => ?_
    dsimp only at hz hL hn hb
    obtain ⟨s, rfl⟩ : ∃ m, s = m + 1 := ⟨s - 1, by omega⟩
    rw [roomF, H.nd_self hz] at hb
    dsimp only at hb
    have hzd : 0 < z.quota → z.dir = true := fun hq => by
      cases hd : z.dir with
      | true => rfl
      | false => have := (ndB_file (H.nds z hz) hd).2.1; omega
    simp [ndsE]
    obtain ⟨j, y, gy, ga, gi, gn, _⟩ : ∃ (j : Nat) (y : Nod), t.nodes[j]? = some y ∧ atI t.nodes z.id = (j : Int) ∧ y.id = z.id ∧ nd t.nodes z.id = some y ∧ True := by
      rcases atI_spec t.nodes z.id with ⟨g1, g2, _⟩ | ⟨k, x, gx, g1, gid, g2, _⟩
      · rw [H.nd_self hz] at g2; cases g2
      · exact ⟨k, x, gx, g1, gid, g2, trivial⟩
    rw [H.nd_self hz] at gn
    cases gn
    refine W_draw hZ hmo 2 8 [(1, []), (1, []), (1, []), (1, []), (1, []), (2, [1]), (2, [1]), (2, [])] (by kernel_rfl) ?_
    simp
    refine CallD.snapE (nodeAt_spec hZ t z.id) (by simp [trA, ndsE]) (by simp) ?_
    simp [ga, gy, ndE, pcsE]
    refine W_draw hZ hmo 1 11 [(3, []), (3, []), (3, []), (3, []), (3, []), (3, []), (3, []), (3, []), (3, []), (3, []), (4, [3])] (by kernel_rfl) ?_
    simp
    refine Br.dec (fun h3 => ?_) (fun h3 => ?_) <;> simp [h3, hzd] at hb ⊢
    · refine CallD.snapE (iUsedBelow_spec hZ t z.id) (by simp [trA, ndsE]) (by simp) ?_
      simp
      refine Br.dec (fun h4 => ?_) (fun h4 => ?_)
      · have h4' : w64 (z.quota - usedBelow t z.id) < n := h4
        simp [h4'] at hb
        subst hb
        simp [h4]
      · have h4' : ¬ w64 (z.quota - usedBelow t z.id) < n := h4
        simp [h4'] at hb
        simp [h4]
        refine Br.dec (fun h5 => ?_) (fun h5 => ?_) <;> simp [h5]
        · rw [roomF_none (by rw [H.parent_one hz h5]; exact H.nd_zero) _ _ (by omega)] at hb
          exact hb.symm ▸ rfl
        · obtain ⟨m, y, j, rfl, hy, hLy, hmy, hj, haj⟩ := lead_up H hz hL h5
          exact Again.mk (m, y) ⟨hmy, hLy, s, true, by dsimp only; omega, by dsimp only; rw [(nd_mem hy).2]; exact hb⟩ (by dsimp only; omega) (Sub.by [0] (by simp [ndsE, (nd_mem hy).2]))
    · refine Br.dec (fun h5 => ?_) (fun h5 => ?_) <;> simp [h5]
      · rw [roomF_none (by rw [H.parent_one hz h5]; exact H.nd_zero) _ _ (by omega)] at hb
        exact hb.symm ▸ rfl
      · obtain ⟨m, y, j, rfl, hy, hLy, hmy, hj, haj⟩ := lead_up H hz hL h5
        exact Again.mk (m, y) ⟨hmy, hLy, s, true, by dsimp only; omega, by dsimp only; rw [(nd_mem hy).2]; exact hb⟩ (by dsimp only; omega) (Sub.by [0] (by simp [ndsE, (nd_mem hy).2]))
end Go.Proofs.YtbhbkaonlillhaaGreatDoor
