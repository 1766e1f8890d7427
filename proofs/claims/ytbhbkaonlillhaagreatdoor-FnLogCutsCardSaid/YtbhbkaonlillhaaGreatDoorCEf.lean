/- Contracts: right nodes, right trees (the second part). -/
import Derived.Test.YtbhbkaonlillhaaGreatDoorCEe
namespace Go.Proofs.YtbhbkaonlillhaaGreatDoor
open Go Go.Abs Go.Proofs Go.Tm
set_option linter.unusedSimpArgs false
set_option linter.unusedVariables false
set_option maxRecDepth 10000
variable {Z : TypeId → Nat} {G : World → Prop} {B0 : Nat}

set_option maxHeartbeats 4000000 in
theorem l10Node_spec (hZ : ZOk Tryz.prog Z) (t : Tree) (i : Nat) (x : Nod) (hx : t.nodes[i]? = some x) : Does Z Tryz.prog G B0 167 [trA false t, iA i] [] [] (fun y _ => y = bA (okN t.nodes t.next i x)) := by
  refine Does.bodyF hZ Tryz.func167 rfl rfl (Nat.le_of_ble_eq_true rfl) fun hf => ?_
  simp [trA, ndsE] at hf
  have hil : i < t.nodes.length := (List.getElem?_eq_some_iff.1 hx).1
  simp [Tryz.f167, trA, ndsE, hx, ndE, pcsE]
  rcases Nat.eq_zero_or_pos i with rfl | hi
  · refine W_draw hZ hmo 0 18 [(2, []), (2, []), (2, []), (2, []), (2, []), (2, []), (2, []), (2, []), (2, []), (2, []), (2, []), (2, []), (2, []), (2, []), (2, []), (2, []), (2, []), (2, [])] (by kernel_rfl) ?_
    simp
    refine Br.dec (fun h1 => ?_) (fun h1 => ?_) <;> simp [okN, rootB, prevB, ndB, dirB, fileB, *]
    · intros; omega
    refine Br.dec (fun h2 => ?_) (fun h2 => ?_) <;> simp [okN, rootB, prevB, ndB, dirB, fileB, *]
    refine Br.dec (fun h3 => ?_) (fun h3 => ?_) <;> simp [okN, rootB, prevB, ndB, dirB, fileB, *]
    refine Br.dec (fun h4 => ?_) (fun h4 => ?_) <;> simp [okN, rootB, prevB, ndB, dirB, fileB, *]
    refine Br.bool (fun h5 => ?_) (fun h5 => ?_) <;> simp [okN, rootB, prevB, ndB, dirB, fileB, *]
    refine Br.dec (fun h6 => ?_) (fun h6 => ?_) <;> simp [okN, rootB, prevB, ndB, dirB, fileB, *]
    refine CallA.snapE (l01In_spec hZ x.schema 0 3) (by simp) (by simp) ?_
    simp
    refine Br.bool (fun h7 => ?_) (fun h7 => ?_) <;> simp [okN, rootB, prevB, ndB, dirB, fileB, *]
    refine CallA.snapE (l01In_spec hZ x.quota 0 1000) (by simp) (by simp) ?_
    simp
    refine Br.bool (fun h8 => ?_) (fun h8 => ?_) <;> simp [okN, rootB, prevB, ndB, dirB, fileB, *]
    refine Br.dec (fun h9 => ?_) (fun h9 => ?_) <;> simp [okN, rootB, prevB, ndB, dirB, fileB, *]
    refine Br.dec (fun h10 => ?_) (fun h10 => ?_) <;> simp [okN, rootB, prevB, ndB, dirB, fileB, *]
    · intro _ hp; rw [hp] at h10; simp at h10
    have hp : x.pieces = [] := List.length_eq_zero_iff.1 (by omega)
    refine Br.dec (fun h11 => ?_) (fun h11 => ?_) <;> simp [okN, rootB, prevB, ndB, dirB, fileB, *]
    omega
  · have hi0 : i ≠ 0 := by omega
    have hiz : ¬ ((i : Int) = 0) := by omega
    have hy : t.nodes[i - 1]? = some t.nodes[i - 1] := List.getElem?_eq_getElem (by omega)
    have hwd := w_dec hil hf.1 hi
    generalize t.nodes[i - 1] = z at hy
    have e : okN t.nodes t.next i x = (decide (x.id < t.next) && decide (z.id < x.id) && ndB x && (nmB x.name && dirAt t.nodes x.parent && uniqB t.nodes i x && reach t.nodes 4 x.id)) := by simp [okN, prevB, hi0, hy]
    rw [e]
    generalize hrr : reach t.nodes 4 x.id = rr at *
    refine W_draw hZ hmo 0 18 [(2, []), (2, []), (2, []), (2, []), (2, []), (2, []), (2, []), (2, []), (2, []), (2, []), (2, []), (2, []), (2, []), (2, []), (2, []), (2, []), (2, []), (2, [])] (by kernel_rfl) ?_
    simp
    refine Br.dec (fun h1 => ?_) (fun h1 => ?_) <;> simp [h1, hi, hiz, hwd, hy, hx, ndE, pcsE]
    · intros; omega
    have h1' : x.id < t.next := by omega
    refine Br.dec (fun h2 => ?_) (fun h2 => ?_) <;> simp [h1', h2, hi0]
    · intros; omega
    have h2' : z.id < x.id := by omega
    cases hd : x.dir <;> simp [hd]
    refine CallA.snapE (l10File_spec hZ x) (by simp [ndA, ndE, pcsE, hd]) (by simp) ?_
    simp
    refine Br.bool (fun h3 => ?_) (fun h3 => ?_) <;> simp [ndB, hd, h3, hi0]
    rotate_left
    refine CallA.snapE (l01In_spec hZ x.schema 0 3) (by simp) (by simp) ?_
    simp
    refine Br.bool (fun h7 => ?_) (fun h7 => ?_) <;> simp [ndB, dirB, hd, h7]
    refine CallA.snapE (l01In_spec hZ x.quota 0 1000) (by simp) (by simp) ?_
    simp
    refine Br.bool (fun h8 => ?_) (fun h8 => ?_) <;> simp [ndB, dirB, hd, h8]
    refine Br.dec (fun h9 => ?_) (fun h9 => ?_) <;> simp [ndB, dirB, hd, h9]
    refine Br.dec (fun h10 => ?_) (fun h10 => ?_) <;> simp [ndB, dirB, hd, h10]
    · intro _ hp; rw [hp] at h10; simp at h10
    have hp : x.pieces.length = 0 := by omega
    refine Br.dec (fun h11 => ?_) (fun h11 => ?_) <;> simp [ndB, dirB, hd, h11, hi0, hp]
    all_goals
      refine CallA.snapE (l10At_spec hZ t x.parent) (by simp [trA, ndsE]) (by simp) ?_
      simp
      refine CallA.snapE (NameOk_spec hZ x.name) (by simp) (by simp) ?_
      simp
      refine Br.bool (fun h12 => ?_) (fun h12 => ?_) <;> simp [h12]
      rcases atI_spec t.nodes x.parent with ⟨g1, g2, _⟩ | ⟨k, p, gp, g1, gid, g2, _⟩
      · simp [g1, dirAt, g2]
      · have hk0 : ¬ ((k : Int) < 0) := by omega
        simp [g1, hk0, gp, dirAt, g2, ndE, pcsE]
        refine Br.bool (fun h13 => ?_) (fun h13 => ?_) <;> simp [h13]
        refine LoopA.run hZ (fun j : Nat => ⟨173, [(1, iA i), (2, .ptr [(0, 0)]), (5, .ptr [(1, 0)]), (7, iA j)], [[ndsE false t.nodes, iC t.next], ndE false x], [true, true]⟩) (fun j => j ≤ i ∧ uniqB t.nodes j x = true) (fun j => i - j) 0 ⟨Nat.zero_le _, by simp [uniqB]⟩ (Sub.by [0, 1] (by simp [ndE, ndsE, pcsE, hd, *])) fun j ⟨hj, hu⟩ => ?_
        simp [ndsE, ndE, pcsE]
        refine Br.dec (fun hji => ?_) (fun hji => ?_)
        · have hq : t.nodes[j]? = some t.nodes[j] := List.getElem?_eq_getElem (by omega)
          generalize t.nodes[j] = q at hq
          have hw := w_inc (show j < t.nodes.length by omega) hf.1
          refine W_draw hZ hmo 0 18 [(2, []), (2, []), (2, []), (2, []), (2, []), (2, []), (2, []), (2, []), (2, []), (2, []), (2, []), (2, []), (2, []), (2, []), (2, []), (2, []), (2, []), (2, [])] (by kernel_rfl) ?_
          simp [hq, ndE, pcsE]
          have no : (q.parent = x.parent ∧ q.name = x.name) → uniqB t.nodes i x = false := fun hh => by
            unfold uniqB; rw [List.all_eq_false]
            exact ⟨q, List.mem_of_getElem? (by rw [List.getElem?_take_of_lt hji]; exact hq), by simp [hh]⟩
          have go : ¬ (q.parent = x.parent ∧ q.name = x.name) → uniqB t.nodes (j + 1) x = true := fun hh => by
            unfold uniqB at hu ⊢
            exact all_take hu hq (by by_cases a1 : q.parent = x.parent <;> by_cases a2 : q.name = x.name <;> simp [a1, a2] <;> exact hh ⟨a1, a2⟩)
          refine Br.dec (fun h14 => ?_) (fun h14 => ?_) <;> simp [h14, hq, ndE, pcsE]
          · refine Br.dec (fun h15 => ?_) (fun h15 => ?_) <;> simp [h15]
            · intros; exact absurd (no ⟨h14, h15⟩) (by simp_all)
            · exact Again.mk (j + 1) ⟨by omega, go fun hh => h15 hh.2⟩ (by omega) (Sub.by [0, 1] (by simp [hw, ndE, ndsE, pcsE]))
          · exact Again.mk (j + 1) ⟨by omega, go fun hh => h14 hh.1⟩ (by omega) (Sub.by [0, 1] (by simp [hw, ndE, ndsE, pcsE]))
        · obtain rfl : j = i := by omega
          simp [hu]
          refine LoopA.run hZ (fun p : Nat × Int => ⟨173, [(2, .ptr [(0, 0)]), (8, iA p.2), (9, iA p.1)], [[ndsE false t.nodes, iC t.next]], [true]⟩) (fun p => p.1 ≤ 4 ∧ reach t.nodes (4 - p.1) p.2 = rr) (fun p => 4 - p.1) (0, x.id) ⟨Nat.zero_le _, hrr⟩ (Sub.by [0] (by simp [ndsE])) fun ⟨n, id⟩ ⟨hn, he⟩ => ?_
          dsimp only at hn he
          simp [ndsE]
          refine Br.dec (fun h => ?_) (fun h => ?_)
          · have hw : IntKind.i64.wrap ((n : Int) + 1) = ((n + 1 : Nat) : Int) := wrap_i64 (by omega)
            obtain ⟨m, hm⟩ : ∃ m, 4 - n = m + 1 := ⟨3 - n, by omega⟩
            rw [hm, reach] at he
            simp
            refine CallA.snapE (l10At_spec hZ t id) (by simp [trA, ndsE]) (by simp) ?_
            rcases atI_spec t.nodes id with ⟨g1, g2, _⟩ | ⟨k, q, gq, g1, gid, g2, _⟩
            · rw [g2] at he
              dsimp only at he
              subst he
              simp [g1]
            · rw [g2] at he
              dsimp only at he
              have hk0 : ¬ ((k : Int) < 0) := by omega
              simp [g1, gq, hk0, ndE, pcsE]
              refine Br.dec (fun h4 => ?_) (fun h4 => ?_) <;> simp [h4] at he ⊢
              · first | exact he | exact ⟨⟨h2', List.length_eq_zero_iff.1 hp⟩, he⟩ | exact ⟨h2', he⟩
              · exact Again.mk (n + 1, q.parent) ⟨by dsimp only; omega, by dsimp only; rw [show 4 - (n + 1) = m by omega]; exact he⟩ (by dsimp only; omega) (Sub.by [0] (by simp [hw, ndsE]))
          · rw [show 4 - n = 0 by omega, reach] at he
            subst he
            simp
end Go.Proofs.YtbhbkaonlillhaaGreatDoor
