/- Contracts: what lies below a node. -/
import Derived.Test.YtbhbkaonlillhaaGreatDoorCEg
namespace Go.Proofs.YtbhbkaonlillhaaGreatDoor
open Go Go.Abs Go.Proofs Go.Tm
set_option linter.unusedSimpArgs false
set_option linter.unusedVariables false
set_option maxRecDepth 10000
variable {Z : TypeId → Nat} {G : World → Prop} {B0 : Nat}

theorem l10Below_spec (hZ : ZOk Tryz.prog Z) (t : Tree) (id top : Int) : Does Z Tryz.prog G B0 103 [trA false t, iA id, iA top] [] [] (fun y _ => y = bA (below t.nodes id top)) := by
  generalize hr : below t.nodes id top = r
  refine Does.body hZ Tryz.func103 rfl rfl (Nat.le_of_ble_eq_true rfl) ?_
  simp [Tryz.f103, trA, ndsE]
  refine LoopA.run hZ (fun p : Nat × Int => ⟨27, [(1, iA p.2), (2, iA top), (3, .ptr [(0, 0)]), (7, iA p.1)], [[ndsE false t.nodes, iC t.next]], [true]⟩) (fun p => p.1 ≤ 15 ∧ belowF t.nodes (15 - p.1) p.2 top = r) (fun p => 15 - p.1) (0, id) ⟨Nat.zero_le _, hr⟩ (Sub.by [0] (by simp [ndsE])) fun ⟨n, id⟩ ⟨hn, he⟩ => ?_
  dsimp only at hn he
  simp [ndsE]
  refine Br.dec (fun h => ?_) (fun h => ?_)
  · have hw : IntKind.i64.wrap ((n : Int) + 1) = ((n + 1 : Nat) : Int) := wrap_i64 (by omega)
    obtain ⟨m, hm⟩ : ∃ m, 15 - n = m + 1 := ⟨14 - n, by omega⟩
    rw [hm, belowF] at he
    simp
    refine Br.dec (fun h1 => ?_) (fun h1 => ?_) <;> simp [h1] at he ⊢
    · exact he
    refine CallA.snapE (l10At_spec hZ t id) (by simp [trA, ndsE]) (by simp) ?_
    rcases atI_spec t.nodes id with ⟨g1, g2, _⟩ | ⟨k, q, gq, g1, gid, g2, _⟩
    · rw [g2] at he
      dsimp only at he
      subst he
      simp [g1]
    · rw [g2] at he
      dsimp only at he
      have hk0 : ¬ ((k : Int) < 0) := by omega
      simp [g1, gq, hk0, ndE, pcsE]
      exact Again.mk (n + 1, q.parent) ⟨by dsimp only; omega, by dsimp only; rw [show 15 - (n + 1) = m by omega]; exact he⟩ (by dsimp only; omega) (Sub.by [0] (by simp [hw, ndsE]))
  · rw [show 15 - n = 0 by omega, belowF] at he
    subst he
    simp

theorem filter_take {α : Type} {p : α → Bool} {l : List α} {i : Nat} {x : α} (hx : l[i]? = some x) : (l.take (i + 1)).filter p = (l.take i).filter p ++ (if p x = true then [x] else []) := by
  rw [List.take_add_one, List.filter_append, hx]
  cases h : p x <;> simp [h]

theorem BelowOf_spec (hZ : ZOk Tryz.prog Z) (t : Tree) (id : Int) : Does Z Tryz.prog G B0 36 [trA false t, iA id] [] [] (fun y _ => y = .c (intsE true (belowOf t id))) := by
  refine Does.bodyF hZ Tryz.func36 rfl rfl (Nat.le_of_ble_eq_true rfl) fun hf => ?_
  simp [trA, ndsE] at hf
  simp [Tryz.f36, trA, ndsE]
  refine CallA.snapE (TreeOk_spec hZ t) (by simp [trA, ndsE]) (by simp) ?_
  simp
  refine Br.bool (fun h1 => ?_) (fun h1 => ?_) <;> simp [h1, belowOf, intsE]
  refine CallA.snapE (l10At_spec hZ t id) (by simp [trA, ndsE]) (by simp) ?_
  have hlen := (okT_iff.1 h1).len2
  rcases atI_spec t.nodes id with ⟨g1, g2, _⟩ | ⟨k, q, gq, g1, gid, g2, _⟩
  · simp [g1, g2]
  · have hk0 : ¬ ((k : Int) < 0) := by omega
    simp [g1, g2, hk0]
    refine LoopA.run hZ (fun p : Nat × List Int => ⟨43, [(1, iA id), (2, .ptr [(0, 0)]), (5, .bor [(1, 0)] 0 p.2.length), (6, iA p.1)], [[ndsE false t.nodes, iC t.next], [intsE true p.2]], [true, false]⟩) (fun p => p.1 ≤ t.nodes.length ∧ p.2.length ≤ p.1 ∧ p.2 = ((t.nodes.take p.1).filter fun x => below t.nodes x.id id).map (·.id)) (fun p => t.nodes.length - p.1) (0, []) (by simp) (Sub.by [0, 2] (by simp [ndsE, intsE])) fun ⟨i, o⟩ ⟨hi, hol, ho⟩ => ?_
    dsimp only at hi hol ho
    simp [ndsE, intsE]
    refine Br.dec (fun h => ?_) (fun h => ?_)
    · have hx : t.nodes[i]? = some t.nodes[i] := List.getElem?_eq_getElem h
      generalize t.nodes[i] = x at hx
      have hw := w_inc h hf.1
      refine W_draw hZ hmo 0 8 [(2, []), (2, []), (2, []), (2, []), (2, []), (2, []), (2, []), (2, [])] (by kernel_rfl) ?_
      simp [hx, ndE, pcsE]
      refine CallA.snapE (l10Below_spec hZ t x.id id) (by simp [trA, ndsE]) (by simp) ?_
      simp
      refine Br.bool (fun h2 => ?_) (fun h2 => ?_) <;> simp [h2]
      · simp [hx, ndE, pcsE]
        refine Need.mk ⟨by omega, by omega⟩ ?_
        simp
        exact Again.mk (i + 1, o ++ [x.id]) ⟨by dsimp only; omega, by simp; omega, by dsimp only; rw [filter_take hx, ho]; simp [h2]⟩ (by dsimp only; omega) (Sub.by [0, 4] (by simp [hw, ndsE, intsE]))
      · exact Again.mk (i + 1, o) ⟨by dsimp only; omega, by dsimp only; omega, by dsimp only; rw [filter_take hx, ho]; simp [h2]⟩ (by dsimp only; omega) (Sub.by [0, 1] (by simp [hw, ndsE, intsE]))
    · rw [List.take_of_length_le (by omega)] at ho
      subst ho
      simp [belows]

theorem iBelowOf_spec (hZ : ZOk Tryz.prog Z) (t : Tree) (id : Int) : Does Z Tryz.prog G B0 52 [trA false t, iA id] [] [] (fun y _ => y = .c (intsE true (belowOf t id)) ∨ (y = .nils ∧ belowOf t id = [])) := by
  refine Does.bodyF hZ Tryz.func52 rfl rfl (Nat.le_of_ble_eq_true rfl) fun hf => ?_
  simp [trA, ndsE] at hf
  simp [Tryz.f52, trA, ndsE]
  refine CallA.snapE (iTreeOk_spec hZ t) (by simp [trA, ndsE]) (by simp) ?_
  simp
  refine Br.bool (fun h1 => ?_) (fun h1 => ?_) <;> simp [h1, belowOf, intsE]
  refine CallA.snapE (nodeAt_spec hZ t id) (by simp [trA, ndsE]) (by simp) ?_
  have H := okT_iff.1 h1
  have hlen := H.len2
  rcases atI_spec t.nodes id with ⟨g1, g2, _⟩ | ⟨k, q, gq, g1, gid, g2, _⟩
  · simp [g1, g2]
  · have hk0 : ¬ ((k : Int) < 0) := by omega
    have htop : id ≠ 0 := H.top_ne (by rw [g2]; rfl)
    simp [g1, g2, hk0]
    refine LoopA.run hZ (fun p : Nat × List Int => ⟨54, [(1, iA id), (2, .ptr [(0, 0)]), (5, .bor [(1, 0)] 0 p.2.length), (19, .c (ndsE false t.nodes)), (20, iA t.nodes.length), (21, iA p.1)], [[ndsE false t.nodes, iC t.next], [intsE true p.2]], [true, false]⟩) (fun p => p.1 ≤ t.nodes.length ∧ p.2.length ≤ p.1 ∧ p.2 = ((t.nodes.take p.1).filter fun x => below t.nodes x.id id).map (·.id)) (fun p => t.nodes.length - p.1) (0, []) (by simp) ((Sub.nil 5 3 rfl).trans (Sub.by [0, 3] (by simp [ndsE, intsE]))) fun ⟨i, o⟩ ⟨hi, hol, ho⟩ => ?_
    dsimp only at hi hol ho
    simp [ndsE, intsE]
    refine Br.dec (fun h => ?_) (fun h => ?_)
    · have hx : t.nodes[i]? = some t.nodes[i] := List.getElem?_eq_getElem h
      generalize t.nodes[i] = x at hx
      have hw := w_inc h hf.1
      simp [hx, ndE, pcsE]
      refine LoopA.run hZ (fun p : Nat × Nod => ⟨54, [(1, iA id), (2, .ptr [(0, 0)]), (5, .bor [(1, 0)] 0 o.length), (7, .ptr [(2, 0)]), (8, .ptr [(3, 0)]), (19, .c (ndsE false t.nodes)), (20, iA t.nodes.length), (21, iA i)], [[ndsE false t.nodes, iC t.next], [intsE true o], ndE false x, ndE false p.2], [true, false, true, true]⟩) (fun p => p.2 ∈ t.nodes ∧ Lead t.nodes p.1 p.2 ∧ ∃ n, p.1 + 2 ≤ n ∧ belowF t.nodes n p.2.id id = below t.nodes x.id id) (fun p => p.1) (4, x) ⟨List.mem_of_getElem? hx, H.lead (List.mem_of_getElem? hx), 15, by dsimp only; omega, rfl⟩ (Sub.by [0, 1, 2, 3] (by simp [ndsE, intsE, ndE, pcsE])) fun ⟨m, z⟩ ⟨hz, hL, n, hn, hb⟩ => ?_
      dsimp only at hz hL hn hb
      simp [ndsE, intsE, ndE, pcsE]
      refine Br.dec (fun h2 => ?_) (fun h2 => ?_) <;> simp [h2]
      · have h3 : below t.nodes x.id id = true := by
          obtain ⟨n, rfl⟩ : ∃ m, n = m + 1 := ⟨n - 1, by omega⟩
          rw [belowF, if_pos h2] at hb; exact hb.symm
        refine Need.mk ⟨by omega, by omega⟩ ?_
        simp
        exact Again.mk (i + 1, o ++ [x.id]) ⟨by dsimp only; omega, by simp; omega, by dsimp only; rw [filter_take hx, ho]; simp [h3]⟩ (by dsimp only; omega) (Sub.by [0, 5] (by simp [hw, ndsE, intsE]))
      · refine Br.dec (fun h3 => ?_) (fun h3 => ?_) <;> simp [h2, h3]
        · have h4 : below t.nodes x.id id = false := by
            obtain ⟨n, rfl⟩ : ∃ m, n = m + 2 := ⟨n - 2, by omega⟩
            rw [← hb]; exact Lead.root_below H hz h3 htop h2 n
          have h5 : ¬ (1 : Int) = id := by rw [← h3]; exact h2
          simp [h5]
          exact Again.mk (i + 1, o) ⟨by dsimp only; omega, by dsimp only; omega, by dsimp only; rw [filter_take hx, ho]; simp [h4]⟩ (by dsimp only; omega) (Sub.by [0, 1] (by simp [hw, ndsE, intsE]))
        · refine W_draw hZ hmo 1 6 [(4, []), (4, []), (4, []), (4, []), (4, []), (4, [])] (by kernel_rfl) ?_
          simp
          obtain ⟨m, y, rfl, hy, hL⟩ : ∃ m' y, m = m' + 1 ∧ nd t.nodes z.parent = some y ∧ Lead t.nodes m' y := by
            cases m with
            | zero => exact absurd hL h3
            | succ m =>
              rcases hL with hL | ⟨y, hy, hL⟩
              · exact absurd hL h3
              · exact ⟨m, y, rfl, hy, hL⟩
          refine CallD.snapE (nodeAt_spec hZ t z.parent) (by simp [trA, ndsE]) (by simp) ?_
          rcases atI_spec t.nodes z.parent with ⟨j1, j2, _⟩ | ⟨j, y', jy, j1, jid, j2, _⟩
          · rw [hy] at j2; cases j2
          · rw [hy] at j2; cases j2
            simp [j1, jy, ndE, pcsE]
            refine Again.mk (m, y) ⟨(nd_mem hy).1, hL, n - 1, by dsimp only; omega, ?_⟩ (by dsimp only; omega) (Sub.by [0, 1, 2, 3] (by simp [ndsE, intsE, ndE, pcsE]))
            obtain ⟨n, rfl⟩ : ∃ m, n = m + 1 := ⟨n - 1, by omega⟩
            rw [belowF, if_neg h2, H.nd_self hz] at hb
            dsimp only at hb ⊢
            rw [jid]; exact hb
    · rw [List.take_of_length_le (by omega)] at ho
      subst ho
      simp [belows]
end Go.Proofs.YtbhbkaonlillhaaGreatDoor
