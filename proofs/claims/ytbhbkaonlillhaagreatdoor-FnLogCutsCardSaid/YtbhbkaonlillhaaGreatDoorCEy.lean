/- Contracts: groups after a record; all records applied. -/
import Derived.Test.YtbhbkaonlillhaaGreatDoorCEx
namespace Go.Proofs.YtbhbkaonlillhaaGreatDoor
open Go Go.Abs Go.Proofs Go.Tm
set_option linter.unusedSimpArgs false
set_option linter.unusedVariables false
set_option maxRecDepth 10000
variable {Z : TypeId → Nat} {G : World → Prop} {B0 : Nat}
theorem apply_zero {t : Tree} {e : Edt} {g : Int} (h : (applyT t e g).2 = 0) : okT t.nodes t.next = true ∧ editB e = true ∧ 1 ≤ g ∧ g ≤ 99000 := by
  unfold applyT at h
  split at h
  · cases h
  · rename_i h1
    simp only [not_or, Bool.not_eq_false] at h1
    refine ⟨h1.1, h1.2.1, ?_⟩
    simpa [inB] using h1.2.2
theorem mem_mod {α : Type} {l : List α} {k : Nat} {f : α → α} {x : α} (h : x ∈ l.modify k f) : x ∈ l ∨ ∃ y ∈ l, x = f y ∧ l[k]? = some y := by
  obtain ⟨i, hi⟩ := List.getElem?_of_mem h
  rw [List.getElem?_modify] at hi
  cases hy : l[i]? with
  | none => rw [hy] at hi; simp at hi
  | some y =>
    rw [hy] at hi
    by_cases c : k = i
    · subst c
      simp at hi
      exact .inr ⟨y, List.mem_of_getElem? hy, hi.symm, hy⟩
    · simp [c] at hi
      exact .inl (hi ▸ List.mem_of_getElem? hy)
theorem sm_mod {t : Tree} {k : Nat} {f : Nod → Nod} (hs : Sm t.nodes) (hf : ∀ y, t.nodes[k]? = some y → (f y).pieces.length ≤ 1048576) : Sm (modN t k f).nodes := by
  refine ⟨by have := hs.1; simpa [modN] using this, fun x hx => ?_⟩
  rcases mem_mod hx with h | ⟨y, hy, rfl, hk⟩
  · exact hs.2 x h
  · exact hf y hk
theorem sm_apply {t : Tree} {e : Edt} {g : Int} (hs : Sm t.nodes) : Sm (applyT t e g).1.nodes := by
  unfold applyT
  split
  · exact hs
  rename_i h0
  split
  · exact hs
  split
  · unfold addT
    repeat' split
    all_goals first | exact hs | skip
    rename_i h
    simp only [not_or, Bool.not_eq_false] at h
    exact okT_sm (t := ⟨_, _⟩) h.2.2
  split
  · unfold addT
    repeat' split
    all_goals first | exact hs | skip
    rename_i h
    simp only [not_or, Bool.not_eq_false] at h
    exact okT_sm (t := ⟨_, _⟩) h.2.2
  split
  · exact hs
  split
  · exact hs
  rename_i q hq
  split
  · unfold moveT
    dsimp only
    repeat' split
    all_goals first | exact hs | skip
    exact sm_mod hs fun y hy => hs.2 y (List.mem_of_getElem? hy)
  split
  · exact ⟨Nat.le_trans (List.length_filter_le _ _) hs.1, fun x hx => hs.2 x (List.mem_filter.1 hx).1⟩
  split
  · unfold setT
    repeat' split
    all_goals first | exact hs | exact sm_mod hs fun y hy => hs.2 y (List.mem_of_getElem? hy)
  · unfold writeT
    repeat' split
    all_goals first | exact hs | exact sm_mod hs fun y hy => hs.2 y (List.mem_of_getElem? hy) | skip
    rename_i h
    exact sm_mod hs fun y hy => by simp; omega
theorem apply_add {t : Tree} {e : Edt} {g : Int} (h : (applyT t e g).2 = 0) (h7 : e.kind = 7) :
    ∃ (j : Nat) (q : Nod), t.nodes[j]? = some q ∧ atI t.nodes (findP t e.path) = (j : Int) ∧ nd t.nodes (findP t e.path) = some q ∧ findP t e.path ≠ 0 ∧ ∃ w, (applyT t e g).1.nodes[j]? = some w ∧ w.pieces = q.pieces ++ newPcs g (spans q.schema e.num) ∧ q.pieces.length + (spans q.schema e.num).length ≤ 40 := by
  have h0 := apply_zero h
  have hg : inB g 1 99000 = true := by simp [inB]; exact h0.2.2
  unfold applyT at h ⊢
  simp [h0.1, h0.2.1, hg, h7] at h ⊢
  split at h
  · cases h
  · rename_i h4
    obtain ⟨j, q, gq, ga, gn⟩ := findP_nd h4
    have hat : atN t.nodes (findP t e.path) = j := by simp [atN, ga]
    simp only [gn, hat, if_neg h4] at h ⊢
    refine ⟨j, q, gq, ga, by simp [gn], h4, ?_⟩
    unfold writeT at h ⊢
    simp only [h7] at h ⊢
    repeat' split at h
    all_goals first | (exfalso; revert h; simp; done) | (exfalso; omega) | skip
    rename_i h1 h2 h3 h4 h5 h6
    simp only [if_neg h1, if_neg h2, if_neg h3, if_neg h4, if_neg h5, if_neg h6]
    exact ⟨_, by simp [modN, List.getElem?_modify, gq]; rfl, rfl, by omega⟩
theorem GroupsAfter_spec (hZ : ZOk Tryz.prog Z) (t : Tree) (e : Edt) (g : Int) (hs : Sm t.nodes) (he : SmE e) : Does Z Tryz.prog G B0 40 [trA false t, edA e, iA g] [] [] (fun y _ => y = iA (groupsAfter t e g)) := by
  generalize hr : groupsAfter t e g = r
  refine Does.bodyF hZ Tryz.func40 rfl rfl (Nat.le_of_ble_eq_true rfl) fun hf => ?_
  simp [trA, ndsE] at hf
  simp [Tryz.f40, trA, ndsE, edA, edE]
  refine CallA.snapE (Apply_spec hZ t e g hs he) (by simp [trA, ndsE, edA, edE]) (by simp [trA, noShr_nds]) ?_
  unfold groupsAfter at hr
  simp [trA, ndsE]
  refine Br.dec (fun h1 => ?_) (fun h1 => ?_) <;> simp [h1] at hr ⊢
  rotate_left
  · exact hr
  have hz := apply_zero h1
  refine Br.dec (fun h2 => ?_) (fun h2 => ?_) <;> simp [h2] at hr ⊢
  · rw [wrap_i64 (by omega)]; exact hr
  refine Br.dec (fun h3 => ?_) (fun h3 => ?_) <;> simp [h3] at hr ⊢
  rotate_left
  · exact hr
  obtain ⟨j, q, gq, ga, gn, hne, w, hw, hwp, hle⟩ := apply_add h1 h3
  rw [gn] at hr
  dsimp only at hr
  refine W_drawB hZ hmo 4 rfl 1 5 [(4, []), (4, []), (4, []), (4, []), (4, [])] (by kernel_rfl) ?_
  simp
  refine CallD.snapE (FindPath_spec hZ t e.path he.1) (by simp [trA, ndsE]) (by simp) ?_
  simp
  refine CallA.snapE (l10At_spec hZ t (findP t e.path)) (by simp [trA, ndsE]) (by simp) ?_
  simp [ga]
  refine W_drawB hZ hmo 6 rfl 0 16 [(6, []), (6, []), (6, []), (6, []), (6, []), (6, []), (6, []), (6, []), (6, []), (6, []), (6, []), (6, []), (6, []), (6, []), (6, []), (6, [])] (by kernel_rfl) ?_
  have e1 : IntKind.i64.wrap (g + ((q.pieces.length : Int) + ((spans q.schema e.num).length : Int))) = g + (q.pieces.length + (spans q.schema e.num).length) := wrap_i64 (by omega)
  have e2 : IntKind.i64.wrap (g + ((q.pieces.length : Int) + ((spans q.schema e.num).length : Int)) - q.pieces.length) = g + (spans q.schema e.num).length := by rw [wrap_i64 (by omega)]; omega
  simp [gq, hw, hwp, ndE, pcsE]
  refine Need.mk (List.getElem?_eq_some_iff.1 hw).1 ?_
  simp [gq, hw, hwp, ndE, pcsE]
  rw [e1]
  rw [← hr]
  exact (wrap_i64 (by omega)).trans (by omega)
set_option maxHeartbeats 1000000 in
theorem ApplyAll_spec (hZ : ZOk Tryz.prog Z) (t : Tree) (l : List Edt) (g : Int) (hs : Sm t.nodes) (he : ∀ e ∈ l, SmE e) : Does Z Tryz.prog G B0 23 [trA false t, .c (edsE false l), iA g] [] [] (fun y _ => y = .tup [trA true (applyAll t l g).1, iA (applyAll t l g).2]) := by
  generalize hr : applyAll t l g = r
  refine Does.bodyF hZ Tryz.func23 rfl rfl (Nat.le_of_ble_eq_true rfl) fun hf => ?_
  simp [trA, ndsE, edsE] at hf
  simp [Tryz.f23, trA, ndsE, edsE]
  refine CallA.snapE (l10Copy_spec hZ t hs) (by simp [trA, ndsE]) (by simp [trA, noShr_nds]) ?_
  simp [trA, ndsE]
  unfold applyAll at hr
  refine LoopA.run hZ (fun p : Nat × Tree × Int => ⟨42, [(1, .c (edsE false l)), (2, iA p.2.2), (6, .ptr [(0, 0)]), (8, .ptr [(1, 0)]), (9, iA p.1)], [[ndsE true [], iC 0], [ndsE true p.2.1.nodes, iC p.2.1.next]], [true, true]⟩) (fun p => p.1 ≤ l.length ∧ Sm p.2.1.nodes ∧ (l.drop p.1).foldl Go.Tm.stepT p.2 = r) (fun p => l.length - p.1) (0, t, g) ⟨Nat.zero_le _, hs, by simpa using hr⟩ (Sub.by [1, 3] (by simp [ndsE, edsE])) fun ⟨i, o, g⟩ ⟨hi, hso, hb⟩ => ?_
  dsimp only at hi hso hb
  simp [ndsE, edsE]
  refine Br.dec (fun h => ?_) (fun h => ?_)
  · have hx : l[i]? = some l[i] := List.getElem?_eq_getElem h
    have hw := w_inc h hf.2.1
    have hex := he _ (List.getElem_mem h)
    rw [List.drop_eq_getElem_cons h, List.foldl_cons, Go.Tm.stepT] at hb
    generalize l[i] = e at hx hex hb
    refine W_drawMB hZ hmo 2 rfl 2 11 [(2, []), (2, []), (2, []), (2, []), (2, []), (2, []), (2, []), (3, [2]), (3, [2]), (3, [2]), (3, [])] [9] 4 (by kernel_rfl) rfl ?_
    simp [hx, edE]
    refine CallD.snapE (Apply_spec hZ o e g hso hex) (by simp [trA, ndsE, edA, edE]) (by simp [trA, noShr_nds]) ?_
    simp [trA, ndsE]
    dsimp only at hb
    refine Br.dec (fun h2 => ?_) (fun h2 => ?_) <;> simp [h2] at hb ⊢
    · refine W_drawB hZ hmo 4 rfl 0 6 [(4, []), (4, []), (4, []), (4, []), (4, []), (4, [])] (by kernel_rfl) ?_
      simp [hx, edE]
      refine CallA.snapE (GroupsAfter_spec hZ o e g hso hex) (by simp [trA, ndsE, edA, edE]) (by simp) ?_
      simp
      exact Again.mk (i + 1, (applyT o e g).1, groupsAfter o e g) ⟨by dsimp only; omega, sm_apply hso, hb⟩ (by dsimp only; omega) (Sub.by [0, 1] (by simp [hw, ndsE, edsE]))
    · exact Again.mk (i + 1, o, g) ⟨by dsimp only; omega, hso, hb⟩ (by dsimp only; omega) (Sub.by [0, 1] (by simp [hw, ndsE, edsE]))
  · rw [List.drop_eq_nil_of_le (show l.length ≤ i by omega), List.foldl_nil] at hb
    subst hb
    simp
end Go.Proofs.YtbhbkaonlillhaaGreatDoor
