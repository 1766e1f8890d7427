/- Contracts: records applied one by one, by the program. -/
import Derived.Test.YtbhbkaonlillhaaGreatDoorCFj
namespace Go.Proofs.YtbhbkaonlillhaaGreatDoor
open Go Go.Abs Go.Proofs Go.Tm
set_option linter.unusedSimpArgs false
set_option linter.unusedVariables false
set_option maxRecDepth 10000
variable {Z : TypeId → Nat} {G : World → Prop} {B0 : Nat}
theorem iApply_spec (hZ : ZOk Tryz.prog Z) (hG : ∀ w, G w → MG w) (t : Tree) (e : Edt) (g : Int) (hs : Sm t.nodes) (he : SmE e) : Does Z Tryz.prog G B0 33 [trA false t, edA e, iA g] [] [] (fun y _ => y = .tup [trA true (applyT t e g).1, iA (applyT t e g).2]) := by
  have hsm := sm_apply (e := e) (g := g) hs
  have hsp := iapply_spec (Z := Z) (G := G) (B0 := B0) hZ hG t e g he
  generalize applyT t e g = r at hsm hsp
  generalize ownI t e g = o at hsp
  refine Does.bodyF hZ Tryz.func33 rfl rfl (Nat.le_of_ble_eq_true rfl) fun hf => ?_
  simp [Tryz.f33, trA, ndsE, edA, edE]
  refine CallA.closX hsp (by simp [trA, ndsE, edA, edE]) (by simp [trA, ndsE, edA, edE]) ?_
  cases o
  · simp [trA, ndsE]
    refine CallA.snapE (copyTree_spec hZ r.1 hsm) (by simp [trA, ndsE]) (by simp [trA, noShr_nds]) ?_
    simp [trA, ndsE]
  · simp [trA, ndsE]
    refine CallA.snapE (copyTree_spec hZ r.1 hsm) (by simp [trA, ndsE]) (by simp [trA, noShr_nds]) ?_
    simp [trA, ndsE]
theorem iGroupsAfter_spec (hZ : ZOk Tryz.prog Z) (hG : ∀ w, G w → MG w) (t : Tree) (e : Edt) (g : Int) (he : SmE e) : Does Z Tryz.prog G B0 34 [trA false t, edA e, iA g] [] [] (fun y _ => y = iA (groupsAfter t e g)) := by
  have hsp := iapply_spec (Z := Z) (G := G) (B0 := B0) hZ hG t e g he
  have hz : (applyT t e g).2 = 0 → _ := fun h => apply_zero h
  have hadd : (applyT t e g).2 = 0 → e.kind = 7 → _ := fun h h7 => apply_add h h7
  unfold groupsAfter
  generalize applyT t e g = r at hsp hz hadd
  generalize ownI t e g = o at hsp
  refine Does.bodyF hZ Tryz.func34 rfl rfl (Nat.le_of_ble_eq_true rfl) fun hf => ?_
  simp [Tryz.f34, trA, ndsE, edA, edE]
  refine CallA.closX hsp (by simp [trA, ndsE, edA, edE]) (by simp [trA, ndsE, edA, edE]) ?_
  cases o <;> simp [trA, ndsE] <;> refine Br.dec (fun h1 => ?_) (fun h1 => ?_) <;> simp [h1]
  all_goals
    have hz := hz h1
    refine Br.dec (fun h2 => ?_) (fun h2 => ?_) <;> simp [h2]
    · rw [wrap_i64 (by omega)]
    refine Br.dec (fun h3 => ?_) (fun h3 => ?_) <;> simp [h3]
    obtain ⟨j, q, gq, ga, gn, hne, w, hw, hwp, hle⟩ := hadd h1 h3
    refine W_drawB hZ hmo 4 rfl 2 14 [(4, []), (4, []), (4, []), (4, []), (4, []), (4, []), (4, []), (5, [4]), (5, [4]), (5, [4]), (5, []), (5, []), (5, [4]), (6, [4, 5])] (by kernel_rfl) ?_
    simp
    refine CallD.snapE (found_spec hZ hG t e.path he.1 hz.1) (by simp [trA, ndsE]) (by simp) ?_
    simp [ga, gq, ndE, pcsE]
    refine CallD.snapE (iSpans_spec2 hZ q.schema e.num) (by simp) (by simp [noShr_ints]) ?_
    have hsl := spans_len q.schema e.num
    simp [intsE, gn]
    rw [wrap_i64 (by omega)]
set_option maxHeartbeats 1000000 in
theorem iApplyAll_spec (hZ : ZOk Tryz.prog Z) (hG : ∀ w, G w → MG w) (t : Tree) (l : List Edt) (g : Int) (hs : Sm t.nodes) (he : ∀ e ∈ l, SmE e) : Does Z Tryz.prog G B0 26 [trA false t, .c (edsE false l), iA g] [] [] (fun y _ => y = .tup [trA true (applyAll t l g).1, iA (applyAll t l g).2]) := by
  generalize hr : applyAll t l g = r
  refine Does.bodyF hZ Tryz.func26 rfl rfl (Nat.le_of_ble_eq_true rfl) fun hf => ?_
  simp [trA, ndsE, edsE] at hf
  simp [Tryz.f26, trA, ndsE, edsE]
  refine CallA.snapE (copyTree_spec hZ t hs) (by simp [trA, ndsE]) (by simp [trA, noShr_nds]) ?_
  simp [trA, ndsE]
  unfold applyAll at hr
  refine LoopA.run hZ (fun p : Nat × Tree × Int => ⟨36, [(2, iA p.2.2), (6, .ptr [(0, 0)]), (8, .ptr [(1, 0)]), (15, .c (edsE false l)), (16, iA l.length), (17, iA p.1)], [[ndsE true [], iC 0], [ndsE true p.2.1.nodes, iC p.2.1.next]], [true, true]⟩) (fun p => p.1 ≤ l.length ∧ Sm p.2.1.nodes ∧ (l.drop p.1).foldl Go.Tm.stepT p.2 = r) (fun p => l.length - p.1) (0, t, g) ⟨Nat.zero_le _, hs, by simpa using hr⟩ (Sub.by [1, 3] (by simp [ndsE, edsE])) fun ⟨i, o, g⟩ ⟨hi, hso, hb⟩ => ?_
  dsimp only at hi hso hb
  simp [ndsE, edsE]
  refine Br.dec (fun h => ?_) (fun h => ?_)
  · have hx : l[i]? = some l[i] := List.getElem?_eq_getElem h
    have hw := w_inc h hf.2.1
    have hex := he _ (List.getElem_mem h)
    rw [List.drop_eq_getElem_cons h, List.foldl_cons, step_eq] at hb
    generalize l[i] = e at hx hex hb
    simp [hx, edE]
    refine CallA.snapE (iApply_spec hZ hG o e g hso hex) (by simp [trA, ndsE, edA, edE]) (by simp [trA, noShr_nds]) ?_
    simp [trA, ndsE]
    refine CallA.snapE (iGroupsAfter_spec hZ hG o e g hex) (by simp [trA, ndsE, edA, edE]) (by simp) ?_
    simp
    exact Again.mk (i + 1, (applyT o e g).1, groupsAfter o e g) ⟨by dsimp only; omega, sm_apply hso, hb⟩ (by dsimp only; omega) (Sub.by [0, 1] (by simp [hw, ndsE, edsE]))
  · rw [List.drop_eq_nil_of_le (show l.length ≤ i by omega), List.foldl_nil] at hb
    subst hb
    simp
end Go.Proofs.YtbhbkaonlillhaaGreatDoor
