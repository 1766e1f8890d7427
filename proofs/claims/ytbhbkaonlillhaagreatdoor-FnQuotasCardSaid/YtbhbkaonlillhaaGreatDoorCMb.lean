/- The law: quotas hold, records put one by one. -/
import Derived.Test.YtbhbkaonlillhaaGreatDoorCDd
import Derived.Test.YtbhbkaonlillhaaGreatDoorCSa
import Derived.Test.YtbhbkaonlillhaaGreatDoorCFk
import Derived.Test.YtbhbkaonlillhaaGreatDoorCLc
import Derived.Test.YtbhbkaonlillhaaGreatDoorCSh
import Derived.Test.YtbhbkaonlillhaaGreatDoorCEm
import Derived.Test.YtbhbkaonlillhaaGreatDoorTn
namespace Go.Proofs.YtbhbkaonlillhaaGreatDoor
open Go Go.Abs Go.Proofs Go.Tm
set_option linter.unusedSimpArgs false
set_option linter.unusedVariables false
set_option maxRecDepth 10000
variable {Z : TypeId → Nat} {G : World → Prop} {B0 : Nat}
theorem iApply_shr (hZ : ZOk Tryz.prog Z) (hG : ∀ w, G w → MG w) (t : Tree) (e : Edt) (g : Int) (hs : Sm t.nodes) (he : SmE e) : Does Z Tryz.prog G B0 33 [trA false t, edA e, iA g] [] [] (fun y _ => y = .tup [trA false (applyT t e g).1, iA (applyT t e g).2]) :=
  (iApply_spec hZ hG t e g hs he).shr fun y r h => by rw [h]; simp [shA, shAL, shA_tr, share]
theorem mem_below {t : Tree} {id k : Int} (h : k ∈ belowOf t id) : below t.nodes k id = true := by
  unfold belowOf at h
  split at h
  · unfold belows at h
    obtain ⟨x, hx, rfl⟩ := List.mem_map.1 h
    exact (List.mem_filter.1 hx).2
  · simp at h
theorem iTreeNew_shr (hZ : ZOk Tryz.prog Z) : Does Z Tryz.prog G B0 27 [] [] [] (fun y _ => y = trA false newT) := (iTreeNew_spec hZ).shr fun y r h => by rw [h, shA_tr]
set_option maxHeartbeats 2000000 in
theorem lawQuotas_spec (hZ : ZOk Tryz.prog Z) (hG : ∀ w, G w → MG w) (b : List Int) : Does Z Tryz.prog G B0 5 [.c (byE b)] [] [] (fun y _ => y = bA true) := by
  refine Does.bodyF hZ Tryz.func5 rfl rfl (Nat.le_of_ble_eq_true rfl) fun hf => ?_
  simp [Tryz.f5, byE]
  refine CallA.snap (args' := [.c (byE b)]) (by simp [byE]) (big_spec hZ b) ?_
  rintro y ⟨v, rfl⟩
  refine ⟨by simp, ?_⟩
  simp
  refine Br.bool (fun hb => ?_) (fun hb => ?_) <;> simp [hb]
  refine CallA.snap (args' := [.c (byE b)]) (by simp [byE]) (DrawEdits_spec hZ b) ?_
  rintro y ⟨l, rfl, hg, hl⟩
  refine ⟨by simp [noShr_eds], ?_⟩
  have hs : Sm newT.nodes := okT_sm good_new.ok
  have hE : ∀ e ∈ l, SmE e := fun e he => smE_good (hg e he)
  have hR := ApplyAll_spec (Z := Z) (G := G) (B0 := B0) hZ newT l 1 hs hE
  generalize hr : applyAll newT l 1 = r at hR
  unfold applyAll at hr
  simp [edsE]
  refine CallA.closE (iTreeNew_shr hZ) (by simp) ?_
  simp [trA, newT, ndsE, ndE, pcsE]
  refine LoopA.run hZ (fun p : Nat × Tree × Int => ⟨135, [(3, .bor [(0, 0)] 0 l.length), (4, .ptr [(1, 0)]), (5, iA p.2.2), (6, iA p.1)], [[edsE true l], [ndsE false p.2.1.nodes, iC p.2.1.next]], [false, true]⟩) (fun p => p.1 ≤ l.length ∧ Sm p.2.1.nodes ∧ (l.drop p.1).foldl Go.Tm.stepT p.2 = r) (fun p => l.length - p.1) (0, newT, 1) ⟨Nat.zero_le _, hs, by simpa using hr⟩ (by first | exact Sub.by [1, 2] (by first | (simp [ndsE, edsE, newT, ndE, pcsE]; done) | fail) | exact Sub.by [1, 3] (by first | (simp [ndsE, edsE, newT, ndE, pcsE]; done) | fail) | exact Sub.by [1, 4] (by first | (simp [ndsE, edsE, newT, ndE, pcsE]; done) | fail)) fun ⟨i, t, g⟩ ⟨hi, hst, hb2⟩ => ?_
  dsimp only at hi hst hb2
  simp [ndsE, edsE]
  refine Br.dec (fun h => ?_) (fun h => ?_) <;> simp [h]
  · have hx : l[i]? = some l[i] := List.getElem?_eq_getElem h
    have hex := hE _ (List.getElem_mem h)
    rw [List.drop_eq_getElem_cons h, List.foldl_cons, Go.Tm.stepT] at hb2
    generalize l[i] = e at hx hex hb2
    refine W_drawMB hZ hmo 2 rfl 2 11 [(2, []), (2, []), (2, []), (2, []), (2, []), (2, []), (2, []), (3, [2]), (3, [2]), (3, [2]), (3, [])] [9] 4 (by kernel_rfl) rfl ?_
    simp
    refine Need.mk h ?_
    simp [hx, edE]
    refine CallD.closE (iApply_shr hZ hG t e g hst hex) (by simp [trA, ndsE, edA, edE]) ?_
    have hsn : Sm (applyT t e g).1.nodes := sm_apply hst
    simp [trA, ndsE]
    refine W_drawB hZ hmo 4 rfl 0 6 [(4, []), (4, []), (4, []), (4, []), (4, []), (4, [])] (by kernel_rfl) ?_
    simp
    refine Need.mk h ?_
    simp [hx, edE]
    refine CallA.snapE (iGroupsAfter_spec hZ hG t e g hex) (by simp [trA, ndsE, edA, edE]) (by simp) ?_
    simp
    refine Need.mk h ?_
    have hq := fun (h : (applyT t e g).2 = 0) (h7 : e.kind = 7) (x : Nod) => quota_put (x := x) h h7
    have hsame := fun h => apply_same (t := t) (e := e) (g := g) h
    have hga : (applyT t e g).2 ≠ 0 → groupsAfter t e g = g := fun h => by unfold groupsAfter; rw [if_pos h]
    generalize groupsAfter t e g = h' at hb2 hga
    generalize (applyT t e g).2 = no at hb2 hq hga hsame
    generalize (applyT t e g).1 = n at hb2 hq hsame hsn
    simp [hx, edE]
    have hw : IntKind.i64.wrap ((i : Int) + 1) = ((i + 1 : Nat) : Int) := by have := hl; exact wrap_i64 (by omega)
    have hmem : ∀ x ∈ n.nodes, True := fun _ _ => trivial
    by_cases h7 : e.kind = 7 <;> by_cases hno : no = 0 <;> simp [h7, hno]
    · rw [if_pos hno] at hb2
      have hq := hq hno h7
      refine LoopA.run hZ (fun k : Nat => ⟨135, [(3, .bor [(0, 0)] 0 l.length), (4, .ptr [(1, 0)]), (5, iA g), (6, iA i), (7, .ptr [(2, 0)]), (8, iA 0), (9, iA h'), (10, iA k)], [[edsE true l], [ndsE false t.nodes, iC t.next], [ndsE false n.nodes, iC n.next]], [false, true, true]⟩) (fun k => k ≤ n.nodes.length) (fun k => n.nodes.length - k) 0 (by simp) (by first | exact Sub.by [0, 1, 2] (by first | (simp [ndsE, edsE]; done) | fail) | exact Sub.by [0, 1, 3] (by first | (simp [ndsE, edsE]; done) | fail) | exact Sub.by [0, 1, 4] (by first | (simp [ndsE, edsE]; done) | fail) | exact Sub.by [0, 1, 5] (by first | (simp [ndsE, edsE]; done) | fail)) fun k hk => ?_
      simp [ndsE, edsE]
      have hwk : k < n.nodes.length → IntKind.i64.wrap ((k : Int) + 1) = ((k + 1 : Nat) : Int) := fun h => wrap_i64 (by have := hsn.1; omega)
      refine Br.dec (fun h3 => ?_) (fun h3 => ?_) <;> simp [h3]
      · refine Need.mk h ?_
        have hy : n.nodes[k]? = some n.nodes[k] := List.getElem?_eq_getElem h3
        have hym := List.getElem_mem h3
        generalize n.nodes[k] = y at hy hym
        simp [hx, edE, h7, hno, hy, ndE, pcsE]
        refine W_drawB hZ hmo 4 rfl 1 10 [(4, []), (4, []), (4, []), (4, []), (5, []), (5, []), (5, []), (5, []), (5, []), (5, [])] (by kernel_rfl) ?_
        simp
        refine CallD.snapE (BelowOf_spec hZ n y.id) (by simp [trA, ndsE]) (by simp [noShr_ints]) ?_
        simp [intsE]
        refine Need.mk h ?_
        simp [hx, edE]
        first | refine CallA.snapE (FindPath_spec hZ n e.path hex.1) (by first | (simp [trA, ndsE]; done) | fail) (by first | (simp []; done) | fail) ?_ | refine CallD.snapE (FindPath_spec hZ n e.path hex.1) (by first | (simp [trA, ndsE]; done) | fail) (by first | (simp []; done) | fail) ?_
        simp
        first | refine CallA.snapE (in_spec hZ (belowOf n y.id) (findP n e.path)) (by first | (simp [intsE]; done) | fail) (by first | (simp []; done) | fail) ?_ | refine CallD.snapE (in_spec hZ (belowOf n y.id) (findP n e.path)) (by first | (simp [intsE]; done) | fail) (by first | (simp []; done) | fail) ?_
        simp
        refine W_drawB hZ hmo 7 rfl 1 13 [(7, []), (7, []), (7, []), (7, []), (7, []), (7, []), (7, []), (7, []), (7, []), (7, []), (7, []), (8, []), (8, [])] (by kernel_rfl) ?_
        simp
        refine Br.dec (fun h8 => ?_) (fun h8 => ?_) <;> simp [h8]
        · refine Br.dec (fun h9 => ?_) (fun h9 => ?_) <;> simp [h9]
          · have hle := hq y hym h8 (mem_below h9)
            have hn5 : ¬ y.quota < usedBelow n y.id := by omega
            first | refine CallA.snapE (iUsedBelow_spec hZ n y.id) (by first | (simp [trA, ndsE]; done) | fail) (by first | (simp []; done) | fail) ?_ | refine CallD.snapE (iUsedBelow_spec hZ n y.id) (by first | (simp [trA, ndsE]; done) | fail) (by first | (simp []; done) | fail) ?_
            simp [hn5]
            exact Again.mk (k + 1) (by omega) (by omega) (by first | exact Sub.by [0, 1, 2] (by first | (simp [hwk h3, ndsE, edsE]; done) | fail))
          · exact Again.mk (k + 1) (by omega) (by omega) (by first | exact Sub.by [0, 1, 2] (by first | (simp [hwk h3, ndsE, edsE]; done) | fail))
        · exact Again.mk (k + 1) (by omega) (by omega) (by first | exact Sub.by [0, 1, 2] (by first | (simp [hwk h3, ndsE, edsE]; done) | fail))
      · exact Again.mk (i + 1, n, h') ⟨by dsimp only; omega, hsn, hb2⟩ (by dsimp only; omega) (by first | exact Sub.by [0, 1] (by first | (simp [hw, ndsE, edsE]; done) | fail))
    · rw [if_neg hno] at hb2
      have e1 := hga hno
      have e2 := hsame hno
      subst e1 e2
      refine Need.mk h ?_
      simp [hx, edE, h7, hno]
      exact Again.mk (i + 1, n, h') ⟨by dsimp only; omega, hsn, hb2⟩ (by dsimp only; omega) (by first | exact Sub.by [0, 1] (by first | (simp [hw, ndsE, edsE]; done) | fail))
    · rw [if_pos hno] at hb2
      refine Need.mk h ?_
      simp [hx, edE, h7, hno]
      refine Br.dec (fun h6 => ?_) (fun h6 => ?_) <;> simp [h6]
      · refine LoopA.run hZ (fun k : Nat => ⟨135, [(3, .bor [(0, 0)] 0 l.length), (4, .ptr [(1, 0)]), (5, iA g), (6, iA i), (7, .ptr [(2, 0)]), (8, iA 0), (9, iA h'), (10, iA k)], [[edsE true l], [ndsE false t.nodes, iC t.next], [ndsE false n.nodes, iC n.next]], [false, true, true]⟩) (fun k => k ≤ n.nodes.length) (fun k => n.nodes.length - k) 0 (by simp) (by first | exact Sub.by [0, 1, 2] (by first | (simp [ndsE, edsE]; done) | fail) | exact Sub.by [0, 1, 3] (by first | (simp [ndsE, edsE]; done) | fail) | exact Sub.by [0, 1, 4] (by first | (simp [ndsE, edsE]; done) | fail) | exact Sub.by [0, 1, 5] (by first | (simp [ndsE, edsE]; done) | fail)) fun k hk => ?_
        simp [ndsE, edsE]
        refine Br.dec (fun h3 => ?_) (fun h3 => ?_) <;> simp [h3]
        · refine Need.mk h ?_
          simp [hx, edE, h7, h6]
          exact Again.mk (i + 1, n, h') ⟨by dsimp only; omega, hsn, hb2⟩ (by dsimp only; omega) (by first | exact Sub.by [0, 1] (by first | (simp [hw, ndsE, edsE]; done) | fail))
        · exact Again.mk (i + 1, n, h') ⟨by dsimp only; omega, hsn, hb2⟩ (by dsimp only; omega) (by first | exact Sub.by [0, 1] (by first | (simp [hw, ndsE, edsE]; done) | fail))
      · exact Again.mk (i + 1, n, h') ⟨by dsimp only; omega, hsn, hb2⟩ (by dsimp only; omega) (by first | exact Sub.by [0, 1] (by first | (simp [hw, ndsE, edsE]; done) | fail))
    · rw [if_neg hno] at hb2
      have e1 := hga hno
      have e2 := hsame hno
      subst e1 e2
      refine Need.mk h ?_
      simp [hx, edE, h7, hno]
      refine Br.dec (fun h6 => ?_) (fun h6 => ?_) <;> simp [h6, hno]
      · exact Again.mk (i + 1, n, h') ⟨by dsimp only; omega, hsn, hb2⟩ (by dsimp only; omega) (by first | exact Sub.by [0, 1] (by first | (simp [hw, ndsE, edsE]; done) | fail))
      · exact Again.mk (i + 1, n, h') ⟨by dsimp only; omega, hsn, hb2⟩ (by dsimp only; omega) (by first | exact Sub.by [0, 1] (by first | (simp [hw, ndsE, edsE]; done) | fail))
  · rw [List.drop_of_length_le (by omega)] at hb2
    simp at hb2
    refine CallA.snapE (TreeNew_spec hZ) (by simp) (by simp [trA, noShr_nds]) ?_
    simp [trA, newT, ndsE, ndE, pcsE]
    refine CallA.snapE hR (by simp [trA, newT, ndsE, ndE, pcsE, edsE]; rfl) (by simp [trA, noShr_nds]) ?_
    rw [← hb2]
    simp [trA, ndsE]
    refine CallA.snapE (sameTree_spec hZ t t) (by simp [trA, ndsE]) (by simp) ?_
    simp
end Go.Proofs.YtbhbkaonlillhaaGreatDoor
