/- The law: drawn records in two parts are as all at once. -/
import Derived.Test.YtbhbkaonlillhaaGreatDoorCDd
import Derived.Test.YtbhbkaonlillhaaGreatDoorCSa
import Derived.Test.YtbhbkaonlillhaaGreatDoorCFk
import Derived.Test.YtbhbkaonlillhaaGreatDoorCEm
import Derived.Test.YtbhbkaonlillhaaGreatDoorCLc
import Derived.Test.YtbhbkaonlillhaaGreatDoorTm
namespace Go.Proofs.YtbhbkaonlillhaaGreatDoor
open Go Go.Abs Go.Proofs Go.Tm
set_option linter.unusedSimpArgs false
set_option linter.unusedVariables false
set_option maxRecDepth 10000
variable {Z : TypeId → Nat} {G : World → Prop} {B0 : Nat}
set_option maxHeartbeats 2000000 in
theorem lawAppliedAll_spec (hZ : ZOk Tryz.prog Z) (hG : ∀ w, G w → MG w) (b : List Int) : Does Z Tryz.prog G B0 11 [.c (byE b)] [] [] (fun y _ => y = bA true) := by
  refine Does.bodyF hZ Tryz.func11 rfl rfl (Nat.le_of_ble_eq_true rfl) fun hf => ?_
  simp [Tryz.f11, byE]
  refine CallA.snap (args' := [.c (byE b)]) (by simp [byE]) (big_spec hZ b) ?_
  rintro y ⟨v, rfl⟩
  refine ⟨by simp, ?_⟩
  simp
  refine Br.bool (fun hb => ?_) (fun hb => ?_) <;> simp [hb]
  refine CallA.snap (args' := [.c (byE b)]) (by simp [byE]) (DrawEdits_spec hZ b) ?_
  rintro y ⟨l, rfl, hg, hl⟩
  refine ⟨by simp [noShr_eds], ?_⟩
  have hs : Sm newT.nodes := okT_sm good_new.ok
  have hE : ∀ e ∈ l, SmE e := fun e he => smE_good (hg e he)
  have H := good_all l (newT, 1) 0 good_new hg
  have hA := iApplyAll_spec (Z := Z) (G := G) (B0 := B0) hZ hG newT l 1 hs hE
  have hR := ApplyAll_spec (Z := Z) (G := G) (B0 := B0) hZ newT l 1 hs hE
  change Go.Tm.Good (applyAll newT l 1).1 (applyAll newT l 1).2 _ at H
  have hcut := applyAll_cut newT l 1
  have hB := fun k => iApplyAll_spec (Z := Z) (G := G) (B0 := B0) hZ hG newT (l.take k) 1 hs fun e he => hE e (List.mem_of_mem_take he)
  generalize applyAll newT l 1 = r at hA hR H hcut
  simp [edsE]
  refine CallA.snapE (iTreeNew_spec hZ) (by simp) (by simp [trA, noShr_nds]) ?_
  simp [trA, newT, ndsE, ndE, pcsE]
  refine CallA.snapE hA (by simp [trA, newT, ndsE, ndE, pcsE, edsE]; rfl) (by simp [trA, noShr_nds]) ?_
  simp [trA, ndsE]
  refine CallA.snapE (TreeNew_spec hZ) (by simp) (by simp [trA, noShr_nds]) ?_
  simp [trA, newT, ndsE, ndE, pcsE]
  refine CallA.snapE hR (by simp [trA, newT, ndsE, ndE, pcsE, edsE]; rfl) (by simp [trA, noShr_nds]) ?_
  simp [trA, ndsE]
  refine CallA.snap (args' := [.c (byE b)]) (by simp [byE]) (DrawPlaces_spec hZ b) ?_
  rintro y ⟨p, rfl, hp12, hp⟩
  obtain ⟨v0, hv0⟩ : ∃ v, p[0]? = some v := ⟨_, List.getElem?_eq_getElem (by omega)⟩
  have hv := hp v0 (List.mem_of_getElem? hv0)
  have hw1 : IntKind.i64.wrap ((l.length : Int) + 1) = (l.length : Int) + 1 := wrap_i64 (by omega)
  have hn0 : ¬ (l.length : Int) + 1 = 0 := by omega
  obtain ⟨k, hk, hkl⟩ : ∃ k : Nat, v0.tmod ((l.length : Int) + 1) = (k : Int) ∧ k ≤ l.length := by
    have h1 := Int.tmod_nonneg ((l.length : Int) + 1) hv.1
    have h2 := Int.tmod_lt_of_pos v0 (show (0 : Int) < (l.length : Int) + 1 by omega)
    exact ⟨(v0.tmod ((l.length : Int) + 1)).toNat, by omega, by omega⟩
  refine ⟨by simp [intsE, noShrLL_mem], ?_⟩
  simp [intsE]
  refine Need.mk (by omega) ?_
  simp [hv0, hw1, hn0, hk]
  refine W_drawMB hZ hmo 9 rfl 3 9 [(9, []), (10, []), (10, []), (10, []), (10, [9]), (11, [9, 10]), (11, [9, 10]), (11, [9, 10]), (11, [])] [7] 12 (by kernel_rfl) rfl ?_
  simp
  refine CallD.snapE (iTreeNew_spec hZ) (by simp) (by simp [trA, noShr_nds]) ?_
  simp [trA, newT, ndsE, ndE, pcsE]
  simp [hkl]
  refine CallD.snapE (hB k) (by simp [trA, newT, ndsE, ndE, pcsE, edsE, -List.map_take, ← List.map_take]; rfl) (by simp [trA, noShr_nds]) ?_
  have hc := hcut k
  have hSm : Sm (applyAll newT (l.take k) 1).1.nodes := sm_applyAll (l.take k) (newT, 1) hs
  have hC := iApplyAll_spec (Z := Z) (G := G) (B0 := B0) hZ hG (applyAll newT (l.take k) 1).1 (l.drop k) (applyAll newT (l.take k) 1).2 hSm fun e he => hE e (List.mem_of_mem_drop he)
  rw [hc] at hC
  generalize applyAll newT (l.take k) 1 = m at hC hSm
  simp [trA, ndsE]
  refine W_drawMB hZ hmo 12 rfl 2 10 [(12, []), (12, []), (12, []), (12, []), (12, []), (12, []), (13, [12]), (13, [12]), (13, [12]), (13, [])] [8] 14 (by kernel_rfl) rfl ?_
  simp [hkl]
  refine CallD.snapE hC (by simp [trA, ndsE, edsE, -List.map_drop, ← List.map_drop]; rw [List.take_of_length_le (by simp)]; simp [-List.map_drop, ← List.map_drop]) (by simp [trA, noShr_nds]) ?_
  simp [trA, ndsE]
  refine CallA.snapE (iGroupsOf_spec hZ r.1 1) (by simp [trA, ndsE]) (by simp [noShr, intsE, noShrLL_mem]) ?_
  simp [intsE]
  have hok := okT_iff.1 H.ok
  obtain ⟨hasc, hlow, hlen⟩ := groups_root H
  have hsz := groupsOf_len r.1 1
  generalize groupsOf r.1 1 = q at hasc hlow hlen hsz
  refine LoopA.run hZ (fun x : Nat => ⟨132, [(4, .ptr [(0, 0)]), (5, iA r.2), (6, .ptr [(1, 0)]), (7, iA r.2), (11, .ptr [(2, 0)]), (12, iA r.2), (13, .bor [(3, 0)] 0 q.length), (14, iA (grps (r.1.nodes.take x)).length), (15, iA x)], [[ndsE true r.1.nodes, iC r.1.next], [ndsE true r.1.nodes, iC r.1.next], [ndsE true r.1.nodes, iC r.1.next], [intsE true q]], [true, true, true, false]⟩) (fun x => x ≤ r.1.nodes.length) (fun x => r.1.nodes.length - x) 0 (by simp) (Sub.by [4, 7, 13, 14] (by simp [ndsE, intsE, grps])) fun x hx => ?_
  simp [ndsE, intsE]
  refine Br.dec (fun h => ?_) (fun h => ?_) <;> simp [h]
  · have hy : r.1.nodes[x]? = some r.1.nodes[x] := List.getElem?_eq_getElem h
    have hn := ndB_pieces (hok.nds _ (List.getElem_mem h))
    have hl2 := hok.len2
    have ht := grps_take hy
    have hb2 := grps_len (l := r.1.nodes.take x) fun y hy => hok.nds y (List.mem_of_mem_take hy)
    rw [List.length_take] at hb2
    have hw2 : IntKind.i64.wrap ((x : Int) + 1) = (x : Int) + 1 := wrap_i64 (by omega)
    have hw3 : IntKind.i64.wrap (((grps (r.1.nodes.take x)).length : Int) + (r.1.nodes[x].pieces.length : Int)) = ((grps (r.1.nodes.take (x + 1))).length : Int) := by rw [wrap_i64 (by omega)]; omega
    simp [hy, ndE, pcsE, hw2, hw3]
    exact Again.mk (x + 1) (by omega) (by omega) (Sub.by [0, 1, 2, 3] (by simp [ndsE, intsE, ndE, pcsE]))
  · have hall : ((grps (r.1.nodes.take x)).length : Int) = q.length := by rw [List.take_of_length_le (by omega)]; omega
    have hl2 := hok.len2
    refine LoopA.run hZ (fun x : Nat => ⟨132, [(4, .ptr [(0, 0)]), (5, iA r.2), (6, .ptr [(1, 0)]), (7, iA r.2), (11, .ptr [(2, 0)]), (12, iA r.2), (13, .bor [(3, 0)] 0 q.length), (14, iA q.length), (16, iA x)], [[ndsE true r.1.nodes, iC r.1.next], [ndsE true r.1.nodes, iC r.1.next], [ndsE true r.1.nodes, iC r.1.next], [intsE true q]], [true, true, true, false]⟩) (fun x => x ≤ q.length) (fun x => q.length - x) 0 (by simp) (Sub.by [0, 1, 2, 3] (by simp [ndsE, intsE, hall])) fun x hx => ?_
    simp [ndsE, intsE]
    refine Br.dec (fun h => ?_) (fun h => ?_) <;> simp [h]
    · have hy : q[x]? = some q[x] := List.getElem?_eq_getElem h
      have hlt := hlow _ (List.getElem_mem h)
      have hw2 : IntKind.i64.wrap ((x : Int) + 1) = (x : Int) + 1 := wrap_i64 (by omega)
      refine W_drawB hZ hmo 4 rfl 0 19 [(4, []), (4, []), (4, []), (4, []), (4, []), (4, []), (4, []), (4, []), (4, []), (4, []), (4, []), (4, []), (4, []), (4, []), (4, []), (4, []), (4, []), (4, []), (4, [])] (by kernel_rfl) ?_
      simp [hy, hw2]
      refine Need.mk h ?_
      simp [hy, hw2]
      refine Br.dec (fun h2 => ?_) (fun h2 => ?_)
      · exfalso; omega
      by_cases h0 : 0 < x
      · have hz : q[x - 1]? = some q[x - 1] := List.getElem?_eq_getElem (by omega)
        have hzl : q[x - 1] < q[x] := List.pairwise_iff_getElem.1 hasc (x - 1) x (by omega) h (by omega)
        have hzn : ¬ q[x] ≤ q[x - 1] := by omega
        have hw5 : IntKind.i64.wrap ((x : Int) - 1) = ((x - 1 : Nat) : Int) := by rw [wrap_i64 (by omega)]; omega
        simp [h2, h0, hy]
        refine Need.mk ⟨by rw [hw5]; omega, by rw [hw5]; omega⟩ ?_
        simp [hw5, hz, hy, hzn, h2, h0]
        first | exact Again.mk (x + 1) (by omega) (by omega) (Sub.by [0, 1, 2, 3] (by simp [ndsE, intsE, hw2])) | (refine Need.mk h ?_; simp [hw5, hz, hy, hzn, h2, h0]; exact Again.mk (x + 1) (by omega) (by omega) (Sub.by [0, 1, 2, 3] (by simp [ndsE, intsE, hw2])))
      · simp [h2, h0, hy]
        exact Again.mk (x + 1) (by omega) (by omega) (Sub.by [0, 1, 2, 3] (by simp [ndsE, intsE, hw2]))
    · refine CallA.snapE (sameTree_spec hZ r.1 r.1) (by simp [trA, ndsE]) (by simp) ?_
      simp
      refine CallA.snapE (sameTree_spec hZ r.1 r.1) (by simp [trA, ndsE]) (by simp) ?_
      simp
      refine CallA.snapE (iTreeOk_spec hZ r.1) (by simp [trA, ndsE]) (by simp) ?_
      simp [H.ok]
end Go.Proofs.YtbhbkaonlillhaaGreatDoor
