/- The law of ApplyAll. -/
import Derived.Test.YtbhbkaonlillhaaGreatDoorCFk
import Derived.Test.YtbhbkaonlillhaaGreatDoorCEy
import Derived.Test.YtbhbkaonlillhaaGreatDoorCEh
import Derived.Test.YtbhbkaonlillhaaGreatDoorTm
namespace Go.Proofs.YtbhbkaonlillhaaGreatDoor
open Go Go.Abs Go.Proofs Go.Tm
set_option linter.unusedSimpArgs false
set_option linter.unusedVariables false
set_option maxRecDepth 10000
variable {Z : TypeId → Nat} {G : World → Prop} {B0 : Nat}
theorem sm_applyAll : ∀ (l : List Edt) (p : Tree × Int), Sm p.1.nodes → Sm (l.foldl Go.Tm.stepT p).1.nodes
  | [], p, h => h
  | e :: l, p, h => by
    rw [List.foldl_cons]
    refine sm_applyAll l _ ?_
    rw [step_eq]
    exact sm_apply h
set_option maxHeartbeats 4000000 in
theorem exApplyAll_spec (hZ : ZOk Tryz.prog Z) (hG : ∀ w, G w → MG w) (t : Tree) (l : List Edt) (g : Int) : Does Z Tryz.prog G B0 10 [trL t, .c (edsL l), iA g] [] [] (fun y _ => y = bA true) := by
  refine Does.body hZ Tryz.func10 rfl rfl (Nat.le_of_ble_eq_true rfl) ?_
  simp [Tryz.f10, trL, ndsL, edsL]
  refine CallA.snap (args' := [trL t, iA 1048576]) (by simp [trL, ndsL]) (szTree_spec hZ t 1048576 (by omega)) ?_
  rintro y ⟨v, rfl, h1, h2⟩
  refine ⟨by simp, ?_⟩
  simp
  refine Br.dec (fun h3 => ?_) (fun h3 => ?_) <;> simp [h3]
  have hS := h2 (by omega)
  refine CallA.snap (args' := [.c (edsL l), iA v]) (by simp [edsL]) (szEditS_spec hZ l v (by omega)) ?_
  rintro y ⟨v2, rfl, h4, h5⟩
  refine ⟨by simp, ?_⟩
  simp
  refine Br.dec (fun h6 => ?_) (fun h6 => ?_) <;> simp [h6]
  obtain ⟨hL, hE⟩ := h5 (by omega)
  have hA := ApplyAll_spec (Z := Z) (G := G) (B0 := B0) hZ t l g hS hE
  have hI := iApplyAll_spec (Z := Z) (G := G) (B0 := B0) hZ hG t l g hS hE
  have hSr : Sm (applyAll t l g).1.nodes := sm_applyAll l (t, g) hS
  generalize applyAll t l g = r at hA hI hSr
  have hm := marks_nod t.nodes 1 ⟨by omega, by have := hS.1; omega⟩ hS.2
  have hme := marks_edt l (scan mkNod 1 t.nodes).2 ⟨hm.2, by
    have := nod_up t.nodes 1 (by omega) (by have := hS.1; omega) hS.2
    have := hS.1; omega⟩
  have hb := marks_nod r.1.nodes 1 ⟨by omega, by have := hSr.1; omega⟩ hSr.2
  have hm0 : ¬ (scan mkNod 1 t.nodes).2 < 0 := by omega
  have hb0 : ¬ (scan mkNod 1 r.1.nodes).2 < 0 := by omega
  have hbl := scan_len mkNod r.1.nodes 1
  refine CallA.snapE (toTree_spec hZ t hS) (by simp [trL, ndsL]) (by simp [trA, noShr_nds]) ?_
  simp [trA, ndsE]
  refine CallA.snapE (toEditS_spec hZ l hL) (by simp [edsL]) (by simp [noShr_eds]) ?_
  simp [edsE]
  refine CallA.snapE hA (by simp [trA, ndsE, edsE]) (by simp [trA, noShr_nds]) ?_
  simp [trA, ndsE]
  refine CallA.snapE (toTree_spec hZ t hS) (by simp [trL, ndsL]) (by simp [trA, noShr_nds]) ?_
  simp [trA, ndsE]
  refine CallA.snapE (toEditS_spec hZ l hL) (by simp [edsL]) (by simp [noShr_eds]) ?_
  simp [edsE]
  refine CallA.snapE hI (by simp [trA, ndsE, edsE]) (by simp [trA, noShr_nds]) ?_
  simp [trA, ndsE]
  refine CallA.snapE (eqTree_spec hZ r.1 r.1) (by simp [trA, ndsE]) (by simp) ?_
  simp
  first | refine W_drawB hZ hmo 1 rfl 1 3 [(1, []), (1, []), (1, [])] (by kernel_rfl) ?_ | refine W_drawB hZ hmo 2 rfl 1 3 [(2, []), (2, []), (2, [])] (by kernel_rfl) ?_ | refine W_drawB hZ hmo 3 rfl 1 3 [(3, []), (3, []), (3, [])] (by kernel_rfl) ?_ | refine W_drawB hZ hmo 4 rfl 1 3 [(4, []), (4, []), (4, [])] (by kernel_rfl) ?_ | refine W_drawB hZ hmo 5 rfl 1 3 [(5, []), (5, []), (5, [])] (by kernel_rfl) ?_ | refine W_drawB hZ hmo 6 rfl 1 3 [(6, []), (6, []), (6, [])] (by kernel_rfl) ?_ | refine W_drawB hZ hmo 7 rfl 1 3 [(7, []), (7, []), (7, [])] (by kernel_rfl) ?_ | refine W_drawB hZ hmo 8 rfl 1 3 [(8, []), (8, []), (8, [])] (by kernel_rfl) ?_ | refine W_drawB hZ hmo 9 rfl 1 3 [(9, []), (9, []), (9, [])] (by kernel_rfl) ?_ | refine W_drawB hZ hmo 10 rfl 1 3 [(10, []), (10, []), (10, [])] (by kernel_rfl) ?_ | refine W_drawB hZ hmo 11 rfl 1 3 [(11, []), (11, []), (11, [])] (by kernel_rfl) ?_ | refine W_drawB hZ hmo 12 rfl 1 3 [(12, []), (12, []), (12, [])] (by kernel_rfl) ?_ | refine W_drawB hZ hmo 13 rfl 1 3 [(13, []), (13, []), (13, [])] (by kernel_rfl) ?_ | refine W_drawB hZ hmo 14 rfl 1 3 [(14, []), (14, []), (14, [])] (by kernel_rfl) ?_ | refine W_drawB hZ hmo 15 rfl 1 3 [(15, []), (15, []), (15, [])] (by kernel_rfl) ?_ | refine W_drawB hZ hmo 16 rfl 1 3 [(16, []), (16, []), (16, [])] (by kernel_rfl) ?_ | refine W_drawB hZ hmo 17 rfl 1 3 [(17, []), (17, []), (17, [])] (by kernel_rfl) ?_ | refine W_drawB hZ hmo 18 rfl 1 3 [(18, []), (18, []), (18, [])] (by kernel_rfl) ?_ | refine W_drawB hZ hmo 19 rfl 1 3 [(19, []), (19, []), (19, [])] (by kernel_rfl) ?_ | refine W_drawB hZ hmo 20 rfl 1 3 [(20, []), (20, []), (20, [])] (by kernel_rfl) ?_ | refine W_drawB hZ hmo 21 rfl 1 3 [(21, []), (21, []), (21, [])] (by kernel_rfl) ?_ | refine W_drawB hZ hmo 22 rfl 1 3 [(22, []), (22, []), (22, [])] (by kernel_rfl) ?_ | refine W_drawB hZ hmo 23 rfl 1 3 [(23, []), (23, []), (23, [])] (by kernel_rfl) ?_ | refine W_drawB hZ hmo 24 rfl 1 3 [(24, []), (24, []), (24, [])] (by kernel_rfl) ?_ | refine W_drawB hZ hmo 25 rfl 1 3 [(25, []), (25, []), (25, [])] (by kernel_rfl) ?_ | refine W_drawB hZ hmo 26 rfl 1 3 [(26, []), (26, []), (26, [])] (by kernel_rfl) ?_ | refine W_drawB hZ hmo 27 rfl 1 3 [(27, []), (27, []), (27, [])] (by kernel_rfl) ?_ | refine W_drawB hZ hmo 28 rfl 1 3 [(28, []), (28, []), (28, [])] (by kernel_rfl) ?_ | refine W_drawB hZ hmo 29 rfl 1 3 [(29, []), (29, []), (29, [])] (by kernel_rfl) ?_ | refine W_drawB hZ hmo 30 rfl 1 3 [(30, []), (30, []), (30, [])] (by kernel_rfl) ?_ | refine W_drawB hZ hmo 31 rfl 1 3 [(31, []), (31, []), (31, [])] (by kernel_rfl) ?_
  simp
  refine CallD.snapE (toTree_spec hZ t hS) (by simp [trL, ndsL]) (by simp [trA, noShr_nds]) ?_
  simp [trA, ndsE]
  refine CallA.snapE (eqTree_spec hZ t t) (by simp [trA, ndsE]) (by simp) ?_
  simp
  first | refine CallA.snapE (toEditS_spec hZ l hL) (by simp [edsL]) (by simp [noShr_eds]) ?_ | refine CallD.snapE (toEditS_spec hZ l hL) (by simp [edsL]) (by simp [noShr_eds]) ?_
  simp [edsE]
  refine CallA.snapE (eqEditS_spec hZ l l) (by simp [edsE]) (by simp) ?_
  simp
  have hne0 : ¬ (scan mkEdt (scan mkNod 1 t.nodes).2 l).2 < 0 := by omega
  have hel := scan_len mkEdt l (scan mkNod 1 t.nodes).2
  have hup := nod_up t.nodes 1 (by omega) (by have := hS.1; omega) hS.2
  refine CallA.rowE [(8, 0)] (markTree_spec hZ t 1 (by omega)) (by simp [ndsE]) (by simp) ⟨by simp, noShr_nds _⟩ ?_
  simp [ndsE]
  refine CallA.rowE [(9, 0)] (markEditS_spec hZ l (scan mkNod 1 t.nodes).2 (by have := hS.1; omega)) (by simp [edsE]) (by simp) ⟨by simp, noShr_eds _⟩ ?_
  simp [edsE, hel, hne0]
  refine CallA.snapE (eqTree_spec hZ r.1 r.1) (by simp [trA, ndsE]) (by simp) ?_
  simp
  refine CallA.rowE [(11, 0)] (markTree_spec hZ r.1 1 (by omega)) (by simp [ndsE]) (by simp) ⟨by simp, noShr_nds _⟩ ?_
  simp [ndsE, hbl]
  have htk : ∀ o, (((scan mkNod 1 r.1.nodes).1.map (ndE o)).take r.1.nodes.length) = (scan mkNod 1 r.1.nodes).1.map (ndE o) := fun o => by rw [← hbl]; simp
  refine CallA.snapE (heldTree_spec hZ ⟨(scan mkNod 1 r.1.nodes).1, r.1.next⟩ 1 (by omega) (by rw [hb.1]; exact hb.2)) (by simp [trA, ndsE, htk]) (by simp) ?_
  simp [hb.1, hb0]
  refine CallA.snapE (toTree_spec hZ t hS) (by simp [trL, ndsL]) (by simp [trA, noShr_nds]) ?_
  simp [trA, ndsE]
  refine CallA.snapE (toEditS_spec hZ l hL) (by simp [edsL]) (by simp [noShr_eds]) ?_
  simp [edsE]
  refine CallA.snapE hI (by simp [trA, ndsE, edsE]) (by simp [trA, noShr_nds]) ?_
  simp [trA, ndsE]
  refine CallA.snapE (eqTree_spec hZ r.1 r.1) (by simp [trA, ndsE]) (by simp) ?_
  simp
  refine CallA.snapE (heldTree_spec hZ ⟨(scan mkNod 1 r.1.nodes).1, r.1.next⟩ 1 (by omega) (by rw [hb.1]; exact hb.2)) (by simp [trA, ndsE, htk]) (by simp) ?_
  simp [hb.1, hb0]
end Go.Proofs.YtbhbkaonlillhaaGreatDoor
