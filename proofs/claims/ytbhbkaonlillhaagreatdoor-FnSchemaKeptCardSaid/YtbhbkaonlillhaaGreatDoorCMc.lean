/- The law: a file keeps its schema. -/
import Derived.Test.YtbhbkaonlillhaaGreatDoorCDd
import Derived.Test.YtbhbkaonlillhaaGreatDoorCSa
import Derived.Test.YtbhbkaonlillhaaGreatDoorCSh
import Derived.Test.YtbhbkaonlillhaaGreatDoorCFk
import Derived.Test.YtbhbkaonlillhaaGreatDoorCEm
import Derived.Test.YtbhbkaonlillhaaGreatDoorTn
namespace Go.Proofs.YtbhbkaonlillhaaGreatDoor
open Go Go.Abs Go.Proofs Go.Tm
set_option linter.unusedSimpArgs false
set_option linter.unusedVariables false
set_option maxRecDepth 10000
variable {Z : TypeId → Nat} {G : World → Prop} {B0 : Nat}
theorem okT_all : ∀ (l : List Edt) (p : Tree × Int), okT p.1.nodes p.1.next = true → okT (l.foldl Go.Tm.stepT p).1.nodes (l.foldl Go.Tm.stepT p).1.next = true
  | [], p, h => h
  | e :: l, p, h => by
    rw [List.foldl_cons]
    refine okT_all l _ ?_
    unfold Go.Tm.stepT
    split
    · exact apply_ok h
    · exact h
theorem okT_applyAll {t : Tree} {l : List Edt} {g : Int} (h : okT t.nodes t.next = true) : okT (applyAll t l g).1.nodes (applyAll t l g).1.next = true := okT_all l (t, g) h
set_option maxHeartbeats 2000000 in
theorem lawSchemaKept_spec (hZ : ZOk Tryz.prog Z) (hG : ∀ w, G w → MG w) (b : List Int) : Does Z Tryz.prog G B0 4 [.c (byE b)] [] [] (fun y _ => y = bA true) := by
  refine Does.bodyF hZ Tryz.func4 rfl rfl (Nat.le_of_ble_eq_true rfl) fun hf => ?_
  simp [Tryz.f4, byE]
  refine CallA.snap (args' := [.c (byE b)]) (by simp [byE]) (big_spec hZ b) ?_
  rintro y ⟨v, rfl⟩
  refine ⟨by simp, ?_⟩
  simp
  refine Br.bool (fun hb => ?_) (fun hb => ?_) <;> simp [hb]
  refine CallA.snap (args' := [.c (byE b)]) (by simp [byE]) (DrawPlaces_spec hZ b) ?_
  rintro y ⟨p, rfl, hp12, hp⟩
  refine ⟨by simp [intsE, noShrLL_mem], ?_⟩
  obtain ⟨v0, hv0⟩ : ∃ v, p[0]? = some v := ⟨_, List.getElem?_eq_getElem (by omega)⟩
  obtain ⟨v1, hv1⟩ : ∃ v, p[1]? = some v := ⟨_, List.getElem?_eq_getElem (by omega)⟩
  obtain ⟨v2, hv2⟩ : ∃ v, p[2]? = some v := ⟨_, List.getElem?_eq_getElem (by omega)⟩
  have b0 := hp v0 (List.mem_of_getElem? hv0)
  have b1 := hp v1 (List.mem_of_getElem? hv1)
  have b2 := hp v2 (List.mem_of_getElem? hv2)
  have e0 : IntKind.i64.wrap (1 + v0.tmod 3) = 1 + v0 % 3 := by rw [Int.tmod_eq_emod_of_nonneg b0.1, wrap_i64 (by omega)]
  have e1 : IntKind.i64.wrap (1 + v1.tmod 3) = 1 + v1 % 3 := by rw [Int.tmod_eq_emod_of_nonneg b1.1, wrap_i64 (by omega)]
  have e2 : IntKind.i64.wrap (1 + v2.tmod 100) = 1 + v2 % 100 := by rw [Int.tmod_eq_emod_of_nonneg b2.1, wrap_i64 (by omega)]
  simp [intsE]
  refine Need.mk (by omega) ?_
  simp [hv0, e0]
  refine Need.mk (by omega) ?_
  simp [hv1, e1]
  refine Need.mk (by omega) ?_
  simp [hv2, e2]
  generalize ha : 1 + v0 % 3 = a
  generalize hbb : 1 + v1 % 3 = c
  generalize hm : 1 + v2 % 100 = m
  have hs : Sm newT.nodes := okT_sm good_new.ok
  have hE : ∀ e ∈ keptL a c m, SmE e := by
    intro e he
    simp [keptL] at he
    rcases he with rfl | rfl | rfl | rfl | rfl | rfl | rfl <;> exact ⟨Nat.le_of_ble_eq_true rfl, Nat.le_of_ble_eq_true rfl⟩
  have hA := iApplyAll_spec (Z := Z) (G := G) (B0 := B0) hZ hG newT (keptL a c m) 1 hs hE
  have hn : okT newT.nodes newT.next = true := good_new.ok
  have hok := okT_applyAll (t := newT) (l := keptL a c m) (g := 1) hn
  have hnew : newTr = newT := rfl
  generalize hr : applyAll newT (keptL a c m) 1 = r at hA hok
  obtain ⟨k1, k2, k3, k4, k5⟩ := kept_law (a := a) (b := c) (m := m) (r := r) (by omega) (by omega) (by omega) (by rw [hnew]; exact hr)
  refine CallA.snapE (iTreeNew_spec hZ) (by simp) (by simp [trA, noShr_nds]) ?_
  simp [trA, newT, ndsE, ndE, pcsE]
  refine CallA.snapE hA (by simp [trA, newT, ndsE, ndE, pcsE, edsE, keptL, edE, sD, sDf, sDg, sH]; exact ⟨rfl, rfl⟩) (by simp [trA, noShr_nds]) ?_
  simp [trA, ndsE]
  have h0 := (okT_iff.1 hok).id_ne0
  have z1 : sH.size ≤ 1048576 := by decide
  have z2 : sDg.size ≤ 1048576 := by decide
  refine CallA.snapE (iFindPath_spec hZ hG r.1 sH z1 h0) (by simp [trA, ndsE, sH]) (by simp) ?_
  generalize findP r.1 sH = f at k1 k4 k5
  simp
  refine W_drawB hZ hmo 7 rfl 6 44 [(7, []), (7, []), (7, []), (8, []), (8, [7]), (8, [7]), (8, [7]), (8, [7]), (8, [7]), (9, [7, 8]), (10, [7]), (10, [7, 8, 9]), (10, [7, 8, 9]), (10, [7, 8, 9]), (10, [7, 8, 9]), (10, [7, 8, 9]), (10, [7, 8, 9]), (10, [7, 8, 9]), (10, [7, 8, 9]), (10, [7, 8, 9]), (10, [7, 8, 9]), (10, [7, 8, 9]), (11, [7, 8, 9, 10]), (11, [7, 8, 9, 10]), (11, [7, 8, 9, 10]), (11, [7, 8, 9, 10]), (11, [7, 8, 9, 10]), (11, [7, 8, 9, 10]), (11, [7, 8, 9, 10]), (11, [7, 8, 9, 10]), (12, [7, 8, 9, 10, 11]), (12, [7, 8, 9, 10]), (12, [7, 8, 9, 10]), (12, [7, 8, 9, 10, 11]), (12, [7, 8, 9, 10, 11]), (12, [7, 8, 9, 10, 11]), (12, [7, 8, 9, 10, 11]), (12, [7, 8, 9, 10, 11]), (12, [7, 8, 9, 10, 11]), (13, [7, 8, 9, 10, 11]), (13, [7, 8, 9, 10, 11]), (13, [7, 8, 9, 10, 11]), (13, [7, 8, 9, 10, 11]), (13, [7, 8, 9, 10, 11])] (by kernel_rfl) ?_
  simp
  refine CallD.snapE (iSchemaAt_spec hZ r.1 f) (by simp [trA, ndsE]) (by simp) ?_
  simp [k1]
  refine CallD.snapE (iFindPath_spec hZ hG r.1 sDg z2 h0) (by simp [trA, ndsE, sDg]) (by simp) ?_
  simp
  refine CallD.snapE (iSchemaAt_spec hZ r.1 (findP r.1 sDg)) (by simp [trA, ndsE]) (by simp) ?_
  simp [k2]
  refine Need.mk (by omega) ?_
  simp [hv2, e2, hm]
  refine CallD.snapE (Spans_spec hZ a m) (by simp) (by simp [noShr_ints]) ?_
  simp [intsE]
  have hsl := spans_short (s := a) (n := m) (by omega)
  have hw3 : IntKind.i64.wrap (1 + ((spans a m).length : Int)) = 1 + ((spans a m).length : Int) := wrap_i64 (by omega)
  have hw4 : IntKind.i64.wrap (1 + ((spans a m).length : Int) - 1) = ((spans a m).length : Int) := by rw [wrap_i64 (by omega)]; omega
  have k4' : ((groupsOf r.1 f).length : Int) = ((spans a m).length : Int) := by omega
  simp [hw3, k3]
  refine CallD.snapE (iGroupsOf_spec hZ r.1 f) (by simp [trA, ndsE]) (by simp [noShr_ints]) ?_
  simp [intsE, k4', hw4]
  refine CallD.snapE (iUsedBelow_spec hZ r.1 f) (by simp [trA, ndsE]) (by simp) ?_
  simp [k5]
  refine Need.mk (by omega) ?_
  simp [hv2, e2, hm]
end Go.Proofs.YtbhbkaonlillhaaGreatDoor
