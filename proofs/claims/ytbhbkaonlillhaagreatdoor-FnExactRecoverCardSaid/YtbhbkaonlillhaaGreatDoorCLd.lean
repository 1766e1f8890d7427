/- The law of Recover. -/
import Derived.Test.YtbhbkaonlillhaaGreatDoorCHj
import Derived.Test.YtbhbkaonlillhaaGreatDoorCEh
import Derived.Test.YtbhbkaonlillhaaGreatDoorTn
namespace Go.Proofs.YtbhbkaonlillhaaGreatDoor
open Go Go.Abs Go.Proofs Go.Tm
set_option linter.unusedSimpArgs false
set_option linter.unusedVariables false
set_option maxRecDepth 10000
variable {Z : TypeId → Nat} {G : World → Prop} {B0 : Nat}
theorem recA_len (l : List Fil) : (recA l).length ≤ 4 := by
  unfold recA mendA
  split
  · rw [List.length_append]; split <;> split <;> simp
  · simp
theorem sm_fold : ∀ (l : List Edt) (p : Tree × Int), Sm p.1.nodes → Sm (l.foldl Go.Tm.stepT p).1.nodes
  | [], p, h => h
  | e :: l, p, h => by
    rw [List.foldl_cons]
    refine sm_fold l _ ?_
    rw [step_eq]
    exact sm_apply h
theorem recT_sm (l : List Fil) : Sm (recT l).1.nodes := by
  unfold recT
  split
  · exact sm_fold _ (newTr, 1) (okT_sm good_new.ok)
  · exact ⟨by simp, by simp⟩
set_option maxHeartbeats 4000000 in
theorem exRecover_spec (hZ : ZOk Tryz.prog Z) (hG : ∀ w, G w → MG w) (l : List Fil) : Does Z Tryz.prog G B0 14 [diL l] [] [] (fun y _ => y = bA true) := by
  refine Does.body hZ Tryz.func14 rfl rfl (Nat.le_of_ble_eq_true rfl) ?_
  simp [Tryz.f14, diL, fisL]
  refine CallA.snap (args' := [diL l, iA 1048576]) (by simp [diL, fisL]) (szDisk_spec hZ l 1048576 (by omega)) ?_
  rintro y ⟨v, rfl, h1, h2⟩
  refine ⟨by simp, ?_⟩
  simp
  refine Br.dec (fun h3 => ?_) (fun h3 => ?_) <;> simp [h3]
  obtain ⟨hL, hFs⟩ := h2 (by omega)
  have hR := Recover_spec (Z := Z) (G := G) (B0 := B0) hZ l
  have hI := iRecover_spec2 (Z := Z) (G := G) (B0 := B0) hZ hG l
  have hSr := recT_sm l
  have hal := recA_len l
  generalize recT l = r at hR hI hSr
  generalize recA l = a at hR hI hal
  generalize diskB l = d at hR hI
  have hb := marks_nod r.1.nodes 1 ⟨by omega, by have := hSr.1; omega⟩ hSr.2
  have hup := nod_up r.1.nodes 1 (by omega) (by have := hSr.1; omega) hSr.2
  have hs1 := hSr.1
  have ha := marks_akt a (scan mkNod 1 r.1.nodes).2 ⟨hb.2, by omega⟩
  have hm := marks_fil l 1 ⟨by omega, by omega⟩
  have hm0 : ¬ (scan mkFil 1 l).2 < 0 := by omega
  have hb0 : ¬ (scan mkNod 1 r.1.nodes).2 < 0 := by omega
  have ha0 : ¬ (scan mkAkt (scan mkNod 1 r.1.nodes).2 a).2 < 0 := by omega
  have hbl := scan_len mkNod r.1.nodes 1
  have hall := scan_len mkAkt a (scan mkNod 1 r.1.nodes).2
  first | refine CallA.snapE (toDisk_spec hZ l hL) (by first | (simp [diL, fisL]; done) | fail) (by first | (simp [diA, noShr_fis]; done) | fail) ?_ | refine CallD.snapE (toDisk_spec hZ l hL) (by first | (simp [diL, fisL]; done) | fail) (by first | (simp [diA, noShr_fis]; done) | fail) ?_
  simp [diA, fisE]
  first | refine CallA.snapE (hR) (by first | (simp [diA, fisE]; done) | fail) (by first | (simp [trA, noShr_nds, noShr_aks]; done) | fail) ?_ | refine CallD.snapE (hR) (by first | (simp [diA, fisE]; done) | fail) (by first | (simp [trA, noShr_nds, noShr_aks]; done) | fail) ?_
  simp [trA, ndsE, aksE]
  first | refine CallA.snapE (toDisk_spec hZ l hL) (by first | (simp [diL, fisL]; done) | fail) (by first | (simp [diA, noShr_fis]; done) | fail) ?_ | refine CallD.snapE (toDisk_spec hZ l hL) (by first | (simp [diL, fisL]; done) | fail) (by first | (simp [diA, noShr_fis]; done) | fail) ?_
  simp [diA, fisE]
  first | refine CallA.snapE (hI) (by first | (simp [diA, fisE]; done) | fail) (by first | (simp [trA, noShr_nds, noShr_aks]; done) | fail) ?_ | refine CallD.snapE (hI) (by first | (simp [diA, fisE]; done) | fail) (by first | (simp [trA, noShr_nds, noShr_aks]; done) | fail) ?_
  simp [trA, ndsE, aksE]
  first | refine CallA.snapE (eqTree_spec hZ r.1 r.1) (by first | (simp [trA, ndsE]; done) | fail) (by first | (simp []; done) | fail) ?_ | refine CallD.snapE (eqTree_spec hZ r.1 r.1) (by first | (simp [trA, ndsE]; done) | fail) (by first | (simp []; done) | fail) ?_
  simp
  first | refine CallA.snapE (eqActS_spec hZ a a) (by first | (simp [aksE]; done) | fail) (by first | (simp []; done) | fail) ?_ | refine CallD.snapE (eqActS_spec hZ a a) (by first | (simp [aksE]; done) | fail) (by first | (simp []; done) | fail) ?_
  simp
  refine W_drawB hZ hmo 11 rfl 1 3 [(11, []), (11, []), (11, [])] (by kernel_rfl) ?_
  simp
  first | refine CallA.snapE (toDisk_spec hZ l hL) (by first | (simp [diL, fisL]; done) | fail) (by first | (simp [diA, noShr_fis]; done) | fail) ?_ | refine CallD.snapE (toDisk_spec hZ l hL) (by first | (simp [diL, fisL]; done) | fail) (by first | (simp [diA, noShr_fis]; done) | fail) ?_
  simp [diA, fisE]
  first | refine CallA.snapE (eqDisk_spec hZ l l) (by first | (simp [diA, fisE]; done) | fail) (by first | (simp []; done) | fail) ?_ | refine CallD.snapE (eqDisk_spec hZ l l) (by first | (simp [diA, fisE]; done) | fail) (by first | (simp []; done) | fail) ?_
  simp
  refine CallA.rowE [(6, 0)] (markDisk_spec hZ l 1 (by omega)) (by simp [fisE]) (by simp) ⟨by simp, noShr_fis _⟩ ?_
  simp [hm0, fisE]
  first | refine CallA.snapE (eqTree_spec hZ r.1 r.1) (by first | (simp [trA, ndsE]; done) | fail) (by first | (simp []; done) | fail) ?_ | refine CallD.snapE (eqTree_spec hZ r.1 r.1) (by first | (simp [trA, ndsE]; done) | fail) (by first | (simp []; done) | fail) ?_
  simp
  first | refine CallA.snapE (eqActS_spec hZ a a) (by first | (simp [aksE]; done) | fail) (by first | (simp []; done) | fail) ?_ | refine CallD.snapE (eqActS_spec hZ a a) (by first | (simp [aksE]; done) | fail) (by first | (simp []; done) | fail) ?_
  simp
  refine CallA.rowE [(8, 0)] (markTree_spec hZ r.1 1 (by omega)) (by simp [ndsE]) (by simp) ⟨by simp, noShr_nds _⟩ ?_
  simp [ndsE, hbl]
  refine CallA.rowE [(7, 1)] (markActS_spec hZ a (scan mkNod 1 r.1.nodes).2 (by omega)) (by simp [aksE]) (by simp) ⟨by simp, noShr_aks _⟩ ?_
  simp [aksE, hall]
  have htk : ∀ o, (((scan mkNod 1 r.1.nodes).1.map (ndE o)).take r.1.nodes.length) = (scan mkNod 1 r.1.nodes).1.map (ndE o) := fun o => by rw [← hbl]; simp
  have hta : (((scan mkAkt (scan mkNod 1 r.1.nodes).2 a).1.map akE).take a.length) = (scan mkAkt (scan mkNod 1 r.1.nodes).2 a).1.map akE := by rw [← hall]; simp
  refine CallA.snapE (heldTree_spec hZ ⟨(scan mkNod 1 r.1.nodes).1, r.1.next⟩ 1 (by omega) (by rw [hb.1]; exact hb.2)) (by simp [trA, ndsE, htk]) (by simp) ?_
  simp [hb.1, hb0]
  refine CallA.snapE (heldActS_spec hZ (scan mkAkt (scan mkNod 1 r.1.nodes).2 a).1 (scan mkNod 1 r.1.nodes).2 (by omega)) (by simp [aksE, hta]) (by simp) ?_
  simp [ha.1, ha0]
  first | refine CallA.snapE (toDisk_spec hZ l hL) (by first | (simp [diL, fisL]; done) | fail) (by first | (simp [diA, noShr_fis]; done) | fail) ?_ | refine CallD.snapE (toDisk_spec hZ l hL) (by first | (simp [diL, fisL]; done) | fail) (by first | (simp [diA, noShr_fis]; done) | fail) ?_
  simp [diA, fisE]
  first | refine CallA.snapE (hI) (by first | (simp [diA, fisE]; done) | fail) (by first | (simp [trA, noShr_nds, noShr_aks]; done) | fail) ?_ | refine CallD.snapE (hI) (by first | (simp [diA, fisE]; done) | fail) (by first | (simp [trA, noShr_nds, noShr_aks]; done) | fail) ?_
  simp [trA, ndsE, aksE]
  first | refine CallA.snapE (eqTree_spec hZ r.1 r.1) (by first | (simp [trA, ndsE]; done) | fail) (by first | (simp []; done) | fail) ?_ | refine CallD.snapE (eqTree_spec hZ r.1 r.1) (by first | (simp [trA, ndsE]; done) | fail) (by first | (simp []; done) | fail) ?_
  simp
  first | refine CallA.snapE (eqActS_spec hZ a a) (by first | (simp [aksE]; done) | fail) (by first | (simp []; done) | fail) ?_ | refine CallD.snapE (eqActS_spec hZ a a) (by first | (simp [aksE]; done) | fail) (by first | (simp []; done) | fail) ?_
  simp
  refine CallA.snapE (heldTree_spec hZ ⟨(scan mkNod 1 r.1.nodes).1, r.1.next⟩ 1 (by omega) (by rw [hb.1]; exact hb.2)) (by simp [trA, ndsE, htk]) (by simp) ?_
  simp [hb.1, hb0]
  refine CallA.snapE (heldActS_spec hZ (scan mkAkt (scan mkNod 1 r.1.nodes).2 a).1 (scan mkNod 1 r.1.nodes).2 (by omega)) (by simp [aksE, hta]) (by simp) ?_
  simp [ha.1, ha0]
end Go.Proofs.YtbhbkaonlillhaaGreatDoor
