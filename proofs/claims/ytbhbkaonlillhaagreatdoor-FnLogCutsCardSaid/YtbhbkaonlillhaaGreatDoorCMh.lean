/- Contracts. -/
import Derived.Test.YtbhbkaonlillhaaGreatDoorCHn
import Derived.Test.YtbhbkaonlillhaaGreatDoorCSa
import Derived.Test.YtbhbkaonlillhaaGreatDoorTn
/- The law: a log of drawn records is read back, and recovered. -/
namespace Go.Proofs.YtbhbkaonlillhaaGreatDoor
open Go Go.Abs Go.Proofs Go.Tm
set_option linter.unusedSimpArgs false
set_option linter.unusedVariables false
set_option maxRecDepth 10000
variable {Z : TypeId → Nat} {G : World → Prop} {B0 : Nat}
theorem laV_ok {e : Edt} (h : editB e = true) : laV e = aktsOf e := by unfold laV; rw [if_pos h]
theorem disk_len (l : List Edt) : (logDisk l).length ≤ 1000 := by
  unfold logDisk
  split <;> simp [logD]
theorem akt_texts {e : Edt} (h : editB e = true) : ∀ a ∈ aktsOf e, a.text.size ≤ 1048576 := fun a ha => by
  have hf := fr_len h
  simp only [aktsOf, List.mem_cons, List.not_mem_nil, or_false] at ha
  rcases ha with rfl | rfl
  · dsimp only; omega
  · exact Nat.zero_le _
theorem take_snoc {α : Type} {l : List α} {i : Nat} {x : α} (hx : l[i]? = some x) : l.take (i + 1) = l.take i ++ [x] := by
  rw [List.take_add_one, hx]; rfl
theorem allE_take {l : List Edt} (h : AllE l) (i : Nat) : AllE (l.take i) := ⟨fun e he => h.1 e (List.mem_of_mem_take he), by have := h.2; simp; omega⟩
end Go.Proofs.YtbhbkaonlillhaaGreatDoor

/- The law: a log whose last record was cut by the power. -/
namespace Go.Proofs.YtbhbkaonlillhaaGreatDoor
open Go Go.Abs Go.Proofs Go.Tm
set_option linter.unusedSimpArgs false
set_option linter.unusedVariables false
set_option maxRecDepth 10000
variable {Z : TypeId → Nat} {G : World → Prop} {B0 : Nat}
theorem mend_texts {l : List Fil} (h : diskB l = true) : ∀ a ∈ recA l, a.text.size ≤ 1048576 := fun a ha => by
  have hq := text_small h sLog
  unfold recA mendA at ha
  rw [if_pos h] at ha
  have hx : ((textN l sLog).extract 0 (rlV (textN l sLog)).2.toNat).size ≤ 1048576 := by rw [ByteArray.size_extract]; omega
  rcases List.mem_append.1 ha with ha | ha
  · split at ha
    · simp at ha; subst ha; exact Nat.zero_le _
    · cases ha
  · split at ha
    · simp only [List.mem_cons, List.not_mem_nil, or_false] at ha
      rcases ha with rfl | rfl | rfl
      · exact hx
      · exact Nat.zero_le _
      · exact Nat.zero_le _
    · cases ha
set_option maxHeartbeats 4000000 in
theorem lawLogCuts_spec (hZ : ZOk Tryz.prog Z) (hG : ∀ w, G w → MG w) (b : List Int) : Does Z Tryz.prog G B0 3 [.c (byE b)] [] [] (fun y _ => y = bA true) := by
  refine Does.bodyF hZ Tryz.func3 rfl rfl (Nat.le_of_ble_eq_true rfl) fun hf => ?_
  simp [Tryz.f3, byE]
  refine CallA.snap (args' := [.c (byE b)]) (by simp [byE]) (big_spec hZ b) ?_
  rintro y ⟨v, rfl⟩
  refine ⟨by simp, ?_⟩
  simp
  refine Br.bool (fun hb => ?_) (fun hb => ?_) <;> simp [hb]
  refine CallA.snap (args' := [.c (byE b)]) (by simp [byE]) (DrawEdits_spec hZ b) ?_
  rintro y ⟨l, rfl, hg, hl⟩
  refine ⟨by simp [noShr_eds], ?_⟩
  have hE : ∀ e ∈ l, SmE e := fun e he => smE_good (hg e he)
  have hall : AllE l := ⟨fun e he => (hg e he).ok, by omega⟩
  simp [edsE]
  refine CallA.snap (args' := [.c (byE b)]) (by simp [byE]) (DrawPlaces_spec hZ b) ?_
  rintro y ⟨p, rfl, hp12, hp⟩
  refine ⟨by simp [intsE, noShrLL_mem], ?_⟩
  simp [intsE]
  refine LoopA.run hZ (fun i : Nat => ⟨204, [(3, .bor [(0, 0)] 0 l.length), (4, .bor [(1, 0)] 0 p.length), (5, .ptr [(2, 0)]), (6, iA i)], [[edsE true l], [intsE true p], [fisE true (logDisk (l.take i))]], [false, false, true]⟩) (fun i => i + 1 ≤ l.length ∨ i = 0) (fun i => l.length - i) 0 (.inr rfl) (by first | exact Sub.by [1,2,3] (by first | (simp [edsE, intsE, fisE, logT, logDisk]; done) | fail)) fun i hi => ?_
  have hw : IntKind.i64.wrap ((i : Int) + 1) = ((i + 1 : Nat) : Int) := wrap_i64 (by omega)
  simp [edsE, fisE, intsE, hw]
  refine Br.dec (fun h => ?_) (fun h => ?_)
  · have hil : i < l.length := by omega
    have hx : l[i]? = some l[i] := List.getElem?_eq_getElem hil
    have hex := hE _ (List.getElem_mem hil)
    have hok := hall.1 _ (List.getElem_mem hil)
    generalize l[i] = e at hx hex hok
    have hA := allE_take hall i
    have hst := disk_step hA hok
    rw [← take_snoc hx] at hst
    simp [hx, edE]
    refine Need.mk hil ?_
    simp [hx, edE]
    first | refine CallA.snapE (LogActs_spec hZ e hex) (by first | (simp [edA, edE]; done) | fail) (by first | (simp [noShr_aks]; done) | fail) ?_ | refine CallD.snapE (LogActs_spec hZ e hex) (by first | (simp [edA, edE]; done) | fail) (by first | (simp [noShr_aks]; done) | fail) ?_
    simp [hok, laV_ok hok, aksE]
    have hlen : (aktsOf e).length = 2 := rfl
    have ht1 : List.take 2 (aktsOf e) = aktsOf e := rfl
    have ht2 : List.take 2 ((aktsOf e).map akE) = (aktsOf e).map akE := rfl
    simp [hlen]
    first | refine CallA.snapE (DoActs_spec hZ (logDisk (l.take i)) (aktsOf e) (disk_len _) (akt_texts hok)) (by first | (simp [diA, fisE, aksE, hlen, ht1, ht2]; done) | fail) (by first | (simp [diA, noShr_fis]; done) | fail) ?_ | refine CallD.snapE (DoActs_spec hZ (logDisk (l.take i)) (aktsOf e) (disk_len _) (akt_texts hok)) (by first | (simp [diA, fisE, aksE, hlen, ht1, ht2]; done) | fail) (by first | (simp [diA, noShr_fis]; done) | fail) ?_
    rw [hst]
    simp [diA, fisE, hw]
    exact Again.mk (i + 1) (by omega) (by omega) (by first | exact Sub.by [0,1,5] (by first | (simp [hw, edsE, fisE, intsE]; done) | fail) | exact Sub.by [0,1,2] (by first | (simp [hw, edsE, fisE, intsE]; done) | fail) | exact Sub.by [0,1,4] (by first | (simp [hw, edsE, fisE, intsE]; done) | fail) | exact Sub.by [0,1,3] (by first | (simp [hw, edsE, fisE, intsE]; done) | fail))
  · simp [h]
    refine Br.dec (fun h0 => ?_) (fun h0 => ?_)
    · subst h0
      have hI := iRecover_spec2 (Z := Z) (G := G) (B0 := B0) hZ hG []
      rw [rec_nil.1, rec_nil.2, diskB_nil, newTr_eq] at hI
      have hd0 : logDisk [] = [] := rfl
      simp [hd0]
      refine CallA.snapE hI (by simp [diA, fisE]; rfl) (by simp [trA, noShr_nds, noShr_aks]) ?_
      simp [trA, ndsE, aksE, newT]
    have hin : i + 1 = l.length := by
      have : l.length ≠ 0 := fun c => h0 (List.length_eq_zero_iff.1 c)
      omega
    have hil : i < l.length := by omega
    have hx : l[i]? = some l[i] := List.getElem?_eq_getElem hil
    have hex := hE _ (List.getElem_mem hil)
    have hok := hall.1 _ (List.getElem_mem hil)
    generalize l[i] = e at hx hex hok
    have hA := allE_take hall i
    have hwl : IntKind.i64.wrap ((l.length : Int) - 1) = (i : Int) := by rw [wrap_i64 (by omega)]; omega
    obtain ⟨v0, hv0⟩ : ∃ v, p[0]? = some v := ⟨_, List.getElem?_eq_getElem (by omega)⟩
    obtain ⟨v1, hv1⟩ : ∃ v, p[1]? = some v := ⟨_, List.getElem?_eq_getElem (by omega)⟩
    obtain ⟨v2, hv2⟩ : ∃ v, p[2]? = some v := ⟨_, List.getElem?_eq_getElem (by omega)⟩
    obtain ⟨_, hq0⟩ := List.getElem?_eq_some_iff.1 hv0
    obtain ⟨_, hq1⟩ := List.getElem?_eq_some_iff.1 hv1
    obtain ⟨_, hq2⟩ := List.getElem?_eq_some_iff.1 hv2
    have hb0 := hp v0 (List.mem_of_getElem? hv0)
    have hw3 : 0 ≤ v0.tmod 3 ∧ v0.tmod 3 ≤ 2 := by rw [Int.tmod_eq_emod_of_nonneg hb0.1]; omega
    obtain ⟨c, hc1, hc2, hc3, f, hf1, hf2, hf3, hf4⟩ := cut_law hA hok hw3 [v1.tmod 400, v2.tmod 40]
    rw [← take_snoc hx, hin, List.take_length, newTr_eq] at hc3
    have hC := CutActs_spec (Z := Z) (G := G) (B0 := B0) hZ (logDisk (l.take i)) (aktsOf e) (v0.tmod 3) [v1.tmod 400, v2.tmod 40] (disk_len _) (akt_texts hok)
    rw [hc1] at hC
    have hI := iRecover_spec2 (Z := Z) (G := G) (B0 := B0) hZ hG c
    have hcl := (diskB_iff.1 hc2).1
    have hmt := mend_texts hc2
    have hD := DoActs_spec (Z := Z) (G := G) (B0 := B0) hZ c (recA c) (by omega) hmt
    rw [hf1] at hD
    have hJ := iRecover_spec2 (Z := Z) (G := G) (B0 := B0) hZ hG f
    rw [hf2, hf3, hf4] at hJ
    rw [hc2] at hI
    have hA1 := ApplyAll_spec (Z := Z) (G := G) (B0 := B0) hZ newT (l.take i) 1 (okT_sm good_new.ok) fun e he => hE e (List.mem_of_mem_take he)
    have hA2 := ApplyAll_spec (Z := Z) (G := G) (B0 := B0) hZ newT l 1 (okT_sm good_new.ok) hE
    generalize applyAll newT (l.take i) 1 = r1 at hc3 hA1
    generalize applyAll newT l 1 = r2 at hc3 hA2
    generalize recT c = rc at hc3 hI hJ
    generalize recA c = ac at hI hD
    generalize logDisk (l.take i) = d at hC
    have hlen : (aktsOf e).length = 2 := rfl
    have ht1 : List.take 2 (aktsOf e) = aktsOf e := rfl
    have ht2 : List.take 2 ((aktsOf e).map akE) = (aktsOf e).map akE := rfl
    simp [hx, hwl, h0, edE]
    refine Need.mk hil ?_
    simp [hx, hwl, edE]
    first | refine CallA.snapE (iLogActs_spec2 hZ hG e hex) (by first | (simp [edA, edE]; done) | fail) (by first | (simp [noShr_aks]; done) | fail) ?_ | refine CallD.snapE (iLogActs_spec2 hZ hG e hex) (by first | (simp [edA, edE]; done) | fail) (by first | (simp [noShr_aks]; done) | fail) ?_
    simp [hok, laV_ok hok, aksE, hlen]
    refine W_drawMB hZ hmo 4 rfl 3 20 [(4, []), (4, []), (4, []), (4, []), (4, []), (4, []), (4, []), (4, []), (4, []), (4, []), (4, []), (4, []), (4, []), (4, []), (4, []), (5, [4]), (6, [4, 5]), (6, [4, 5]), (6, [4, 5]), (6, [])] [18] 7 (by kernel_rfl) rfl ?_
    simp [hv0, hv1, hv2, hp12, hq0, hq1, hq2]
    refine CallD.snapE hC (by simp [diA, fisE, aksE, intsE, hlen, ht1, ht2]; rfl) (by simp [diA, noShr_fis]) ?_
    simp [diA, fisE]
    first | refine CallA.snapE (hI) (by first | (simp [diA, fisE]; done) | fail) (by first | (simp [trA, noShr_nds, noShr_aks]; done) | fail) ?_ | refine CallD.snapE (hI) (by first | (simp [diA, fisE]; done) | fail) (by first | (simp [trA, noShr_nds, noShr_aks]; done) | fail) ?_
    simp [trA, ndsE, aksE]
    have htk : List.take i l = l.take i := rfl
    have hle : i ≤ l.length := by omega
    refine W_drawMB hZ hmo 9 rfl 3 11 [(9, []), (10, []), (10, []), (10, []), (10, []), (10, []), (10, [9]), (11, [9, 10]), (11, [9, 10]), (11, [9, 10]), (11, [])] [9] 12 (by kernel_rfl) rfl ?_
    simp [hwl, hle]
    first | refine CallA.snapE (TreeNew_spec hZ) (by first | (simp []; done) | fail) (by first | (simp [trA, noShr_nds]; done) | fail) ?_ | refine CallD.snapE (TreeNew_spec hZ) (by first | (simp []; done) | fail) (by first | (simp [trA, noShr_nds]; done) | fail) ?_
    simp [trA, newT, ndsE, ndE, pcsE, hwl, hle]
    refine CallD.snapE hA1 (by simp [trA, newT, ndsE, ndE, pcsE, edsE, -List.map_take, ← List.map_take]; rfl) (by simp [trA, noShr_nds]) ?_
    simp [trA, ndsE]
    first | refine CallA.snapE (TreeNew_spec hZ) (by first | (simp []; done) | fail) (by first | (simp [trA, noShr_nds]; done) | fail) ?_ | refine CallD.snapE (TreeNew_spec hZ) (by first | (simp []; done) | fail) (by first | (simp [trA, noShr_nds]; done) | fail) ?_
    simp [trA, newT, ndsE, ndE, pcsE]
    refine CallA.snapE hA2 (by simp [trA, newT, ndsE, ndE, pcsE, edsE]; rfl) (by simp [trA, noShr_nds]) ?_
    simp [trA, ndsE]
    first | refine CallA.snapE (hD) (by first | (simp [diA, fisE, aksE]; done) | fail) (by first | (simp [diA, noShr_fis]; done) | fail) ?_ | refine CallD.snapE (hD) (by first | (simp [diA, fisE, aksE]; done) | fail) (by first | (simp [diA, noShr_fis]; done) | fail) ?_
    simp [diA, fisE]
    first | refine CallA.snapE (hJ) (by first | (simp [diA, fisE]; done) | fail) (by first | (simp [trA, noShr_nds, noShr_aks]; done) | fail) ?_ | refine CallD.snapE (hJ) (by first | (simp [diA, fisE]; done) | fail) (by first | (simp [trA, noShr_nds, noShr_aks]; done) | fail) ?_
    simp [trA, ndsE, aksE]
    first | refine CallA.snapE (sameTree_spec hZ rc.1 rc.1) (by first | (simp [trA, ndsE]; done) | fail) (by first | (simp []; done) | fail) ?_ | refine CallD.snapE (sameTree_spec hZ rc.1 rc.1) (by first | (simp [trA, ndsE]; done) | fail) (by first | (simp []; done) | fail) ?_
    simp
    first | refine CallA.snapE (sameTree_spec hZ rc.1 r1.1) (by first | (simp [trA, ndsE]; done) | fail) (by first | (simp []; done) | fail) ?_ | refine CallD.snapE (sameTree_spec hZ rc.1 r1.1) (by first | (simp [trA, ndsE]; done) | fail) (by first | (simp []; done) | fail) ?_
    rcases hc3 with rfl | rfl
    · simp
    · simp
      refine Br.dec (fun d1 => ?_) (fun d1 => ?_) <;> simp [d1]
      · refine Br.dec (fun d2 => ?_) (fun d2 => ?_) <;> simp [d2]
        refine CallA.snapE (sameTree_spec hZ r1.1 r1.1) (by simp [trA, ndsE, d1]) (by simp) ?_
        simp
      · first | refine CallA.snapE (sameTree_spec hZ rc.1 rc.1) (by first | (simp [trA, ndsE]; done) | fail) (by first | (simp []; done) | fail) ?_ | refine CallD.snapE (sameTree_spec hZ rc.1 rc.1) (by first | (simp [trA, ndsE]; done) | fail) (by first | (simp []; done) | fail) ?_
        simp
end Go.Proofs.YtbhbkaonlillhaaGreatDoor

