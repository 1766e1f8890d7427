/- The law: a log of drawn records is read back, and recovered. -/
import Derived.Test.YtbhbkaonlillhaaGreatDoorCHm
import Derived.Test.YtbhbkaonlillhaaGreatDoorCSa
import Derived.Test.YtbhbkaonlillhaaGreatDoorTn
namespace Go.Proofs.YtbhbkaonlillhaaGreatDoor
open Go Go.Abs Go.Proofs Go.Tm
set_option linter.unusedSimpArgs false
set_option linter.unusedVariables false
set_option maxRecDepth 10000
variable {Z : TypeId → Nat} {G : World → Prop} {B0 : Nat}
theorem laV_ok {e : Edt} (h : editB e = true) : laV e = aktsOf e := by unfold laV; rw [if_pos h]
theorem disk_len (l : List Edt) : (logDisk l).length ≤ 1000 := by
  unfold logDisk
  split <;> simp [logD]
theorem akt_texts {e : Edt} (h : editB e = true) : ∀ a ∈ aktsOf e, a.text.size ≤ 1048576 := fun a ha => by
  have hf := fr_len h
  simp only [aktsOf, List.mem_cons, List.not_mem_nil, or_false] at ha
  rcases ha with rfl | rfl
  · dsimp only; omega
  · exact Nat.zero_le _
theorem take_snoc {α : Type} {l : List α} {i : Nat} {x : α} (hx : l[i]? = some x) : l.take (i + 1) = l.take i ++ [x] := by
  rw [List.take_add_one, hx]; rfl
theorem allE_take {l : List Edt} (h : AllE l) (i : Nat) : AllE (l.take i) := ⟨fun e he => h.1 e (List.mem_of_mem_take he), by have := h.2; simp; omega⟩
set_option maxHeartbeats 4000000 in
theorem lawLogs_spec (hZ : ZOk Tryz.prog Z) (hG : ∀ w, G w → MG w) (b : List Int) : Does Z Tryz.prog G B0 12 [.c (byE b)] [] [] (fun y _ => y = bA true) := by
  refine Does.bodyF hZ Tryz.func12 rfl rfl (Nat.le_of_ble_eq_true rfl) fun hf => ?_
  simp [Tryz.f12, byE]
  refine CallA.snap (args' := [.c (byE b)]) (by simp [byE]) (big_spec hZ b) ?_
  rintro y ⟨v, rfl⟩
  refine ⟨by simp, ?_⟩
  simp
  refine Br.bool (fun hb => ?_) (fun hb => ?_) <;> simp [hb]
  refine CallA.snap (args' := [.c (byE b)]) (by simp [byE]) (DrawEdits_spec hZ b) ?_
  rintro y ⟨l, rfl, hg, hl⟩
  refine ⟨by simp [noShr_eds], ?_⟩
  have hE : ∀ e ∈ l, SmE e := fun e he => smE_good (hg e he)
  have hall : AllE l := ⟨fun e he => (hg e he).ok, by omega⟩
  simp [edsE]
  refine LoopA.run hZ (fun i : Nat => ⟨147, [(3, .bor [(0, 0)] 0 l.length), (4, .ptr [(1, 0)]), (5, sA (logT (l.take i))), (6, iA i)], [[edsE true l], [fisE true (logDisk (l.take i))]], [false, true]⟩) (fun i => i ≤ l.length) (fun i => l.length - i) 0 (Nat.zero_le _) (by first | exact Sub.by [0,1] (by first | (simp [edsE, fisE, logT, logDisk]; done) | fail) | exact Sub.by [0,2] (by first | (simp [edsE, fisE, logT, logDisk]; done) | fail) | exact Sub.by [1,2] (by first | (simp [edsE, fisE, logT, logDisk]; done) | fail)) fun i hi => ?_
  simp [edsE, fisE]
  refine Br.dec (fun h => ?_) (fun h => ?_)
  · have hx : l[i]? = some l[i] := List.getElem?_eq_getElem h
    have hex := hE _ (List.getElem_mem h)
    have hok := hall.1 _ (List.getElem_mem h)
    generalize l[i] = e at hx hex hok
    have hw : IntKind.i64.wrap ((i : Int) + 1) = ((i + 1 : Nat) : Int) := wrap_i64 (by omega)
    have hA := allE_take hall i
    have hst := disk_step hA hok
    have hts := hA.size
    have hfr := fr_len hok
    rw [← take_snoc hx] at hst
    simp [hx, edE]
    refine Need.mk h ?_
    simp [hx, edE]
    first | refine CallA.snapE (iLogActs_spec2 hZ hG e hex) (by first | (simp [edA, edE]; done) | fail) (by first | (simp [noShr_aks]; done) | fail) ?_ | refine CallD.snapE (iLogActs_spec2 hZ hG e hex) (by first | (simp [edA, edE]; done) | fail) (by first | (simp [noShr_aks]; done) | fail) ?_
    simp [hok, laV_ok hok, aksE]
    have hlen : (aktsOf e).length = 2 := rfl
    simp [hlen]
    have ht1 : List.take 2 (aktsOf e) = aktsOf e := rfl
    have ht2 : List.take 2 ((aktsOf e).map akE) = (aktsOf e).map akE := rfl
    first | refine CallA.snapE (DoActs_spec hZ (logDisk (l.take i)) (aktsOf e) (disk_len _) (akt_texts hok)) (by first | (simp [diA, fisE, aksE, hlen, ht1, ht2]; done) | fail) (by first | (simp [diA, noShr_fis]; done) | fail) ?_ | refine CallD.snapE (DoActs_spec hZ (logDisk (l.take i)) (aktsOf e) (disk_len _) (akt_texts hok)) (by first | (simp [diA, fisE, aksE, hlen, ht1, ht2]; done) | fail) (by first | (simp [diA, noShr_fis]; done) | fail) ?_
    rw [hst]
    simp [diA, fisE]
    have ha0 : (aktsOf e)[0]? = some ⟨1, sLog, (frV (editT e)).1, ⟨#[]⟩⟩ := rfl
    have hcs : (logT (l.take i)).size + (frV (editT e)).1.size ≤ 9223372036854775807 := by omega
    have hsn : logT (l.take (i + 1)) = logT (l.take i) ++ (frV (editT e)).1 := by rw [take_snoc hx, logT_snoc]
    simp [ha0, akE, hcs]
    exact Again.mk (i + 1) (by omega) (by omega) (by first | exact Sub.by [0,4] (by first | (simp [hw, hsn, edsE, fisE]; done) | fail) | exact Sub.by [0,5] (by first | (simp [hw, hsn, edsE, fisE]; done) | fail) | exact Sub.by [0,6] (by first | (simp [hw, hsn, edsE, fisE]; done) | fail) | exact Sub.by [0,3] (by first | (simp [hw, hsn, edsE, fisE]; done) | fail) | exact Sub.by [0,1] (by first | (simp [hw, hsn, edsE, fisE]; done) | fail))
  · obtain rfl : i = l.length := by omega
    rw [List.take_length]
    have hts := hall.size
    have h120 : (⟨#[120]⟩ : ByteArray).size = 1 := rfl
    have hcs : (logT l).size + (⟨#[120]⟩ : ByteArray).size ≤ 9223372036854775807 := by rw [h120]; omega
    have hcs1 : (logT l).size + 1 ≤ 9223372036854775807 := by omega
    have hrx := read_x hall
    have hRL := iReadLog_spec (Z := Z) (G := G) (B0 := B0) hZ hG (logT l ++ ⟨#[120]⟩) (by rw [ByteArray.size_append, h120]; omega)
    rw [hrx] at hRL
    have hI := iRecover_spec2 (Z := Z) (G := G) (B0 := B0) hZ hG (logDisk l)
    have hR := Recover_spec (Z := Z) (G := G) (B0 := B0) hZ (logDisk l)
    obtain ⟨hr1, hr2⟩ := rec_disk hall
    have hAp := ApplyAll_spec (Z := Z) (G := G) (B0 := B0) hZ newT l 1 (okT_sm good_new.ok) hE
    rw [hr1, hr2, disk_ok hall, newTr_eq] at hI hR
    generalize applyAll newT l 1 = r at hI hR hAp
    generalize logDisk l = d at hI hR
    simp [h, hcs, hcs1]
    first | refine CallA.snapE (hRL) (by first | (simp []; done) | fail) (by first | (simp [noShr_eds]; done) | fail) ?_ | refine CallD.snapE (hRL) (by first | (simp []; done) | fail) (by first | (simp [noShr_eds]; done) | fail) ?_
    simp [edsE]
    first | refine CallA.snapE (hI) (by first | (simp [diA, fisE]; done) | fail) (by first | (simp [trA, noShr_nds, noShr_aks]; done) | fail) ?_ | refine CallD.snapE (hI) (by first | (simp [diA, fisE]; done) | fail) (by first | (simp [trA, noShr_nds, noShr_aks]; done) | fail) ?_
    simp [trA, ndsE, aksE]
    first | refine CallA.snapE (hR) (by first | (simp [diA, fisE]; done) | fail) (by first | (simp [trA, noShr_nds, noShr_aks]; done) | fail) ?_ | refine CallD.snapE (hR) (by first | (simp [diA, fisE]; done) | fail) (by first | (simp [trA, noShr_nds, noShr_aks]; done) | fail) ?_
    simp [trA, ndsE, aksE]
    first | refine CallA.snapE (TreeNew_spec hZ) (by first | (simp []; done) | fail) (by first | (simp [trA, noShr_nds]; done) | fail) ?_ | refine CallD.snapE (TreeNew_spec hZ) (by first | (simp []; done) | fail) (by first | (simp [trA, noShr_nds]; done) | fail) ?_
    simp [trA, newT, ndsE, ndE, pcsE]
    refine CallA.snapE hAp (by simp [trA, newT, ndsE, ndE, pcsE, edsE]; rfl) (by simp [trA, noShr_nds]) ?_
    simp [trA, ndsE]
    have hl14 := hall.2
    refine LoopA.run hZ (fun i : Nat => ⟨147, [(3, .bor [(0, 0)] 0 l.length), (5, sA (logT l)), (11, .bor [(1, 0)] 0 l.length), (12, iA (logT l).size), (13, .ptr [(3, 0)]), (14, iA r.2), (15, .bor [(2, 1)] 0 0), (16, bA true), (17, .ptr [(4, 0)]), (18, iA r.2), (21, .ptr [(5, 0)]), (23, iA i)], [[edsE true l], [edsE true l], [.hole, aksE true []], [ndsE true r.1.nodes, iC r.1.next], [ndsE true r.1.nodes, iC r.1.next], [ndsE true r.1.nodes, iC r.1.next]], [false, false, false, true, true, true]⟩) (fun i => i ≤ l.length) (fun i => l.length - i) 0 (Nat.zero_le _) (by first | exact Sub.by [0,2,3,4,6,9] (by first | (simp [edsE, aksE, ndsE]; done) | fail)) fun i hi => ?_
    simp [edsE, aksE, ndsE]
    refine Br.dec (fun h => ?_) (fun h => ?_) <;> simp [h]
    · have hx : l[i]? = some l[i] := List.getElem?_eq_getElem h
      have hw : IntKind.i64.wrap ((i : Int) + 1) = ((i + 1 : Nat) : Int) := wrap_i64 (by omega)
      generalize l[i] = e at hx
      refine W_drawB hZ hmo 6 rfl 0 8 [(6, []), (6, []), (6, []), (6, []), (6, []), (6, []), (6, []), (6, [])] (by kernel_rfl) ?_
      simp [hx, edE]
      refine Need.mk h ?_
      simp [hx, edE]
      first | (refine Need.mk h ?_; simp [hx, edE]) | skip
      exact Again.mk (i + 1) (by omega) (by omega) (by first | exact Sub.by [0,1,2,3,4,5] (by first | (simp [hw, edsE, aksE, ndsE]; done) | fail))
    · first | refine CallA.snapE (sameTree_spec hZ r.1 r.1) (by first | (simp [trA, ndsE]; done) | fail) (by first | (simp []; done) | fail) ?_ | refine CallD.snapE (sameTree_spec hZ r.1 r.1) (by first | (simp [trA, ndsE]; done) | fail) (by first | (simp []; done) | fail) ?_
      simp
      first | refine CallA.snapE (sameTree_spec hZ r.1 r.1) (by first | (simp [trA, ndsE]; done) | fail) (by first | (simp []; done) | fail) ?_ | refine CallD.snapE (sameTree_spec hZ r.1 r.1) (by first | (simp [trA, ndsE]; done) | fail) (by first | (simp []; done) | fail) ?_
      simp
end Go.Proofs.YtbhbkaonlillhaaGreatDoor
