/- The law of BelowOf. -/
import Derived.Test.YtbhbkaonlillhaaCEi
import Derived.Test.YtbhbkaonlillhaaCEc
namespace Go.Proofs.Ytbhbkaonlillhaa
open Go Go.Abs Go.Proofs Go.Tm
set_option linter.unusedSimpArgs false
set_option linter.unusedVariables false
set_option maxRecDepth 10000
variable {Z : TypeId → Nat} {G : World → Prop} {B0 : Nat}
theorem noShr_ints (l : List Int) : noShr (intsE true l) = true := by simp [intsE, noShrLL_mem]
theorem iBelowOf_spec2 (hZ : ZOk Try.prog Z) (t : Tree) (id : Int) : Does Z Try.prog G B0 34 [trA false t, iA id] [] [] (fun y _ => y = .c (intsE true (belowOf t id))) :=
  (iBelowOf_spec hZ t id).denil 3 fun y _ h => by
    rcases h with rfl | ⟨rfl, h⟩
    · simp [denil, intsE]
    · simp [denil, intsE, h]
set_option maxHeartbeats 4000000 in
theorem exBelowOf_spec (hZ : ZOk Try.prog Z) (t : Tree) (id : Int) : Does Z Try.prog G B0 6 [trL t, iA id] [] [] (fun y _ => y = bA true) := by
  refine Does.body hZ Try.func6 rfl rfl (Nat.le_of_ble_eq_true rfl) ?_
  simp [Try.f6, trL, ndsL]
  refine CallA.snap (args' := [trL t, iA 1048576]) (by simp [trL, ndsL]) (szTree_spec hZ t 1048576 (by omega)) ?_
  rintro y ⟨v, rfl, h1, h2⟩
  refine ⟨by simp, ?_⟩
  simp
  refine Br.dec (fun h3 => ?_) (fun h3 => ?_) <;> simp [h3]
  have hS := h2 (by omega)
  refine CallA.snapE (toTree_spec hZ t hS) (by simp [trL, ndsL]) (by simp [trA, noShr_nds]) ?_
  simp [trA, ndsE]
  refine CallA.snapE (BelowOf_spec hZ t id) (by simp [trA, ndsE]) (noShr_ints _) ?_
  simp [intsE]
  refine CallA.snapE (toTree_spec hZ t hS) (by simp [trL, ndsL]) (by simp [trA, noShr_nds]) ?_
  simp [trA, ndsE]
  refine CallA.snapE (iBelowOf_spec2 hZ t id) (by simp [trA, ndsE]) (noShr_ints _) ?_
  simp [intsE]
  refine CallA.snapE (eqIntS_spec hZ (belowOf t id) (belowOf t id)) (by simp [intsE]) (by simp) ?_
  simp
  refine W_draw hZ hmo 1 3 [(8, []), (8, []), (8, [])] (by kernel_rfl) ?_
  simp
  refine CallD.snapE (toTree_spec hZ t hS) (by simp [trL, ndsL]) (by simp [trA, noShr_nds]) ?_
  simp [trA, ndsE]
  refine CallA.snapE (eqTree_spec hZ t t) (by simp [trA, ndsE]) (by simp) ?_
  simp
  have hm := marks_nod t.nodes 1 ⟨by omega, by have := hS.1; omega⟩ hS.2
  have hb := marks_int (belowOf t id) 1 ⟨by omega, by have := belowOf_len t id; have := hS.1; omega⟩
  have hm0 : ¬ (scan mkNod 1 t.nodes).2 < 0 := by omega
  have hb0 : ¬ (scan mkInt 1 (belowOf t id)).2 < 0 := by omega
  have hbl := scan_len mkInt (belowOf t id) 1
  refine CallA.rowE [(5, 0)] (markTree_spec hZ t 1 (by omega)) (by simp [ndsE]) (by simp) ⟨by simp, noShr_nds _⟩ ?_
  simp [hm0, ndsE]
  refine CallA.snapE (eqIntS_spec hZ (belowOf t id) (belowOf t id)) (by simp [intsE]) (by simp) ?_
  simp
  refine CallA.rowE [(6, 0)] (markIntS_spec hZ (belowOf t id) 1) (by simp [intsE]) (by simp) ⟨by simp, noShr_ints _⟩ ?_
  simp [intsE, hbl]
  have htk : (((scan mkInt 1 (belowOf t id)).1.map fun x => [iC x]).take (belowOf t id).length) = (scan mkInt 1 (belowOf t id)).1.map fun x => [iC x] := by rw [← hbl]; simp
  refine CallA.snapE (heldIntS_spec hZ (scan mkInt 1 (belowOf t id)).1 1) (by simp [intsE, htk]) (by simp) ?_
  simp [hb.1, hb0]
  refine CallA.snapE (toTree_spec hZ t hS) (by simp [trL, ndsL]) (by simp [trA, noShr_nds]) ?_
  simp [trA, ndsE]
  refine CallA.snapE (iBelowOf_spec2 hZ t id) (by simp [trA, ndsE]) (noShr_ints _) ?_
  simp [intsE]
  refine CallA.snapE (eqIntS_spec hZ (belowOf t id) (belowOf t id)) (by simp [intsE]) (by simp) ?_
  simp
  refine CallA.snapE (heldIntS_spec hZ (scan mkInt 1 (belowOf t id)).1 1) (by simp [intsE, htk]) (by simp) ?_
  simp [hb.1, hb0]
end Go.Proofs.Ytbhbkaonlillhaa
