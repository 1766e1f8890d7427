/- The law of GroupsAfter. -/
import Derived.Test.YtbhbkaonlillhaaGreatDoorCFk
import Derived.Test.YtbhbkaonlillhaaGreatDoorCEy
import Derived.Test.YtbhbkaonlillhaaGreatDoorCEh
namespace Go.Proofs.YtbhbkaonlillhaaGreatDoor
open Go Go.Abs Go.Proofs Go.Tm
set_option linter.unusedSimpArgs false
set_option linter.unusedVariables false
set_option maxRecDepth 10000
variable {Z : TypeId → Nat} {G : World → Prop} {B0 : Nat}
set_option maxHeartbeats 4000000 in
theorem exGroupsAfter_spec (hZ : ZOk Tryz.prog Z) (hG : ∀ w, G w → MG w) (t : Tree) (e : Edt) (g : Int) : Does Z Tryz.prog G B0 6 [trL t, edA e, iA g] [] [] (fun y _ => y = bA true) := by
  refine Does.body hZ Tryz.func6 rfl rfl (Nat.le_of_ble_eq_true rfl) ?_
  simp [Tryz.f6, trL, ndsL, edA, edE]
  refine CallA.snap (args' := [trL t, iA 1048576]) (by simp [trL, ndsL]) (szTree_spec hZ t 1048576 (by omega)) ?_
  rintro y ⟨v, rfl, h1, h2⟩
  refine ⟨by simp, ?_⟩
  simp
  refine Br.dec (fun h3 => ?_) (fun h3 => ?_) <;> simp [h3]
  have hS := h2 (by omega)
  refine CallA.snap (args' := [edA e, iA v]) (by simp [edA, edE]) (szEdit_spec hZ e v (by omega)) ?_
  rintro y ⟨v2, rfl, h4, h5⟩
  refine ⟨by simp, ?_⟩
  simp
  refine Br.dec (fun h6 => ?_) (fun h6 => ?_) <;> simp [h6]
  have hE : SmE e := h5 (by omega)
  refine W_drawB hZ hmo 4 rfl 2 5 [(4, []), (4, []), (5, []), (5, [4]), (6, [])] (by kernel_rfl) ?_
  simp
  refine CallD.snapE (toTree_spec hZ t hS) (by simp [trL, ndsL]) (by simp [trA, noShr_nds]) ?_
  simp [trA, ndsE]
  refine CallD.snapE (toEdit_spec hZ e) (by simp [edA, edE]) (by simp [edA, edE]) ?_
  simp [edA, edE]
  refine CallA.snapE (GroupsAfter_spec hZ t e g hS hE) (by simp [trA, ndsE, edA, edE]) (by simp) ?_
  simp
  refine CallA.snapE (toTree_spec hZ t hS) (by simp [trL, ndsL]) (by simp [trA, noShr_nds]) ?_
  simp [trA, ndsE]
  refine W_drawB hZ hmo 9 rfl 1 4 [(9, []), (9, []), (9, []), (10, [])] (by kernel_rfl) ?_
  simp
  refine CallD.snapE (toEdit_spec hZ e) (by simp [edA, edE]) (by simp [edA, edE]) ?_
  simp [edA, edE]
  refine CallA.snapE (iGroupsAfter_spec hZ hG t e g hE) (by simp [trA, ndsE, edA, edE]) (by simp) ?_
  simp
  refine W_drawB hZ hmo 11 rfl 1 3 [(11, []), (11, []), (11, [])] (by kernel_rfl) ?_
  simp
  refine CallD.snapE (toTree_spec hZ t hS) (by simp [trL, ndsL]) (by simp [trA, noShr_nds]) ?_
  simp [trA, ndsE]
  refine CallA.snapE (eqTree_spec hZ t t) (by simp [trA, ndsE]) (by simp) ?_
  simp
end Go.Proofs.YtbhbkaonlillhaaGreatDoor
