/- Contracts: records applied. -/
import Derived.Test.YtbhbkaonlillhaaGreatDoorCEw
namespace Go.Proofs.YtbhbkaonlillhaaGreatDoor
open Go Go.Abs Go.Proofs Go.Tm
set_option linter.unusedSimpArgs false
set_option linter.unusedVariables false
set_option maxRecDepth 10000
variable {Z : TypeId → Nat} {G : World → Prop} {B0 : Nat}
theorem editB_kind {e : Edt} (h : editB e = true) : 1 ≤ e.kind ∧ e.kind ≤ 10 := by
  unfold editB at h
  cases hk : inB e.kind 1 10 with
  | false => simp [hk] at h
  | true => simpa [inB] using hk
theorem editB_add {e : Edt} (h : editB e = true) (h7 : e.kind = 7) : 1 ≤ e.num ∧ e.num ≤ 200 := by
  unfold editB at h
  simp [h7] at h
  have := h.2.2.1
  simpa [inB] using this
set_option maxHeartbeats 2000000 in
theorem Apply_spec (hZ : ZOk Tryz.prog Z) (t : Tree) (e : Edt) (g : Int) (hs : Sm t.nodes) (he : SmE e) : Does Z Tryz.prog G B0 57 [trA false t, edA e, iA g] [] [] (fun y _ => y = .tup [trA true (applyT t e g).1, iA (applyT t e g).2]) := by
  generalize hr : applyT t e g = r
  refine Does.bodyF hZ Tryz.func57 rfl rfl (Nat.le_of_ble_eq_true rfl) fun hf => ?_
  simp [trA, ndsE] at hf
  simp [Tryz.f57, trA, ndsE, edA, edE]
  refine CallA.snapE (TreeOk_spec hZ t) (by simp [trA, ndsE]) (by simp) ?_
  unfold applyT at hr
  simp
  refine Br.bool (fun h1 => ?_) (fun h1 => ?_) <;> simp [h1] at hr ⊢
  rotate_left
  · refine CallA.snapE (l10Copy_spec hZ t hs) (by simp [trA, ndsE]) (by simp [trA, noShr_nds]) ?_
    subst hr
    simp [trA, ndsE]
  refine CallA.snapE (EditOk_spec hZ e he) (by simp [edA, edE]) (by simp) ?_
  simp
  refine Br.bool (fun h2 => ?_) (fun h2 => ?_) <;> simp [h2] at hr ⊢
  rotate_left
  · refine CallA.snapE (l10Copy_spec hZ t hs) (by simp [trA, ndsE]) (by simp [trA, noShr_nds]) ?_
    subst hr
    simp [trA, ndsE]
  refine CallA.snapE (l01In_spec hZ g 1 99000) (by simp) (by simp) ?_
  simp
  refine Br.bool (fun h3 => ?_) (fun h3 => ?_) <;> simp [h3] at hr ⊢
  rotate_left
  · refine CallA.snapE (l10Copy_spec hZ t hs) (by simp [trA, ndsE]) (by simp [trA, noShr_nds]) ?_
    subst hr
    simp [trA, ndsE]
  refine Br.dec (fun k10 => ?_) (fun k10 => ?_) <;> simp [k10] at hr ⊢
  · refine CallA.snapE (l10Copy_spec hZ t hs) (by simp [trA, ndsE]) (by simp [trA, noShr_nds]) ?_
    subst hr
    simp [trA, ndsE]
  refine Br.dec (fun k1 => ?_) (fun k1 => ?_) <;> simp [k10, k1] at hr ⊢
  · refine CallA.snapE (l12Add_spec hZ t e.path true 0 he.1 h1) (by simp [trA, ndsE]) (by simp [trA, noShr_nds]) ?_
    subst hr
    simp [trA, ndsE]
  refine Br.dec (fun k2 => ?_) (fun k2 => ?_) <;> simp [k10, k1, k2] at hr ⊢
  · refine CallA.snapE (l12Add_spec hZ t e.path false e.who he.1 h1) (by simp [trA, ndsE]) (by simp [trA, noShr_nds]) ?_
    subst hr
    simp [trA, ndsE]
  refine CallA.snapE (FindPath_spec hZ t e.path he.1) (by simp [trA, ndsE]) (by simp) ?_
  simp
  refine Br.dec (fun h4 => ?_) (fun h4 => ?_) <;> simp [h4] at hr ⊢
  · refine CallA.snapE (l10Copy_spec hZ t hs) (by simp [trA, ndsE]) (by simp [trA, noShr_nds]) ?_
    subst hr
    simp [trA, ndsE]
  obtain ⟨j, q, gq, ga, gn⟩ := findP_nd h4
  have hat : atN t.nodes (findP t e.path) = j := by simp [atN, ga]
  rw [gn, hat] at hr
  dsimp only at hr
  refine Br.dec (fun k3 => ?_) (fun k3 => ?_) <;> simp [k10, k1, k2, k3] at hr ⊢
  · refine CallA.snapE (l12Move_spec hZ t e (findP t e.path) he j q gq ga h1) (by simp [trA, ndsE, edA, edE, k3]) (by simp [trA, noShr_nds]) ?_
    subst hr
    simp [trA, ndsE]
  refine Br.dec (fun k4 => ?_) (fun k4 => ?_) <;> simp [k10, k1, k2, k3, k4] at hr ⊢
  · refine CallA.snapE (l12Drop_spec hZ t (findP t e.path) h1) (by simp [trA, ndsE]) (by simp [trA, noShr_nds]) ?_
    subst hr
    simp [trA, ndsE]
  refine Br.dec (fun k5 => ?_) (fun k5 => ?_) <;> simp [k10, k1, k2, k3, k4, k5] at hr ⊢
  · refine W_drawB hZ hmo 7 rfl 2 8 [(7, []), (7, []), (7, []), (7, []), (7, []), (8, [7]), (9, [7, 8]), (9, [7, 8])] (by kernel_rfl) ?_
    simp
    refine CallD.snapE (l10At_spec hZ t (findP t e.path)) (by simp [trA, ndsE]) (by simp) ?_
    simp [ga]
    refine CallD.snapE (l12Set_spec hZ t e j q gq h1) (by simp [trA, ndsE, edA, edE, k5]) (by simp [trA, noShr_nds]) ?_
    subst hr
    simp [trA, ndsE]
  refine Br.dec (fun k6 => ?_) (fun k6 => ?_) <;> simp [k10, k1, k2, k3, k4, k5, k6] at hr ⊢
  · refine W_drawB hZ hmo 7 rfl 2 8 [(7, []), (7, []), (7, []), (7, []), (7, []), (8, [7]), (9, [7, 8]), (9, [7, 8])] (by kernel_rfl) ?_
    simp
    refine CallD.snapE (l10At_spec hZ t (findP t e.path)) (by simp [trA, ndsE]) (by simp) ?_
    simp [ga]
    refine CallD.snapE (l12Set_spec hZ t e j q gq h1) (by simp [trA, ndsE, edA, edE, k6]) (by simp [trA, noShr_nds]) ?_
    subst hr
    simp [trA, ndsE]
  have hkk := editB_kind h2
  have hn : e.kind ≠ 8 → e.kind ≠ 9 → 1 ≤ e.num ∧ e.num ≤ 200 := fun a b => editB_add h2 (by omega)
  refine W_drawB hZ hmo 7 rfl 2 9 [(7, []), (7, []), (7, []), (7, []), (7, []), (8, []), (8, [7]), (9, [7, 8]), (9, [7, 8])] (by kernel_rfl) ?_
  simp
  refine CallD.snapE (l10At_spec hZ t (findP t e.path)) (by simp [trA, ndsE]) (by simp) ?_
  simp [ga]
  refine CallD.snapE (l12Write_spec hZ t e j q g gq h1 hn (by simpa [inB] using h3)) (by simp [trA, ndsE, edA, edE]) (by simp [trA, noShr_nds]) ?_
  subst hr
  simp [trA, ndsE]
end Go.Proofs.YtbhbkaonlillhaaGreatDoor
