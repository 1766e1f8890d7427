/- Contracts: nodes made, by the program. -/
import Derived.Test.YtbhbkaonlillhaaGreatDoorCFc
import Derived.Test.YtbhbkaonlillhaaGreatDoorCFd
namespace Go.Proofs.YtbhbkaonlillhaaGreatDoor
open Go Go.Abs Go.Proofs Go.Tm
set_option linter.unusedSimpArgs false
set_option linter.unusedVariables false
set_option maxRecDepth 10000
variable {Z : TypeId → Nat} {G : World → Prop} {B0 : Nat}
theorem okT_ids {t : Tree} (h : okT t.nodes t.next = true) : ∀ x ∈ t.nodes, x.id ≠ 0 := fun x hx => by have := (okT_iff.1 h).id_pos hx; omega
theorem at_zero {t : Tree} (h : okT t.nodes t.next = true) : atI t.nodes 0 = -1 := by
  rcases atI_spec t.nodes 0 with ⟨g1, g2, _⟩ | ⟨k, q, gq, g1, gid, g2, _⟩
  · exact g1
  · rw [(okT_iff.1 h).nd_zero] at g2; cases g2
theorem found_spec (hZ : ZOk Tryz.prog Z) (hG : ∀ w, G w → MG w) (t : Tree) (p : ByteArray) (hp : p.size ≤ 1048576) (ht : okT t.nodes t.next = true) : Does Z Tryz.prog G B0 100 [trA false t, sA p] [] [] (fun y _ => y = iA (atI t.nodes (findP t p))) := by
  refine Does.bodyF hZ Tryz.func100 rfl rfl (Nat.le_of_ble_eq_true rfl) fun hf => ?_
  simp [Tryz.f100, trA, ndsE]
  refine W_drawB hZ hmo 1 rfl 1 4 [(1, []), (1, []), (1, []), (1, [])] (by kernel_rfl) ?_
  simp
  refine CallD.snapE (iFindPath_spec hZ hG t p hp (okT_ids ht)) (by simp [trA, ndsE]) (by simp) ?_
  simp
  refine CallA.snapE (nodeAt_spec hZ t (findP t p)) (by simp [trA, ndsE]) (by simp) ?_
  simp
def parentC (t : Tree) (p : ByteArray) : Int :=
  if findP t (upOf p).1 = 0 then 1
  else if dirAt t.nodes (findP t (upOf p).1) = false then 3
  else if findP t p ≠ 0 then 2 else 0
theorem parentCode_spec (hZ : ZOk Tryz.prog Z) (hG : ∀ w, G w → MG w) (t : Tree) (p : ByteArray) (hp : p.size ≤ 1048576) (ht : okT t.nodes t.next = true) : Does Z Tryz.prog G B0 208 [trA false t, sA p] [] [] (fun y _ => y = iA (parentC t p)) := by
  generalize hr : parentC t p = r
  refine Does.bodyF hZ Tryz.func208 rfl rfl (Nat.le_of_ble_eq_true rfl) fun hf => ?_
  simp [Tryz.f208, trA, ndsE]
  unfold parentC at hr
  refine CallA.snapE (iParentPath_spec hZ hG p hp) (by simp) (by simp) ?_
  simp
  refine CallA.snapE (found_spec hZ hG t (upOf p).1 (upOf_size p).1 ht) (by simp [trA, ndsE]) (by simp) ?_
  by_cases h1 : findP t (upOf p).1 = 0
  · rw [if_pos h1] at hr
    subst hr
    simp [h1, at_zero ht]
  rw [if_neg h1] at hr
  obtain ⟨j, q, gq, ga, gn⟩ := findP_nd h1
  have hj : ¬ ((j : Int) < 0) := by omega
  have hd : dirAt t.nodes (findP t (upOf p).1) = q.dir := by simp [dirAt, gn]
  rw [hd] at hr
  simp [ga, hj, gq, ndE, pcsE]
  refine Br.bool (fun h2 => ?_) (fun h2 => ?_) <;> simp [h2] at hr ⊢
  rotate_left
  · exact hr
  refine CallA.snapE (found_spec hZ hG t p hp ht) (by simp [trA, ndsE]) (by simp) ?_
  by_cases h3 : findP t p = 0
  · simp [h3, at_zero ht] at hr ⊢
    exact hr
  · obtain ⟨j2, q2, gq2, ga2, gn2⟩ := findP_nd h3
    have hj2 : (0 : Int) ≤ (j2 : Int) := by omega
    simp [h3, ga2, hj2] at hr ⊢
    exact hr
theorem addT_code {t : Tree} {p : ByteArray} {d : Bool} {w : Int} (ht : okT t.nodes t.next = true) : addT t p d w = if parentC t p ≠ 0 then (t, parentC t p) else if okT (t.nodes ++ [newN t p d w]) (w64 (t.next + 1)) = false then (t, 8) else (⟨t.nodes ++ [newN t p d w], w64 (t.next + 1)⟩, 0) := by
  unfold addT parentC
  by_cases h1 : findP t (upOf p).1 = 0
  · simp [h1]
  by_cases h2 : dirAt t.nodes (findP t (upOf p).1) = false
  · simp [h1, h2]
  by_cases h3 : findP t p ≠ 0
  · simp [h1, h2, h3]
  simp only [if_neg h1, if_neg h2, if_neg h3, ne_eq, not_true_eq_false, if_false]
  by_cases h4 : okT (t.nodes ++ [newN t p d w]) (w64 (t.next + 1)) = false
  · simp [h4]
  · have h5 := okT_iff.1 (by simpa using h4)
    have h6 := h5.len2
    have h7 := h5.nxt
    have h8 := (okT_iff.1 ht).nxt
    have h9 : ¬ (t.nodes.length : Int) = 14 := by simp at h6; omega
    have h10 : ¬ t.next = 100000 := fun c => by rw [c] at h7; exact absurd h7 (by decide)
    simp [h4, h9, h10]
def madeT (t : Tree) (e : Edt) : Tree × Int := if e.kind = 1 then addT t e.path true 0 else addT t e.path false e.who
set_option maxHeartbeats 1000000 in
theorem made_spec (hZ : ZOk Tryz.prog Z) (hG : ∀ w, G w → MG w) (t : Tree) (e : Edt) (he : SmE e) (ht : okT t.nodes t.next = true) : Does Z Tryz.prog G B0 163 [trA false t, edA e] [] [] (fun y _ => y = .tup [trA (decide ((madeT t e).2 = 0)) (madeT t e).1, iA (madeT t e).2]) := by
  generalize hr : madeT t e = r
  refine Does.bodyF hZ Tryz.func163 rfl rfl (Nat.le_of_ble_eq_true rfl) fun hf => ?_
  simp [Tryz.f163, trA, ndsE, edA, edE]
  unfold madeT at hr
  rw [addT_code ht, addT_code ht] at hr
  refine CallA.snapE (parentCode_spec hZ hG t e.path he.1 ht) (by simp [trA, ndsE]) (by simp) ?_
  simp
  refine Br.dec (fun h1 => ?_) (fun h1 => ?_) <;> simp [h1] at hr ⊢
  rotate_left
  · subst hr
    simp [h1]
  have hlen := (okT_iff.1 ht).len2
  refine CallA.snapE (iParentPath_spec hZ hG e.path he.1) (by simp) (by simp) ?_
  simp
  refine W_drawB hZ hmo 5 rfl 2 11 [(5, []), (5, []), (5, []), (5, []), (5, []), (6, []), (6, []), (6, []), (6, []), (6, [5]), (6, [])] (by kernel_rfl) ?_
  simp
  refine CallD.snapE (iFindPath_spec hZ hG t (upOf e.path).1 (upOf_size e.path).1 (okT_ids ht)) (by simp [trA, ndsE]) (by simp) ?_
  simp
  refine Br.dec (fun k1 => ?_) (fun k1 => ?_) <;> simp [k1] at hr ⊢
  · refine CallA.snapE (copyTree_spec hZ t (okT_sm ht)) (by simp [trA, ndsE]) (by simp [trA, noShr_nds]) ?_
    simp [trA, ndsE]
    refine Need.mk (by omega) ?_
    simp
    refine CallA.snapE (iTreeOk_spec hZ ⟨t.nodes ++ [newN t e.path true 0], w64 (t.next + 1)⟩) (by simp [trA, ndsE, ndE, pcsE, newN, w64, shareLL_one, share, shareLL]) (by simp) ?_
    simp
    refine Br.bool (fun h7 => ?_) (fun h7 => ?_) <;> simp [h7] at hr ⊢
    · subst hr
      simp [trA, ndsE, ndE, pcsE, newN, w64]
    · subst hr
      simp [trA, ndsE]
  · refine W_drawMB hZ hmo 7 rfl 1 7 [(7, []), (7, []), (7, []), (7, []), (8, []), (8, []), (8, [7])] [4, 5] 8 (by kernel_rfl) rfl ?_
    simp
    refine CallD.snapE (iSchemaAt_spec hZ t (findP t (upOf e.path).1)) (by simp [trA, ndsE]) (by simp) ?_
    simp
    refine CallA.snapE (copyTree_spec hZ t (okT_sm ht)) (by simp [trA, ndsE]) (by simp [trA, noShr_nds]) ?_
    simp [trA, ndsE]
    refine Need.mk (by omega) ?_
    simp
    refine CallA.snapE (iTreeOk_spec hZ ⟨t.nodes ++ [newN t e.path false e.who], w64 (t.next + 1)⟩) (by simp [trA, ndsE, ndE, pcsE, newN, w64, shareLL_one, share, shareLL]) (by simp) ?_
    simp
    refine Br.bool (fun h7 => ?_) (fun h7 => ?_) <;> simp [h7] at hr ⊢
    · subst hr
      simp [trA, ndsE, ndE, pcsE, newN, w64]
    · subst hr
      simp [trA, ndsE]
end Go.Proofs.YtbhbkaonlillhaaGreatDoor
