/- Contracts of the laws' looks for marks in trees. -/
import Derived.Test.YtbhbkaonlillhaaGreatDoorCEc
namespace Go.Proofs.YtbhbkaonlillhaaGreatDoor
open Go Go.Abs Go.Proofs Go.Tm
set_option linter.unusedSimpArgs false
set_option linter.unusedVariables false
set_option maxRecDepth 10000
variable {Z : TypeId → Nat} {G : World → Prop} {B0 : Nat}

theorem heldPieceS_spec (hZ : ZOk Tryz.prog Z) (l : List Pc) (k : Int) : Does Z Tryz.prog G B0 182 [.c (pcsE false l), iA k] [] [] (fun y _ => y = iA (hscan hdPc k l)) := by
  generalize hr : hscan hdPc k l = r
  refine Does.bodyF hZ Tryz.func182 rfl rfl (Nat.le_of_ble_eq_true rfl) fun hf => ?_
  simp [pcsE] at hf
  simp [Tryz.f182, pcsE]
  refine LoopA.run hZ (fun p : Nat × Int => ⟨31, [(0, .c (pcsE false l)), (1, iA p.2), (5, iA p.1)], [], []⟩) (fun p => hscan hdPc p.2 (l.drop p.1) = r) (fun p => l.length - p.1) (0, k) (by simpa using hr) (Sub.by [] (by simp [pcsE])) fun ⟨i, j⟩ he => ?_
  dsimp only at he
  simp [pcsE]
  refine Br.dec (fun h => ?_) (fun h => ?_)
  · have hw := w_inc h hf.1
    have hx : l[i]? = some l[i] := List.getElem?_eq_getElem h
    rw [List.drop_eq_getElem_cons h, hscan, hdPc] at he
    generalize l[i] = x at hx he
    simp only [w64] at he
    simp [hx, pcE]
    refine Br.dec (fun h2 => ?_) (fun h2 => ?_) <;> simp [h2, hx, pcE] at he ⊢
    rotate_left
    · exact he
    refine Br.dec (fun h3 => ?_) (fun h3 => ?_) <;> simp [h3, hx, pcE] at he ⊢
    · exact Again.mk (i + 1, w64 (w64 (j + 1) + 1)) he (by dsimp only; omega) (Sub.by [] (by simp [hw, pcsE, w64]))
    · exact he
  · rw [List.drop_eq_nil_of_le (show l.length ≤ i by omega), hscan] at he
    simp [he]

set_option maxHeartbeats 1000000 in
theorem heldInodeS_spec (hZ : ZOk Tryz.prog Z) (l : List Nod) (k : Int) (hk : k ≤ 9223372036854775807) : Does Z Tryz.prog G B0 130 [.c (ndsE false l), iA k] [] [] (fun y _ => y = iA (hscan hdNod k l)) := by
  generalize hr : hscan hdNod k l = r
  refine Does.bodyF hZ Tryz.func130 rfl rfl (Nat.le_of_ble_eq_true rfl) fun hf => ?_
  simp [ndsE] at hf
  simp [Tryz.f130, ndsE]
  refine LoopA.run hZ (fun p : Nat × Int => ⟨97, [(0, .c (ndsE false l)), (1, iA p.2), (5, iA p.1)], [], []⟩) (fun p => hscan hdNod p.2 (l.drop p.1) = r ∧ p.2 ≤ 9223372036854775807) (fun p => l.length - p.1) (0, k) ⟨by simpa using hr, hk⟩ (Sub.by [] (by simp [ndsE])) fun ⟨i, j⟩ ⟨he, hj⟩ => ?_
  dsimp only at he hj
  simp [ndsE]
  refine Br.dec (fun h => ?_) (fun h => ?_)
  · have hw := w_inc h hf.1
    have hx : l[i]? = some l[i] := List.getElem?_eq_getElem h
    rw [List.drop_eq_getElem_cons h, hscan, hdNod] at he
    generalize l[i] = x at hx he
    have hle := w64_le
    simp only [w64] at he hle
    simp [hx, ndE, pcsE]
    refine Br.dec (fun h2 => ?_) (fun h2 => ?_) <;> simp [h2, hx, ndE, pcsE] at he ⊢
    rotate_left
    · exact he
    refine Br.dec (fun h3 => ?_) (fun h3 => ?_) <;> simp [h3, hx, ndE, pcsE] at he ⊢
    rotate_left
    · exact he
    refine W_draw hZ hmo 1 7 [(0, []), (0, []), (0, []), (0, []), (0, []), (0, []), (0, [])] (by kernel_rfl) ?_
    simp [hx, ndE, pcsE]
    refine CallD.snapE (markText_spec hZ _ (hle _)) (by simp; rfl) (by simp) ?_
    simp
    refine Br.dec (fun h4 => ?_) (fun h4 => ?_) <;> simp [h4, hx, ndE, pcsE] at he ⊢
    rotate_left
    · exact he
    refine Br.dec (fun h5 => ?_) (fun h5 => ?_) <;> simp [h5, hx, ndE, pcsE] at he ⊢
    rotate_left
    · exact he
    refine Br.dec (fun h6 => ?_) (fun h6 => ?_) <;> simp [h6, hx, ndE, pcsE] at he ⊢
    rotate_left
    · exact he
    refine Br.dec (fun h7 => ?_) (fun h7 => ?_) <;> simp [h7, hx, ndE, pcsE] at he ⊢
    rotate_left
    · exact he
    refine Br.dec (fun h8 => ?_) (fun h8 => ?_) <;> simp [h8, hx, ndE, pcsE] at he ⊢
    rotate_left
    · exact he
    refine CallA.snapE (heldPieceS_spec hZ x.pieces _) (by simp [pcsE]; rfl) (by simp) ?_
    simp
    refine Br.dec (fun h9 => ?_) (fun h9 => ?_) <;> simp [h9, hx, ndE, pcsE] at he ⊢
    · exact he
    refine Br.dec (fun h10 => ?_) (fun h10 => ?_) <;> simp [h10, hx, ndE, pcsE] at he ⊢
    · have he2 : hscan hdNod (IntKind.i64.wrap (x.writer + 1)) (l.drop (i + 1)) = r := by rw [h10]; exact he
      exact Again.mk (i + 1, IntKind.i64.wrap (x.writer + 1)) ⟨he2, hle _⟩ (by dsimp only; omega) (Sub.by [] (by simp [hw, ndsE, h10]))
    · exact he
  · rw [List.drop_eq_nil_of_le (show l.length ≤ i by omega), hscan] at he
    simp [he]

theorem heldTree_spec (hZ : ZOk Tryz.prog Z) (t : Tree) (k : Int) (hk : k ≤ 9223372036854775807) (h0 : 0 ≤ hscan hdNod k t.nodes) : Does Z Tryz.prog G B0 59 [trA false t, iA k] [] [] (fun y _ => y = iA (hscan hdNod k t.nodes)) := by
  refine Does.body hZ Tryz.func59 rfl rfl (Nat.le_of_ble_eq_true rfl) ?_
  simp [Tryz.f59, trA, ndsE]
  refine CallA.snapE (heldInodeS_spec hZ t.nodes k hk) (by simp [ndsE]) (by simp) ?_
  simp
  refine Br.dec (fun h => ?_) (fun h => ?_) <;> simp
  omega
end Go.Proofs.YtbhbkaonlillhaaGreatDoor
