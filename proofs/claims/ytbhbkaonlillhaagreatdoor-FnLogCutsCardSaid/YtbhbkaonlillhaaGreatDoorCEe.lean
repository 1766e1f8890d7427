/- Contracts: right nodes, right trees. -/
import Derived.Test.YtbhbkaonlillhaaGreatDoorCEd
namespace Go.Proofs.YtbhbkaonlillhaaGreatDoor
open Go Go.Abs Go.Proofs Go.Tm
set_option linter.unusedSimpArgs false
set_option linter.unusedVariables false
set_option maxRecDepth 10000
variable {Z : TypeId → Nat} {G : World → Prop} {B0 : Nat}

theorem gs_le (c : Int) : 0 ≤ gs c ∧ gs c ≤ 32 := by unfold gs; split <;> (try split) <;> (try split) <;> omega
theorem all_take {α : Type} {p : α → Bool} {l : List α} {i : Nat} {x : α} (h : (l.take i).all p = true) (hx : l[i]? = some x) (hp : p x = true) : (l.take (i + 1)).all p = true := by
  rw [List.take_add_one, List.all_append, h, hx]; simp [hp]
theorem all_no {α : Type} {p : α → Bool} {l : List α} {i : Nat} {x : α} (hx : l[i]? = some x) (hp : p x = false) : l.all p = false := by
  rw [List.all_eq_false]; exact ⟨x, List.mem_of_getElem? hx, by simp [hp]⟩
theorem psum_take {l : List Pc} {i : Nat} {x : Pc} (hx : l[i]? = some x) : psum (l.take (i + 1)) = psum (l.take i) + x.len := by
  rw [List.take_add_one, psum_app, hx]; simp [psum]
theorem psum_le {g : Int} (hg : g ≤ 32) : ∀ {q : List Pc}, q.all (pcB g) = true → 0 ≤ psum q ∧ psum q ≤ 32 * q.length
  | [], _ => by simp [psum]
  | p :: r, h => by
    simp only [List.all_cons, Bool.and_eq_true, pcB, inB_iff] at h
    have := psum_le hg (q := r) (by simpa [pcB, inB] using h.2)
    simp only [psum, List.length_cons]; omega

theorem l10File_spec (hZ : ZOk Tryz.prog Z) (x : Nod) : Does Z Tryz.prog G B0 215 [ndA false x] [] [] (fun y _ => y = bA (fileB x)) := by
  refine Does.bodyF hZ Tryz.func215 rfl rfl (Nat.le_of_ble_eq_true rfl) fun hf => ?_
  simp [ndA, ndE, pcsE] at hf
  simp [Tryz.f215, ndA, ndE, pcsE]
  refine CallA.snapE (l01In_spec hZ x.schema 1 3) (by simp) (by simp) ?_
  simp
  refine Br.bool (fun h1 => ?_) (fun h1 => ?_) <;> simp [h1, fileB]
  refine Br.dec (fun h2 => ?_) (fun h2 => ?_) <;> simp [h1, h2, fileB]
  refine Br.dec (fun h3 => ?_) (fun h3 => ?_) <;> simp [h1, h2, h3, fileB]
  · omega
  refine CallA.snapE (l01In_spec hZ x.writer 0 9) (by simp) (by simp) ?_
  simp
  refine Br.bool (fun h4 => ?_) (fun h4 => ?_) <;> simp [h1, h2, h3, h4, fileB]
  refine LoopA.run hZ (fun i : Nat => ⟨70, [(1, .ptr [(0, 0)]), (3, iA (psum (x.pieces.take i))), (4, iA i)], [ndE false x], [true]⟩) (fun i => (x.pieces.take i).all (pcB (gs x.schema)) = true) (fun i => x.pieces.length - i) 0 (by simp) (Sub.by [0] (by simp [ndE, pcsE, psum, h2])) fun i hi => ?_
  simp [ndE, pcsE, h2]
  refine Br.dec (fun h => ?_) (fun h => ?_)
  · have hx : x.pieces[i]? = some x.pieces[i] := List.getElem?_eq_getElem h
    have hw : IntKind.i64.wrap ((i : Int) + 1) = ((i + 1 : Nat) : Int) := wrap_i64 (by omega)
    have hb := psum_le (gs_le x.schema).2 hi
    have hbl : (x.pieces.take i).length ≤ 40 := by simp; omega
    refine W_draw hZ hmo 2 18 [(1, []), (1, []), (1, []), (1, []), (1, []), (1, []), (1, []), (2, [1]), (2, [1]), (2, [1]), (2, [1]), (2, [1]), (2, [1]), (2, [1]), (2, [1]), (2, [1]), (2, [1]), (2, [1])] (by kernel_rfl) ?_
    simp [hx, pcE]
    refine CallD.snapE (l01In_spec hZ x.pieces[i].group 1 100000) (by simp) (by simp) ?_
    simp
    refine Br.bool (fun h5 => ?_) (fun h5 => ?_)
    · simp [h5, hx, pcE]
      refine CallD.snapE (GroupSize_spec hZ x.schema) (by simp) (by simp) ?_
      simp
      refine CallA.snapE (l01In_spec hZ x.pieces[i].len 1 (gs x.schema)) (by simp) (by simp) ?_
      simp
      refine Br.bool (fun h6 => ?_) (fun h6 => ?_)
      · have hl : x.pieces[i].len ≤ 32 ∧ 1 ≤ x.pieces[i].len := by rw [inB_iff] at h6; have := gs_le x.schema; omega
        have hw2 : IntKind.i64.wrap (psum (x.pieces.take i) + x.pieces[i].len) = psum (x.pieces.take i) + x.pieces[i].len := wrap_i64 (by omega)
        simp [h6, hx, pcE]
        exact Again.mk (i + 1) (all_take hi hx (by simp [pcB, h5, h6])) (by omega) (Sub.by [0] (by simp [hw, hw2, ndE, pcsE, psum_take hx, h2]))
      · simp [h6, all_no hx (show pcB (gs x.schema) x.pieces[i] = false by simp [pcB, h6])]
    · simp [h5, all_no hx (show pcB (gs x.schema) x.pieces[i] = false by simp [pcB, h5])]
  · rw [List.take_of_length_le (by omega)] at hi ⊢
    simp [hi]
    refine Br.dec (fun h5 => ?_) (fun h5 => ?_) <;> simp [h5]
    intro _; omega

theorem piecesOk_spec (hZ : ZOk Tryz.prog Z) (x : Nod) : Does Z Tryz.prog G B0 175 [ndA false x] [] [] (fun y _ => y = bA (decide (x.pieces.length ≤ 40) && x.pieces.all (pcB (gs x.schema)) && decide (psum x.pieces = x.len) && decide (psum x.pieces ≤ 1000))) := by
  refine Does.bodyF hZ Tryz.func175 rfl rfl (Nat.le_of_ble_eq_true rfl) fun hf => ?_
  simp [ndA, ndE, pcsE] at hf
  simp [Tryz.f175, ndA, ndE, pcsE]
  refine LoopA.run hZ (fun i : Nat => ⟨45, [(1, .ptr [(0, 0)]), (3, iA (w64 (psum (x.pieces.take i)))), (7, .c (pcsE false x.pieces)), (8, iA x.pieces.length), (9, iA i)], [ndE false x], [true]⟩) (fun i => (x.pieces.take i).all (pcB (gs x.schema)) = true) (fun i => x.pieces.length - i) 0 (by simp) (Sub.by [0] (by simp [ndE, pcsE, psum]; rfl)) fun i hi => ?_
  simp [ndE, pcsE]
  refine Br.dec (fun h => ?_) (fun h => ?_)
  · have hx : x.pieces[i]? = some x.pieces[i] := List.getElem?_eq_getElem h
    have hw := w_inc h hf.2.1
    have hw2 : IntKind.i64.wrap (w64 (psum (x.pieces.take i)) + x.pieces[i].len) = w64 (psum (x.pieces.take (i + 1))) := by rw [psum_take hx]; exact w64_add _ _
    simp [hx, pcE]
    refine W_draw hZ hmo 2 10 [(2, []), (2, []), (2, []), (3, [2]), (3, [2]), (3, [2]), (3, [2]), (3, [2]), (3, [2]), (3, [2])] (by kernel_rfl) ?_
    simp
    refine CallD.snapE (within_spec hZ x.pieces[i].group 1 100000) (by simp) (by simp) ?_
    simp
    refine Br.bool (fun h5 => ?_) (fun h5 => ?_)
    · simp [h5]
      refine CallD.snapE (iGroupSize_spec hZ x.schema) (by simp) (by simp) ?_
      simp
      refine CallA.snapE (within_spec hZ x.pieces[i].len 1 (gs x.schema)) (by simp) (by simp) ?_
      simp
      refine Br.bool (fun h6 => ?_) (fun h6 => ?_)
      · simp [h6]
        exact Again.mk (i + 1) (all_take hi hx (by simp [pcB, h5, h6])) (by omega) (Sub.by [0] (by simp [hw, hw2, ndE, pcsE]))
      · simp [h6, all_no hx (show pcB (gs x.schema) x.pieces[i] = false by simp [pcB, h6])]
    · simp [h5, all_no hx (show pcB (gs x.schema) x.pieces[i] = false by simp [pcB, h5])]
  · rw [List.take_of_length_le (by omega)] at hi ⊢
    have hb := psum_le (gs_le x.schema).2 hi
    simp [hi]
    refine Br.dec (fun h5 => ?_) (fun h5 => ?_) <;> simp [h5]
    · have hw : w64 (psum x.pieces) = psum x.pieces := w64_sm (by omega)
      rw [hw]
      refine Br.dec (fun h6 => ?_) (fun h6 => ?_) <;> simp [h6]
      · intros; omega
      · intros; omega
    · intros; omega

theorem inodeOk_spec (hZ : ZOk Tryz.prog Z) (x : Nod) : Does Z Tryz.prog G B0 116 [ndA false x] [] [] (fun y _ => y = bA (ndB x)) := by
  refine Does.body hZ Tryz.func116 rfl rfl (Nat.le_of_ble_eq_true rfl) ?_
  simp [Tryz.f116, ndA, ndE, pcsE]
  refine Br.bool (fun h0 => ?_) (fun h0 => ?_) <;> simp [h0, ndB, dirB, fileB]
  · refine CallA.snapE (within_spec hZ x.schema 0 3) (by simp) (by simp) ?_
    simp
    refine Br.bool (fun h1 => ?_) (fun h1 => ?_) <;> simp [h1]
    refine CallA.snapE (within_spec hZ x.quota 0 1000) (by simp) (by simp) ?_
    simp
    refine Br.bool (fun h2 => ?_) (fun h2 => ?_) <;> simp [h2]
    refine Br.dec (fun h3 => ?_) (fun h3 => ?_) <;> simp [h3]
    refine Br.dec (fun h4 => ?_) (fun h4 => ?_) <;> simp [h4]
  · refine CallA.snapE (within_spec hZ x.schema 1 3) (by simp) (by simp) ?_
    simp
    refine Br.bool (fun h1 => ?_) (fun h1 => ?_) <;> simp [h1]
    refine Br.dec (fun h2 => ?_) (fun h2 => ?_) <;> simp [h2]
    refine CallA.snapE (within_spec hZ x.writer 0 9) (by simp) (by simp) ?_
    simp
    refine Br.bool (fun h3 => ?_) (fun h3 => ?_) <;> simp [h3]
    refine CallA.snapE (piecesOk_spec hZ x) (by simp [ndA, ndE, pcsE, h2, h0]) (by simp) ?_
    simp

theorem reaches_spec (hZ : ZOk Tryz.prog Z) (t : Tree) (x : Nod) : Does Z Tryz.prog G B0 118 [trA false t, ndA false x] [] [] (fun y _ => y = bA (reachI t.nodes 4 x.parent)) := by
  generalize hr : reachI t.nodes 4 x.parent = r
  refine Does.bodyF hZ Tryz.func118 rfl rfl (Nat.le_of_ble_eq_true rfl) fun hf => ?_
  simp [trA, ndsE, ndA, ndE, pcsE] at hf
  simp [Tryz.f118, trA, ndsE, ndA, ndE, pcsE]
  refine LoopA.run hZ (fun p : Nat × Nod => ⟨34, [(2, .ptr [(0, 0)]), (3, .ptr [(1, 0)]), (5, iA p.1)], [[ndsE false t.nodes, iC t.next], ndE false p.2], [true, true]⟩) (fun p => p.1 ≤ 4 ∧ reachI t.nodes (4 - p.1) p.2.parent = r) (fun p => 4 - p.1) (0, x) ⟨Nat.zero_le _, hr⟩ (Sub.by [0, 1] (by simp [ndsE, ndE, pcsE])) fun ⟨i, z⟩ ⟨hi, he⟩ => ?_
  dsimp only at hi he
  simp [ndsE, ndE, pcsE]
  refine Br.dec (fun h => ?_) (fun h => ?_)
  · have hw : IntKind.i64.wrap ((i : Int) + 1) = ((i + 1 : Nat) : Int) := wrap_i64 (by omega)
    obtain ⟨m, hm⟩ : ∃ m, 4 - i = m + 1 := ⟨3 - i, by omega⟩
    rw [hm, reachI] at he
    simp
    refine CallA.snapE (nodeAt_spec hZ t z.parent) (by simp [trA, ndsE]) (by simp) ?_
    rcases atI_spec t.nodes z.parent with ⟨h1, h2, _⟩ | ⟨k, y, hy, h1, hid, h2, _⟩
    · rw [h2] at he
      dsimp only at he
      subst he
      simp [h1]
    · rw [h2] at he
      dsimp only at he
      have hk0 : ¬ ((k : Int) < 0) := by omega
      simp [h1, hy, hk0, ndE, pcsE]
      refine Br.bool (fun h3 => ?_) (fun h3 => ?_) <;> simp [h3, hy, ndE, pcsE] at he ⊢
      · refine Br.dec (fun h4 => ?_) (fun h4 => ?_) <;> simp [h4] at he ⊢
        · exact he
        · exact Again.mk (i + 1, y) ⟨by dsimp only; omega, by dsimp only; rw [show 4 - (i + 1) = m by omega]; exact he⟩ (by dsimp only; omega) (Sub.by [0, 1] (by simp [hw, ndE, ndsE, pcsE, h3]))
      · exact he
  · rw [show 4 - i = 0 by omega, reachI] at he
    subst he
    simp
end Go.Proofs.YtbhbkaonlillhaaGreatDoor
