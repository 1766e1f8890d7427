/- Contracts: records right, places of paths, by the reference. -/
import Derived.Test.YtbhbkaonlillhaaGreatDoorCEr
import Derived.Test.YtbhbkaonlillhaaGreatDoorCEs
namespace Go.Proofs.YtbhbkaonlillhaaGreatDoor
open Go Go.Abs Go.Proofs Go.Tm
set_option linter.unusedSimpArgs false
set_option linter.unusedVariables false
set_option maxRecDepth 10000
variable {Z : TypeId → Nat} {G : World → Prop} {B0 : Nat}
/-- Small enough. -/
def SmE (e : Edt) : Prop := e.path.size ≤ 1048576 ∧ e.to.size ≤ 1048576
theorem kinds (k : Int) : (k = 10 ∨ k = 5 ∨ k = 6 ∨ k = 7 ∨ k = 2 ∨ k = 9 ∨ k = 3) ∨ (¬ k = 10 ∧ ¬ k = 5 ∧ ¬ k = 6 ∧ ¬ k = 7 ∧ ¬ k = 2 ∧ ¬ k = 9 ∧ ¬ k = 3) := by omega
set_option maxHeartbeats 4000000 in
theorem EditOk_spec (hZ : ZOk Tryz.prog Z) (e : Edt) (he : SmE e) : Does Z Tryz.prog G B0 47 [edA e] [] [] (fun y _ => y = bA (editB e)) := by
  generalize hr : editB e = r
  refine Does.bodyF hZ Tryz.func47 rfl rfl (Nat.le_of_ble_eq_true rfl) fun hf => ?_
  obtain ⟨kind, path, to, num, who⟩ := e
  unfold SmE at he
  dsimp only at he
  unfold editB at hr
  dsimp only at hr
  rcases kinds kind with (rfl | rfl | rfl | rfl | rfl | rfl | rfl) | hk
  · simp [Tryz.f47, edA, edE]
    have hin : inB 10 1 10 = true := rfl
    refine CallA.snapE (l01In_spec hZ 10 1 10) (by simp) (by simp) ?_
    simp [hin] at hr ⊢
    refine Br.dec (fun p1 => ?_) (fun p1 => ?_) <;> simp [p1] at hr ⊢
    · refine Br.dec (fun p2 => ?_) (fun p2 => ?_) <;> simp [p2] at hr ⊢
      · refine Br.dec (fun p3 => ?_) (fun p3 => ?_) <;> simp [p3] at hr ⊢
        · first | exact hr | (subst hr; rfl) | (subst hr; simp)
        · first | exact hr | (subst hr; rfl) | (subst hr; simp)
      · first | exact hr | (subst hr; rfl) | (subst hr; simp)
    · first | exact hr | (subst hr; rfl) | (subst hr; simp)
  · simp [Tryz.f47, edA, edE]
    have hin : inB 5 1 10 = true := rfl
    refine CallA.snapE (l01In_spec hZ 5 1 10) (by simp) (by simp) ?_
    simp [hin] at hr ⊢
    refine W_draw hZ hmo 2 20 [(2, []), (2, []), (2, []), (3, [2]), (3, [2]), (3, [2]), (3, [2]), (3, [2]), (3, [2]), (3, [2]), (3, [2]), (3, [2]), (3, [2]), (3, [2]), (3, [2]), (3, [2]), (3, [2]), (3, [2]), (3, [2]), (3, [2])] (by kernel_rfl) ?_
    simp
    refine CallD.snapE (l11Named_spec hZ path he.1) (by simp) (by simp) ?_
    simp
    refine Br.bool (fun n1 => ?_) (fun n1 => ?_) <;> simp [n1] at hr ⊢
    · refine CallD.snapE (l11Named_spec hZ to he.2) (by simp) (by simp) ?_
      simp
      refine Br.bool (fun t1 => ?_) (fun t1 => ?_) <;> simp [t1] at hr ⊢
      · first | exact hr | (subst hr; rfl) | (subst hr; simp)
      · refine Br.dec (fun t2 => ?_) (fun t2 => ?_) <;> simp [t2] at hr ⊢
        · refine CallA.snapE (l01In_spec hZ num 1 3) (by simp) (by simp) ?_
          simp
          refine Br.bool (fun q1 => ?_) (fun q1 => ?_) <;> simp [q1] at hr ⊢
          · first | exact hr | (subst hr; rfl) | (subst hr; simp)
          · first | exact hr | (subst hr; rfl) | (subst hr; simp)
        · first | exact hr | (subst hr; rfl) | (subst hr; simp)
    · refine Br.dec (fun n2 => ?_) (fun n2 => ?_) <;> simp [n2] at hr ⊢
      · refine CallD.snapE (l11Named_spec hZ to he.2) (by simp) (by simp) ?_
        simp
        refine Br.bool (fun t1 => ?_) (fun t1 => ?_) <;> simp [t1] at hr ⊢
        · first | exact hr | (subst hr; rfl) | (subst hr; simp)
        · refine Br.dec (fun t2 => ?_) (fun t2 => ?_) <;> simp [t2] at hr ⊢
          · refine CallA.snapE (l01In_spec hZ num 1 3) (by simp) (by simp) ?_
            simp
            refine Br.bool (fun q1 => ?_) (fun q1 => ?_) <;> simp [q1] at hr ⊢
            · first | exact hr | (subst hr; rfl) | (subst hr; simp)
            · first | exact hr | (subst hr; rfl) | (subst hr; simp)
          · first | exact hr | (subst hr; rfl) | (subst hr; simp)
      · first | exact hr | (subst hr; rfl) | (subst hr; simp)
  · simp [Tryz.f47, edA, edE]
    have hin : inB 6 1 10 = true := rfl
    refine CallA.snapE (l01In_spec hZ 6 1 10) (by simp) (by simp) ?_
    simp [hin] at hr ⊢
    refine W_draw hZ hmo 2 20 [(2, []), (2, []), (2, []), (3, [2]), (3, [2]), (3, [2]), (3, [2]), (3, [2]), (3, [2]), (3, [2]), (3, [2]), (3, [2]), (3, [2]), (3, [2]), (3, [2]), (3, [2]), (3, [2]), (3, [2]), (3, [2]), (3, [2])] (by kernel_rfl) ?_
    simp
    refine CallD.snapE (l11Named_spec hZ path he.1) (by simp) (by simp) ?_
    simp
    refine Br.bool (fun n1 => ?_) (fun n1 => ?_) <;> simp [n1] at hr ⊢
    · refine CallD.snapE (l11Named_spec hZ to he.2) (by simp) (by simp) ?_
      simp
      refine Br.bool (fun t1 => ?_) (fun t1 => ?_) <;> simp [t1] at hr ⊢
      · first | exact hr | (subst hr; rfl) | (subst hr; simp)
      · refine Br.dec (fun t2 => ?_) (fun t2 => ?_) <;> simp [t2] at hr ⊢
        · refine CallA.snapE (l01In_spec hZ num 0 1000) (by simp) (by simp) ?_
          simp
          refine Br.bool (fun q1 => ?_) (fun q1 => ?_) <;> simp [q1] at hr ⊢
          · first | exact hr | (subst hr; rfl) | (subst hr; simp)
          · first | exact hr | (subst hr; rfl) | (subst hr; simp)
        · first | exact hr | (subst hr; rfl) | (subst hr; simp)
    · refine Br.dec (fun n2 => ?_) (fun n2 => ?_) <;> simp [n2] at hr ⊢
      · refine CallD.snapE (l11Named_spec hZ to he.2) (by simp) (by simp) ?_
        simp
        refine Br.bool (fun t1 => ?_) (fun t1 => ?_) <;> simp [t1] at hr ⊢
        · first | exact hr | (subst hr; rfl) | (subst hr; simp)
        · refine Br.dec (fun t2 => ?_) (fun t2 => ?_) <;> simp [t2] at hr ⊢
          · refine CallA.snapE (l01In_spec hZ num 0 1000) (by simp) (by simp) ?_
            simp
            refine Br.bool (fun q1 => ?_) (fun q1 => ?_) <;> simp [q1] at hr ⊢
            · first | exact hr | (subst hr; rfl) | (subst hr; simp)
            · first | exact hr | (subst hr; rfl) | (subst hr; simp)
          · first | exact hr | (subst hr; rfl) | (subst hr; simp)
      · first | exact hr | (subst hr; rfl) | (subst hr; simp)
  · simp [Tryz.f47, edA, edE]
    have hin : inB 7 1 10 = true := rfl
    refine CallA.snapE (l01In_spec hZ 7 1 10) (by simp) (by simp) ?_
    simp [hin] at hr ⊢
    refine W_draw hZ hmo 2 20 [(2, []), (2, []), (2, []), (3, [2]), (3, [2]), (3, [2]), (3, [2]), (3, [2]), (3, [2]), (3, [2]), (3, [2]), (3, [2]), (3, [2]), (3, [2]), (3, [2]), (3, [2]), (3, [2]), (3, [2]), (3, [2]), (3, [2])] (by kernel_rfl) ?_
    simp
    refine CallD.snapE (l11Named_spec hZ path he.1) (by simp) (by simp) ?_
    simp
    refine Br.bool (fun n1 => ?_) (fun n1 => ?_) <;> simp [n1] at hr ⊢
    · refine CallD.snapE (l11Named_spec hZ to he.2) (by simp) (by simp) ?_
      simp
      refine Br.bool (fun t1 => ?_) (fun t1 => ?_) <;> simp [t1] at hr ⊢
      · first | exact hr | (subst hr; rfl) | (subst hr; simp)
      · refine Br.dec (fun t2 => ?_) (fun t2 => ?_) <;> simp [t2] at hr ⊢
        · refine CallA.snapE (l01In_spec hZ num 1 200) (by simp) (by simp) ?_
          simp
          refine Br.bool (fun q1 => ?_) (fun q1 => ?_) <;> simp [q1] at hr ⊢
          · first | exact hr | (subst hr; rfl) | (subst hr; simp)
          · first | exact hr | (subst hr; rfl) | (subst hr; simp)
        · first | exact hr | (subst hr; rfl) | (subst hr; simp)
    · first | exact hr | (subst hr; rfl) | (subst hr; simp)
  · simp [Tryz.f47, edA, edE]
    have hin : inB 2 1 10 = true := rfl
    refine CallA.snapE (l01In_spec hZ 2 1 10) (by simp) (by simp) ?_
    simp [hin] at hr ⊢
    refine W_draw hZ hmo 2 20 [(2, []), (2, []), (2, []), (3, [2]), (3, [2]), (3, [2]), (3, [2]), (3, [2]), (3, [2]), (3, [2]), (3, [2]), (3, [2]), (3, [2]), (3, [2]), (3, [2]), (3, [2]), (3, [2]), (3, [2]), (3, [2]), (3, [2])] (by kernel_rfl) ?_
    simp
    refine CallD.snapE (l11Named_spec hZ path he.1) (by simp) (by simp) ?_
    simp
    refine Br.bool (fun n1 => ?_) (fun n1 => ?_) <;> simp [n1] at hr ⊢
    · refine CallD.snapE (l11Named_spec hZ to he.2) (by simp) (by simp) ?_
      simp
      refine Br.bool (fun t1 => ?_) (fun t1 => ?_) <;> simp [t1] at hr ⊢
      · first | exact hr | (subst hr; rfl) | (subst hr; simp)
      · refine Br.dec (fun t2 => ?_) (fun t2 => ?_) <;> simp [t2] at hr ⊢
        · refine Br.dec (fun q1 => ?_) (fun q1 => ?_) <;> simp [q1] at hr ⊢
          · refine CallA.snapE (l01In_spec hZ who 1 9) (by simp) (by simp) ?_
            simp
            first | exact hr | (subst hr; rfl) | (subst hr; simp)
          · first | exact hr | (subst hr; rfl) | (subst hr; simp)
        · first | exact hr | (subst hr; rfl) | (subst hr; simp)
    · first | exact hr | (subst hr; rfl) | (subst hr; simp)
  · simp [Tryz.f47, edA, edE]
    have hin : inB 9 1 10 = true := rfl
    refine CallA.snapE (l01In_spec hZ 9 1 10) (by simp) (by simp) ?_
    simp [hin] at hr ⊢
    refine W_draw hZ hmo 2 20 [(2, []), (2, []), (2, []), (3, [2]), (3, [2]), (3, [2]), (3, [2]), (3, [2]), (3, [2]), (3, [2]), (3, [2]), (3, [2]), (3, [2]), (3, [2]), (3, [2]), (3, [2]), (3, [2]), (3, [2]), (3, [2]), (3, [2])] (by kernel_rfl) ?_
    simp
    refine CallD.snapE (l11Named_spec hZ path he.1) (by simp) (by simp) ?_
    simp
    refine Br.bool (fun n1 => ?_) (fun n1 => ?_) <;> simp [n1] at hr ⊢
    · refine CallD.snapE (l11Named_spec hZ to he.2) (by simp) (by simp) ?_
      simp
      refine Br.bool (fun t1 => ?_) (fun t1 => ?_) <;> simp [t1] at hr ⊢
      · first | exact hr | (subst hr; rfl) | (subst hr; simp)
      · refine Br.dec (fun t2 => ?_) (fun t2 => ?_) <;> simp [t2] at hr ⊢
        · refine Br.dec (fun q1 => ?_) (fun q1 => ?_) <;> simp [q1] at hr ⊢
          · refine CallA.snapE (l01In_spec hZ who 1 9) (by simp) (by simp) ?_
            simp
            first | exact hr | (subst hr; rfl) | (subst hr; simp)
          · first | exact hr | (subst hr; rfl) | (subst hr; simp)
        · first | exact hr | (subst hr; rfl) | (subst hr; simp)
    · first | exact hr | (subst hr; rfl) | (subst hr; simp)
  · simp [Tryz.f47, edA, edE]
    have hin : inB 3 1 10 = true := rfl
    refine CallA.snapE (l01In_spec hZ 3 1 10) (by simp) (by simp) ?_
    simp [hin] at hr ⊢
    refine W_draw hZ hmo 2 20 [(2, []), (2, []), (2, []), (3, [2]), (3, [2]), (3, [2]), (3, [2]), (3, [2]), (3, [2]), (3, [2]), (3, [2]), (3, [2]), (3, [2]), (3, [2]), (3, [2]), (3, [2]), (3, [2]), (3, [2]), (3, [2]), (3, [2])] (by kernel_rfl) ?_
    simp
    refine CallD.snapE (l11Named_spec hZ path he.1) (by simp) (by simp) ?_
    simp
    refine Br.bool (fun n1 => ?_) (fun n1 => ?_) <;> simp [n1] at hr ⊢
    · refine CallD.snapE (l11Named_spec hZ to he.2) (by simp) (by simp) ?_
      simp
      refine Br.bool (fun t1 => ?_) (fun t1 => ?_) <;> simp [t1] at hr ⊢
      · refine Br.dec (fun q1 => ?_) (fun q1 => ?_) <;> simp [q1] at hr ⊢
        · first | exact hr | (subst hr; rfl) | (subst hr; simp)
        · first | exact hr | (subst hr; rfl) | (subst hr; simp)
      · first | exact hr | (subst hr; rfl) | (subst hr; simp)
    · first | exact hr | (subst hr; rfl) | (subst hr; simp)
  · simp [Tryz.f47, edA, edE, hk]
    refine CallA.snapE (l01In_spec hZ kind 1 10) (by simp) (by simp) ?_
    simp
    refine Br.bool (fun i1 => ?_) (fun i1 => ?_) <;> simp [hk, i1] at hr ⊢
    · refine W_draw hZ hmo 2 20 [(2, []), (2, []), (2, []), (3, [2]), (3, [2]), (3, [2]), (3, [2]), (3, [2]), (3, [2]), (3, [2]), (3, [2]), (3, [2]), (3, [2]), (3, [2]), (3, [2]), (3, [2]), (3, [2]), (3, [2]), (3, [2]), (3, [2])] (by kernel_rfl) ?_
      simp [hk]
      refine CallD.snapE (l11Named_spec hZ path he.1) (by simp) (by simp) ?_
      simp
      refine Br.bool (fun n1 => ?_) (fun n1 => ?_) <;> simp [hk, n1] at hr ⊢
      · refine CallD.snapE (l11Named_spec hZ to he.2) (by simp) (by simp) ?_
        simp
        refine Br.bool (fun t1 => ?_) (fun t1 => ?_) <;> simp [hk, t1] at hr ⊢
        · first | exact hr | (subst hr; rfl) | (subst hr; simp)
        · refine Br.dec (fun t2 => ?_) (fun t2 => ?_) <;> simp [hk, t2] at hr ⊢
          · refine Br.dec (fun q1 => ?_) (fun q1 => ?_) <;> simp [hk, q1] at hr ⊢
            · first | exact hr | (subst hr; rfl) | (subst hr; simp)
            · first | exact hr | (subst hr; rfl) | (subst hr; simp)
          · first | exact hr | (subst hr; rfl) | (subst hr; simp)
      · first | exact hr | (subst hr; rfl) | (subst hr; simp)
    · first | exact hr | (subst hr; rfl) | (subst hr; simp)
theorem FindPath_spec (hZ : ZOk Tryz.prog Z) (t : Tree) (p : ByteArray) (hp : p.size ≤ 1048576) : Does Z Tryz.prog G B0 37 [trA false t, sA p] [] [] (fun y _ => y = iA (findP t p)) := by
  refine Does.bodyF hZ Tryz.func37 rfl rfl (Nat.le_of_ble_eq_true rfl) fun hf => ?_
  simp [trA, ndsE] at hf
  simp [Tryz.f37, trA, ndsE]
  refine CallA.snapE (SplitPath_spec hZ p hp) (by simp) (by simp [strsE, noShrLL_mem]) ?_
  unfold findP
  cases hs : splitP p with
  | none => simp [strsE]
  | some ls =>
    simp [strsE]
    have hls := splitP_ok hs
    refine CallA.snapE (l10At_spec hZ t 1) (by simp [trA, ndsE]) (by simp) ?_
    simp
    refine Br.dec (fun h1 => ?_) (fun h1 => ?_) <;> simp [h1]
    generalize hr : findF t.nodes ls 1 = r
    refine LoopA.run hZ (fun q : Nat × Int => ⟨71, [(2, .ptr [(0, 0)]), (5, .bor [(1, 0)] 0 ls.length), (7, iA q.2), (8, iA q.1)], [[ndsE false t.nodes, iC t.next], [strsE true ls]], [true, false]⟩) (fun q => q.1 ≤ ls.length ∧ findF t.nodes (ls.drop q.1) q.2 = r) (fun q => ls.length - q.1) (0, 1) (by simpa using hr) (Sub.by [0, 1] (by simp [ndsE, strsE])) fun ⟨i, id⟩ ⟨hi, he⟩ => ?_
    dsimp only at hi he
    simp [ndsE, strsE]
    refine Br.dec (fun h => ?_) (fun h => ?_)
    · have hy : ls[i]? = some ls[i] := List.getElem?_eq_getElem h
      have hw : IntKind.i64.wrap ((i : Int) + 1) = ((i + 1 : Nat) : Int) := wrap_i64 (by omega)
      rw [List.drop_eq_getElem_cons h, findF] at he
      simp
      generalize hv : kidF t.nodes id ls[i] 0 = v
      rw [hv] at he
      refine LoopA.run hZ (fun q : Nat × Int => ⟨71, [(2, .ptr [(0, 0)]), (5, .bor [(1, 0)] 0 ls.length), (7, iA id), (8, iA i), (9, iA q.2), (10, iA q.1)], [[ndsE false t.nodes, iC t.next], [strsE true ls]], [true, false]⟩) (fun q => q.1 ≤ t.nodes.length ∧ kidF (t.nodes.drop q.1) id ls[i] q.2 = v) (fun q => t.nodes.length - q.1) (0, 0) (by simpa using hv) (Sub.by [0, 1] (by simp [ndsE, strsE])) fun ⟨k, nx⟩ ⟨hk, hn⟩ => ?_
      dsimp only at hk hn
      simp [ndsE, strsE]
      refine Br.dec (fun h2 => ?_) (fun h2 => ?_)
      · have hx : t.nodes[k]? = some t.nodes[k] := List.getElem?_eq_getElem h2
        have hw2 := w_inc h2 hf.1.1
        rw [List.drop_eq_getElem_cons h2, kidF, List.foldl_cons] at hn
        generalize t.nodes[k] = x at hx hn
        refine W_draw hZ hmo 0 19 [(2, []), (2, []), (2, []), (2, []), (2, []), (2, []), (2, []), (2, []), (2, []), (2, []), (2, []), (2, []), (2, []), (2, []), (2, []), (2, []), (2, []), (2, []), (2, [])] (by kernel_rfl) ?_
        simp [hx, ndE, pcsE]
        refine Br.dec (fun h3 => ?_) (fun h3 => ?_) <;> simp [h3, hx, hy, h, ndE, pcsE] at hn ⊢
        · refine Br.dec (fun h4 => ?_) (fun h4 => ?_) <;> simp [h4, hx, hy, h, ndE, pcsE] at hn ⊢
          · refine Br.dec (fun h5 => ?_) (fun h5 => ?_) <;> simp [h5, hx, hy, h, ndE, pcsE] at hn ⊢
            · exact Again.mk (k + 1, x.id) ⟨by dsimp only; omega, hn⟩ (by dsimp only; omega) (Sub.by [0, 1] (by simp [hw2, ndsE, strsE]))
            · exact Again.mk (k + 1, nx) ⟨by dsimp only; omega, hn⟩ (by dsimp only; omega) (Sub.by [0, 1] (by simp [hw2, ndsE, strsE]))
          · exact Again.mk (k + 1, nx) ⟨by dsimp only; omega, hn⟩ (by dsimp only; omega) (Sub.by [0, 1] (by simp [hw2, ndsE, strsE]))
        · exact Again.mk (k + 1, nx) ⟨by dsimp only; omega, hn⟩ (by dsimp only; omega) (Sub.by [0, 1] (by simp [hw2, ndsE, strsE]))
      · rw [List.drop_eq_nil_of_le (show t.nodes.length ≤ k by omega), kidF, List.foldl_nil] at hn
        subst hn
        simp
        refine Br.dec (fun h3 => ?_) (fun h3 => ?_) <;> simp [h3] at he ⊢
        · exact he
        · exact Again.mk (i + 1, nx) ⟨by dsimp only; omega, he⟩ (by dsimp only; omega) (Sub.by [0, 1] (by simp [hw, ndsE, strsE]))
    · rw [List.drop_eq_nil_of_le (show ls.length ≤ i by omega), findF] at he
      subst he
      simp
end Go.Proofs.YtbhbkaonlillhaaGreatDoor
