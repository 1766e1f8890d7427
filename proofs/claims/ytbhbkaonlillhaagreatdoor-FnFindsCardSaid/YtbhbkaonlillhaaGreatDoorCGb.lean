/- Contracts: paths of nodes, by the program. -/
import Derived.Test.YtbhbkaonlillhaaGreatDoorCFb
import Derived.Test.YtbhbkaonlillhaaGreatDoorCGa
namespace Go.Proofs.YtbhbkaonlillhaaGreatDoor
open Go Go.Abs Go.Proofs Go.Tm
set_option linter.unusedSimpArgs false
set_option linter.unusedVariables false
set_option maxRecDepth 10000
variable {Z : TypeId → Nat} {G : World → Prop} {B0 : Nat}
theorem iPathOf_spec (hZ : ZOk Tryz.prog Z) (t : Tree) (id : Int) : Does Z Tryz.prog G B0 54 [trA false t, iA id] [] [] (fun y _ => y = sA (pathP t id)) := by
  generalize hr : pathP t id = r
  refine Does.bodyF hZ Tryz.func54 rfl rfl (Nat.le_of_ble_eq_true rfl) fun hf => ?_
  simp [trA, ndsE] at hf
  simp [Tryz.f54, trA, ndsE]
  refine CallA.snapE (iTreeOk_spec hZ t) (by simp [trA, ndsE]) (by simp) ?_
  simp
  refine Br.bool (fun h1 => ?_) (fun h1 => ?_) <;> simp [h1]
  rotate_left
  · rw [← hr]; simp [pathP, h1]
  have hp := pinv_zero h1 id
  rw [hr] at hp
  refine CallA.snapE (nodeAt_spec hZ t id) (by simp [trA, ndsE]) (by simp) ?_
  rcases atI_spec t.nodes id with ⟨g1, g2, _⟩ | ⟨k, q, gq, g1, gid, g2, _⟩
  · have e : r = ⟨#[]⟩ := by rw [← hr, path_none g2]
    simp [g1, e]
  have hk0 : ¬ ((k : Int) < 0) := by omega
  simp [g1, hk0]
  have hpu : ∃ ns, Up t.nodes ns id ∧ 0 + ns.length ≤ 4 ∧ joinP (ns.reverse ++ []) = r := by
    rcases hp.2.2.2 with ⟨e, _⟩ | h
    · rw [g2] at e; cases e
    · exact h
  refine LoopA.run hZ (fun p : Nat × Int × List ByteArray => ⟨34, [(1, iA p.2.1), (2, .ptr [(0, 0)]), (5, .bor [(1, 0)] 0 p.2.2.length)], [[ndsE false t.nodes, iC t.next], [strsE true p.2.2]], [true, false]⟩) (fun p => p.1 ≤ 4 ∧ PInv t r p.1 p.2.1 p.2.2 ∧ ∃ ns, Up t.nodes ns p.2.1) (fun p => 15 - p.1) (0, id, []) ⟨by omega, hp, hpu.imp fun _ h => h.1⟩ ((Sub.nil 5 9 rfl).trans (Sub.by [0, 3] (by simp [ndsE, strsE]))) fun ⟨n, id, o⟩ ⟨hn4, hi, hup⟩ => ?_
  dsimp only at hn4 hi hup
  have hol := hi.2.1
  simp [ndsE, strsE]
  refine Br.dec (fun h2 => ?_) (fun h2 => ?_) <;> simp [h2]
  · refine CallA.snapE (iJoinPath_spec hZ o (pinv_small hol (by omega) hi.2.2.1)) (by simp [strsE]) (by simp) ?_
    simp [pinv_end hi h2]
  · rcases pinv_step h1 hi h2 with ⟨g1, e⟩ | ⟨k, q, gq, g1, hi2, hn3⟩
    · exfalso
      obtain ⟨ns, hu⟩ := hup
      obtain ⟨x, hx, _⟩ := up_nd (okT_iff.1 h1) hu
      rcases atI_spec t.nodes id with ⟨_, g2, _⟩ | ⟨k, _, _, g3, _⟩
      · rw [hx] at g2; cases g2
      · omega
    have hup2 : ∃ ns, Up t.nodes ns q.parent := by
      rcases hi2.2.2.2 with ⟨e, _⟩ | ⟨ns, hu, _⟩
      · exfalso
        obtain ⟨ns, hu⟩ := hup
        cases ns with
        | nil => exact h2 hu
        | cons nm ns =>
          obtain ⟨_, x, hx, _, hu2⟩ := hu
          rcases atI_spec t.nodes id with ⟨g3, _⟩ | ⟨k3, q3, gq3, g3, _, g4, _⟩
          · omega
          · have : k3 = k := by omega
            subst this
            rw [gq] at gq3; cases gq3
            rw [hx] at g4; cases g4
            obtain ⟨z, hz, _⟩ := up_nd (okT_iff.1 h1) hu2
            rw [e] at hz; cases hz
      · exact ⟨ns, hu⟩
    refine W_drawB hZ hmo 2 rfl 2 8 [(2, []), (2, []), (2, []), (2, []), (2, []), (3, [2]), (3, [2]), (3, [])] (by kernel_rfl) ?_
    simp
    refine CallD.snapE (nodeAt_spec hZ t id) (by simp [trA, ndsE]) (by simp) ?_
    simp [g1, gq, ndE, pcsE]
    refine Need.mk ⟨by omega, by omega⟩ ?_
    simp
    exact Again.mk (n + 1, q.parent, q.name :: o) ⟨by dsimp only; omega, hi2, hup2⟩ (by dsimp only; omega) (Sub.by [0, 5] (by simp [ndsE, strsE]; omega))
end Go.Proofs.YtbhbkaonlillhaaGreatDoor
