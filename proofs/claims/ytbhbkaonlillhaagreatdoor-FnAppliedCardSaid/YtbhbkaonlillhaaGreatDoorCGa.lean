/- Contracts: paths of nodes, by the reference. -/
import Derived.Test.YtbhbkaonlillhaaGreatDoorCEq
import Derived.Test.YtbhbkaonlillhaaGreatDoorTn
namespace Go.Proofs.YtbhbkaonlillhaaGreatDoor
open Go Go.Abs Go.Proofs Go.Tm
set_option linter.unusedSimpArgs false
set_option linter.unusedVariables false
set_option maxRecDepth 10000
variable {Z : TypeId → Nat} {G : World → Prop} {B0 : Nat}
/-- The names behind a step of the way up. -/
def PInv (t : Tree) (r : ByteArray) (n : Nat) (id : Int) (o : List ByteArray) : Prop := n ≤ 15 ∧ o.length ≤ n ∧ Nms o ∧ ((nd t.nodes id = none ∧ id ≠ 1 ∧ r = ⟨#[]⟩) ∨ ∃ ns, Up t.nodes ns id ∧ n + ns.length ≤ 4 ∧ joinP (ns.reverse ++ o) = r)
theorem pinv_zero {t : Tree} (h : okT t.nodes t.next = true) (id : Int) : PInv t (pathP t id) 0 id [] := by
  refine ⟨by omega, by simp, by simp [Nms], ?_⟩
  have H := okT_iff.1 h
  cases hn : nd t.nodes id with
  | none =>
    refine .inl ⟨rfl, ?_, path_none hn⟩
    rintro rfl
    obtain ⟨r, _, h1, _⟩ := H.rootNd
    rw [hn] at h1; cases h1
  | some x =>
    obtain ⟨hm, hid⟩ := nd_mem hn
    obtain ⟨ns, hu, hl, _⟩ := H.names hm
    rw [hid] at hu
    exact .inr ⟨ns, hu, by omega, by rw [path_up h hu]; simp⟩
theorem pinv_end {t : Tree} {r : ByteArray} {n : Nat} {id : Int} {o : List ByteArray} (hi : PInv t r n id o) (h : id = 1) : joinP o = r := by
  rcases hi.2.2.2 with ⟨_, h1, _⟩ | ⟨ns, hu, _, he⟩
  · exact absurd h h1
  · cases ns with
    | nil => simpa using he
    | cons x ns => exact absurd h hu.1
theorem pinv_small {o : List ByteArray} {n : Nat} (h1 : o.length ≤ n) (h2 : n ≤ 15) (h : Nms o) : o.length ≤ 1000 ∧ ∀ x ∈ o, x.size ≤ 1000 := by
  refine ⟨by omega, fun x hx => ?_⟩
  have := h x hx
  unfold nmB at this
  rw [Bool.and_eq_true, inB_iff] at this
  omega
theorem pinv_step {t : Tree} (h : okT t.nodes t.next = true) {r : ByteArray} {n : Nat} {id : Int} {o : List ByteArray} (hi : PInv t r n id o) (h1 : id ≠ 1) : (atI t.nodes id = -1 ∧ r = ⟨#[]⟩) ∨ ∃ (k : Nat) (q : Nod), t.nodes[k]? = some q ∧ atI t.nodes id = (k : Int) ∧ PInv t r (n + 1) q.parent (q.name :: o) ∧ n ≤ 3 := by
  have H := okT_iff.1 h
  obtain ⟨i1, i2, i3, i4⟩ := hi
  rcases atI_spec t.nodes id with ⟨g1, g2, _⟩ | ⟨k, q, gq, g1, gid, g2, _⟩
  · rcases i4 with ⟨_, _, e⟩ | ⟨ns, hu, _, _⟩
    · exact .inl ⟨g1, e⟩
    · obtain ⟨x, hx, _⟩ := up_nd H hu
      rw [g2] at hx; cases hx
  · rcases i4 with ⟨e, _⟩ | ⟨ns, hu, hl, he⟩
    · rw [g2] at e; cases e
    · cases ns with
      | nil => exact absurd hu h1
      | cons nm ns =>
        have hnm := (up_len H hu).2 nm (by simp)
        obtain ⟨_, x, hx, hxn, hu2⟩ := hu
        rw [g2] at hx
        cases hx
        simp at hl
        refine .inr ⟨k, q, gq, g1, ⟨by omega, by simpa using i2, ?_, .inr ⟨ns, hu2, by omega, ?_⟩⟩, by omega⟩
        · intro y hy
          rcases List.mem_cons.1 hy with rfl | hy
          · rw [hxn]; exact hnm
          · exact i3 y hy
        · rw [hxn, ← he]; simp
theorem PathOf_spec (hZ : ZOk Tryz.prog Z) (t : Tree) (id : Int) : Does Z Tryz.prog G B0 45 [trA false t, iA id] [] [] (fun y _ => y = sA (pathP t id)) := by
  generalize hr : pathP t id = r
  refine Does.bodyF hZ Tryz.func45 rfl rfl (Nat.le_of_ble_eq_true rfl) fun hf => ?_
  simp [trA, ndsE] at hf
  simp [Tryz.f45, trA, ndsE]
  refine CallA.snapE (TreeOk_spec hZ t) (by simp [trA, ndsE]) (by simp) ?_
  simp
  refine Br.bool (fun h1 => ?_) (fun h1 => ?_) <;> simp [h1]
  rotate_left
  · rw [← hr]; simp [pathP, h1]
  have hp := pinv_zero h1 id
  rw [hr] at hp
  obtain ⟨r0, _, _, hr1, _⟩ := (okT_iff.1 h1).rootNd
  refine LoopA.run hZ (fun p : Nat × Int × List ByteArray => ⟨45, [(1, iA p.2.1), (2, .ptr [(0, 0)]), (5, .bor [(1, 0)] 0 p.2.2.length), (6, iA p.1)], [[ndsE false t.nodes, iC t.next], [strsE true p.2.2]], [true, false]⟩) (fun p => PInv t r p.1 p.2.1 p.2.2 ∧ p.1 ≤ 4) (fun p => 15 - p.1) (0, id, []) ⟨hp, by omega⟩ (Sub.by [0, 2] (by simp [ndsE, strsE])) fun ⟨n, id, o⟩ ⟨hi, hn4⟩ => ?_
  dsimp only at hi hn4
  have hn15 := hi.1
  have hol := hi.2.1
  simp [ndsE, strsE]
  refine Br.dec (fun h => ?_) (fun h => ?_)
  rotate_left
  · exfalso
    omega
  have hw : IntKind.i64.wrap ((n : Int) + 1) = ((n + 1 : Nat) : Int) := wrap_i64 (by omega)
  simp
  refine Br.dec (fun h2 => ?_) (fun h2 => ?_) <;> simp [h2]
  · refine CallA.snapE (l10At_spec hZ t 1) (by simp [trA, ndsE]) (by simp) ?_
    simp [hr1]
    refine CallA.snapE (JoinPath_spec hZ o (pinv_small hol hn15 hi.2.2.1)) (by simp [strsE]) (by simp) ?_
    simp [pinv_end hi h2]
  · refine CallA.snapE (l10At_spec hZ t id) (by simp [trA, ndsE]) (by simp) ?_
    rcases pinv_step h1 hi h2 with ⟨g1, e⟩ | ⟨k, q, gq, g1, hi2, hn3⟩
    · simp [g1, e]
    have hk0 : ¬ ((k : Int) < 0) := by omega
    simp [g1, gq, hk0, ndE, pcsE]
    refine Need.mk ⟨by omega, by omega⟩ ?_
    simp [gq, ndE, pcsE]
    exact Again.mk (n + 1, q.parent, q.name :: o) ⟨hi2, by dsimp only; omega⟩ (by dsimp only; omega) (Sub.by [0, 4] (by simp [hw, ndsE, strsE]; omega))
end Go.Proofs.YtbhbkaonlillhaaGreatDoor
