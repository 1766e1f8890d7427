/- Contracts: places of paths, copies, spans, by the program. -/
import Derived.Test.YtbhbkaonlillhaaGreatDoorCFb
namespace Go.Proofs.YtbhbkaonlillhaaGreatDoor
open Go Go.Abs Go.Proofs Go.Tm
set_option linter.unusedSimpArgs false
set_option linter.unusedVariables false
set_option maxRecDepth 10000
variable {Z : TypeId → Nat} {G : World → Prop} {B0 : Nat}
theorem kidF_skip (id : Int) (nm : ByteArray) : ∀ (l : List Nod) (n : Int), n ≠ 0 → kidF l id nm n = n
  | [], n, _ => rfl
  | x :: l, n, h => by
    unfold kidF
    rw [List.foldl_cons, if_neg (by rintro ⟨_, _, h2⟩; exact h h2)]
    exact kidF_skip id nm l n h
/-- Where no node has number 0 the two searches agree. -/
theorem kidF_idx (id : Int) (nm : ByteArray) : ∀ (l : List Nod) (k : Nat), (∀ x ∈ l, x.id ≠ 0) →
    (idxF (fun x : Nod => decide (x.parent = id) && decide (x.name = nm)) l k = -1 ∧ kidF l id nm 0 = 0) ∨ ∃ (i : Nat) (x : Nod), l[i]? = some x ∧ idxF (fun x : Nod => decide (x.parent = id) && decide (x.name = nm)) l k = ((k + i : Nat) : Int) ∧ kidF l id nm 0 = x.id ∧ x.id ≠ 0
  | [], k, _ => .inl ⟨rfl, rfl⟩
  | x :: l, k, h => by
    rw [idxF]
    have hk : kidF (x :: l) id nm 0 = kidF l id nm (if x.parent = id ∧ x.name = nm ∧ (0 : Int) = 0 then x.id else 0) := rfl
    rw [hk]
    by_cases c : x.parent = id ∧ x.name = nm
    · have hx := h x (by simp)
      refine .inr ⟨0, x, rfl, by simp [c], ?_, hx⟩
      rw [if_pos ⟨c.1, c.2, rfl⟩]
      exact kidF_skip id nm l x.id hx
    · have c2 : (decide (x.parent = id) && decide (x.name = nm)) = false := by
        rw [Bool.and_eq_false_iff]
        by_cases c3 : x.parent = id
        · exact .inr (decide_eq_false fun c4 => c ⟨c3, c4⟩)
        · exact .inl (decide_eq_false c3)
      have e1 : (if (decide (x.parent = id) && decide (x.name = nm)) = true then (k : Int) else idxF (fun x : Nod => decide (x.parent = id) && decide (x.name = nm)) l (k + 1)) = idxF (fun x : Nod => decide (x.parent = id) && decide (x.name = nm)) l (k + 1) := by rw [c2]; rfl
      have e2 : kidF l id nm (if x.parent = id ∧ x.name = nm ∧ (0 : Int) = 0 then x.id else 0) = kidF l id nm 0 := by rw [if_neg (by rintro ⟨h1, h2, _⟩; exact c ⟨h1, h2⟩)]
      rw [e1, e2]
      rcases kidF_idx id nm l (k + 1) (fun y hy => h y (by simp [hy])) with ⟨h1, h2⟩ | ⟨i, y, h1, h2, h3, h4⟩
      · exact .inl ⟨h1, h2⟩
      · exact .inr ⟨i + 1, y, by simpa using h1, by rw [h2]; congr 1; omega, h3, h4⟩
theorem FindFn_spec (hZ : ZOk Tryz.prog Z) (x : Nod) (id : Int) (nm : ByteArray) : Does Z Tryz.prog G B0 94 [ndA false x, .sptr [iC id] 0, .sptr [sC nm] 0] [] [] (fun y _ => y = bA (decide (x.parent = id) && decide (x.name = nm))) := by
  refine Does.body hZ Tryz.func94 rfl rfl (Nat.le_of_ble_eq_true rfl) ?_
  simp [Tryz.f94, ndA, ndE, pcsE]
  refine Br.dec (fun h => ?_) (fun h => ?_) <;> simp [h]
theorem iFindPath_spec (hZ : ZOk Tryz.prog Z) (hG : ∀ w, G w → MG w) (t : Tree) (p : ByteArray) (hp : p.size ≤ 1048576) (h0 : ∀ x ∈ t.nodes, x.id ≠ 0) : Does Z Tryz.prog G B0 28 [trA false t, sA p] [] [] (fun y _ => y = iA (findP t p)) := by
  refine Does.bodyF hZ Tryz.func28 rfl rfl (Nat.le_of_ble_eq_true rfl) fun hf => ?_
  simp [trA, ndsE] at hf
  simp [Tryz.f28, trA, ndsE]
  refine CallA.snapE (iSplitPath_spec2 hZ hG p hp) (by simp) (by simp [strsE, noShrLL_mem]) ?_
  unfold findP
  cases hs : splitP p with
  | none => simp [strsE]
  | some ls =>
    simp [strsE]
    have hls := splitP_ok hs
    refine CallA.snapE (nodeAt_spec hZ t 1) (by simp [trA, ndsE]) (by simp) ?_
    simp
    refine Br.dec (fun h1 => ?_) (fun h1 => ?_) <;> simp [h1]
    generalize hr : findF t.nodes ls 1 = r
    refine LoopA.run hZ (fun q : Nat × Int => ⟨43, [(2, .ptr [(0, 0)]), (7, .ptr [(2, 0)]), (23, .bor [(1, 0)] 0 ls.length), (24, iA ls.length), (25, iA q.1)], [[ndsE false t.nodes, iC t.next], [strsE true ls], [iC q.2]], [true, false, true]⟩) (fun q => q.1 ≤ ls.length ∧ findF t.nodes (ls.drop q.1) q.2 = r) (fun q => ls.length - q.1) (0, 1) (by simpa using hr) (Sub.by [0, 1, 3] (by simp [ndsE, strsE])) fun ⟨i, id⟩ ⟨hi, he⟩ => ?_
    dsimp only at hi he
    simp [ndsE, strsE]
    refine Br.dec (fun h => ?_) (fun h => ?_)
    · have hy : ls[i]? = some ls[i] := List.getElem?_eq_getElem h
      have hw : IntKind.i64.wrap ((i : Int) + 1) = ((i + 1 : Nat) : Int) := wrap_i64 (by omega)
      rw [List.drop_eq_getElem_cons h, findF] at he
      generalize ls[i] = nm at hy he
      simp [hy]
      refine Need.mk h ?_
      simp [hy]
      refine CallA.snapE (idxNd_spec hZ t.nodes (fun x => decide (x.parent = id) && decide (x.name = nm)) 94 [.sptr [iC id] 0, .sptr [sC nm] 0] (by simp) (fun x _ => FindFn_spec hZ x id nm)) (by simp [ndsE]) (by simp) ?_
      simp
      rcases kidF_idx id nm t.nodes 0 h0 with ⟨h1, h2⟩ | ⟨k, x, h1, h2, h3, h4⟩
      · rw [h2] at he
        simp at he
        subst he
        simp [h1]
      · rw [h3, if_neg h4] at he
        have hk : ¬ ((k : Int) < 0) := by omega
        simp [h2, h1, hk, ndE, pcsE]
        exact Again.mk (i + 1, x.id) ⟨by dsimp only; omega, he⟩ (by dsimp only; omega) (Sub.by [0, 1, 2] (by simp [hw, ndsE, strsE]))
    · rw [List.drop_eq_nil_of_le (show ls.length ≤ i by omega), findF] at he
      subst he
      simp
theorem copyTree_spec (hZ : ZOk Tryz.prog Z) (t : Tree) (hq : Sm t.nodes) : Does Z Tryz.prog G B0 90 [trA false t] [] [] (fun y _ => y = trA true t) := by
  refine Does.bodyF hZ Tryz.func90 rfl rfl (Nat.le_of_ble_eq_true rfl) fun hf => ?_
  simp [trA, ndsE] at hf
  simp [Tryz.f90, trA, ndsE]
  refine LoopA.run hZ (fun p : Nat × List Nod => ⟨28, [(2, .ptr [(0, 0)]), (3, .ptr [(1, 0)]), (10, .c (ndsE false t.nodes)), (11, iA t.nodes.length), (12, iA p.1)], [[ndsE true [], iC 0], [ndsE true p.2, iC t.next]], [true, true]⟩) (fun p => p.1 ≤ t.nodes.length ∧ p.2.length = p.1 ∧ p.2 = t.nodes.take p.1) (fun p => t.nodes.length - p.1) (0, []) (by simp) (Sub.by [1, 2] (by simp [ndsE])) fun ⟨i, o⟩ ⟨hi, hol, ho⟩ => ?_
  dsimp only at hi hol ho
  simp [ndsE]
  refine Br.dec (fun h => ?_) (fun h => ?_)
  · have hx : t.nodes[i]? = some t.nodes[i] := List.getElem?_eq_getElem h
    have hp := hq.2 _ (List.getElem_mem h)
    have ht : t.nodes.take (i + 1) = o ++ [t.nodes[i]] := by rw [List.take_add_one, hx, ho]; rfl
    have hn := hq.1
    generalize t.nodes[i] = x at hx hp ht
    have hw := w_inc h hf.1
    simp [hx, ndE, pcsE]
    refine Need.mk (by omega) ?_
    simp
    refine Need.mk (by omega) ?_
    simp
    exact Again.mk (i + 1, o ++ [x]) ⟨by dsimp only; omega, by simp [hol], ht.symm⟩ (by dsimp only; omega) (Sub.by [0, 1] (by simp [hw, ndsE, ndE, pcsE]))
  · rw [List.take_of_length_le (by omega)] at ho
    subst ho
    simp
theorem iSpans_spec (hZ : ZOk Tryz.prog Z) (s n : Int) : Does Z Tryz.prog G B0 99 [iA s, iA n] [] [] (fun y _ => y = .c (intsE true (spans s n)) ∨ (y = .nils ∧ spans s n = [])) := by
  refine Does.body hZ Tryz.func99 rfl rfl (Nat.le_of_ble_eq_true rfl) ?_
  simp [Tryz.f99]
  refine CallA.snapE (iGroupSize_spec hZ s) (by simp) (by simp) ?_
  simp
  refine Br.dec (fun h => ?_) (fun h => ?_) <;> simp [h, spans, intsE]
  refine CallA.snapE (within_spec hZ n 0 1000) (by simp) (by simp) ?_
  simp
  refine Br.bool (fun h2 => ?_) (fun h2 => ?_) <;> simp [h2]
  rotate_left
  · have : inB n 1 1000 = false := by
      simp [inB] at h2 ⊢
      omega
    simp [this]
  have hb : 0 ≤ n ∧ n ≤ 1000 := by simpa [inB] using h2
  have hg : 16 ≤ gs s := by rcases gs_pos s with c | c; exact absurd c h; exact c
  have hgl := gs_le s
  generalize hr : (if inB n 1 1000 = false then ([] : List Int) else spansF 1000 (gs s) n) = r
  refine LoopA.run hZ (fun q : Nat × Int × List Int => ⟨30, [(5, iA (gs s)), (6, .bor [(0, 0)] 0 q.2.2.length), (7, iA q.2.1)], [[intsE true q.2.2]], [false]⟩) (fun q => q.1 ≤ 1000 ∧ q.2.2.length = q.1 ∧ q.2.1 + q.1 * 16 ≤ 1000 ∧ -32 ≤ q.2.1 ∧ ((q.2.1 ≤ 0 ∧ q.2.2 = r) ∨ (0 < q.2.1 ∧ q.2.2 ++ spansF (1000 - q.1) (gs s) q.2.1 = r))) (fun q => 1000 - q.1) (0, n, []) ⟨Nat.zero_le _, rfl, by dsimp only; omega, by dsimp only; omega, ?_⟩ ((Sub.nil 6 3 rfl).trans (Sub.by [2] (by simp [intsE]))) fun ⟨i, k, o⟩ ⟨hi, hol, hk, hk2, he⟩ => ?_
  · by_cases c : n ≤ 0
    · have : inB n 1 1000 = false := by simp [inB]; omega
      rw [this] at hr
      exact .inl ⟨c, by simpa using hr⟩
    · have : inB n 1 1000 = true := by simp [inB]; omega
      rw [this] at hr
      exact .inr ⟨by dsimp only; omega, by simpa using hr⟩
  dsimp only at hi hol hk hk2 he
  simp [intsE]
  refine Br.dec (fun h3 => ?_) (fun h3 => ?_)
  · rcases he with ⟨he, _⟩ | ⟨_, he⟩
    · omega
    have hw : IntKind.i64.wrap (k - gs s) = k - gs s := wrap_i64 (by omega)
    obtain ⟨m, hm⟩ : ∃ m, 1000 - i = m + 1 := ⟨999 - i, by omega⟩
    rw [hm, spansF] at he
    simp
    refine Need.mk (by omega) ?_
    simp
    by_cases h5 : gs s < k
    · rw [if_pos h5] at he
      refine Again.mk (i + 1, k - gs s, o ++ [gs s]) ⟨by dsimp only; omega, by simp [hol], by dsimp only; omega, by dsimp only; omega, .inr ⟨by dsimp only; omega, by dsimp only; rw [show 1000 - (i + 1) = m by omega, List.append_assoc]; exact he⟩⟩ (by dsimp only; omega) (Sub.by [2] (by simp [hw, h5, intsE]))
    · rw [if_neg h5] at he
      refine Again.mk (i + 1, k - gs s, o ++ [k]) ⟨by dsimp only; omega, by simp [hol], by dsimp only; omega, by dsimp only; omega, .inl ⟨by dsimp only; omega, he⟩⟩ (by dsimp only; omega) (Sub.by [2] (by simp [hw, h5, intsE]))
  · rcases he with ⟨_, he⟩ | ⟨h4, _⟩
    · subst he
      simp
    · omega
theorem iSpans_spec2 (hZ : ZOk Tryz.prog Z) (s n : Int) : Does Z Tryz.prog G B0 99 [iA s, iA n] [] [] (fun y _ => y = .c (intsE true (spans s n))) :=
  (iSpans_spec hZ s n).denil 3 fun y _ h => by
    rcases h with rfl | ⟨rfl, h⟩
    · simp [denil, intsE]
    · simp [denil, intsE, h]
end Go.Proofs.YtbhbkaonlillhaaGreatDoor
