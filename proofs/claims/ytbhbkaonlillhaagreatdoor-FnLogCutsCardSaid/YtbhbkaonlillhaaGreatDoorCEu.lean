/- Contracts: spans; nodes put in. -/
import Derived.Test.YtbhbkaonlillhaaGreatDoorCEt
import Derived.Test.YtbhbkaonlillhaaGreatDoorTm
namespace Go.Proofs.YtbhbkaonlillhaaGreatDoor
open Go Go.Abs Go.Proofs Go.Tm
set_option linter.unusedSimpArgs false
set_option linter.unusedVariables false
set_option maxRecDepth 10000
variable {Z : TypeId → Nat} {G : World → Prop} {B0 : Nat}
theorem joinF_size (n : Nat) : ∀ (l : List ByteArray) (s : ByteArray), (∀ x ∈ l, x.size ≤ n) → (joinF s l).size ≤ s.size + l.length * (n + 1)
  | [], s, _ => by simp [joinF]
  | x :: l, s, h => by
    have := joinF_size n l (s ++ slash ++ x) (fun y hy => h y (by simp [hy]))
    have hx := h x (by simp)
    simp [joinF, slash] at this ⊢
    rw [Nat.add_mul, Nat.one_mul]
    omega
theorem upOf_size (p : ByteArray) : (upOf p).1.size ≤ 1048576 ∧ (upOf p).2.size ≤ 8 := by
  unfold upOf parentP
  cases hs : splitP p with
  | none => simp
  | some l =>
    have hl := splitP_ok hs
    rcases List.eq_nil_or_concat l with rfl | ⟨q, x, rfl⟩
    · simp
    · rw [List.concat_eq_append] at hl ⊢
      simp
      have hq : ∀ y ∈ q, y.size ≤ 8 := fun y hy => (nmB_size (hl.2 y (by simp [hy]))).1
      have := joinF_size 8 q ⟨#[]⟩ hq
      have h4 := hl.1
      simp at this h4
      refine ⟨?_, (nmB_size (hl.2 x (by simp))).1⟩
      unfold joinP
      split
      · simp [slash]
      · omega
theorem kidF_mem (l : List Nod) (id : Int) (nm : ByteArray) : ∀ (m : List Nod) (n : Int), kidF m id nm n = n ∨ ∃ x ∈ m, x.id = kidF m id nm n
  | [], n => .inl rfl
  | x :: m, n => by
    unfold kidF
    rw [List.foldl_cons]
    rcases kidF_mem l id nm m (if x.parent = id ∧ x.name = nm ∧ n = 0 then x.id else n) with h | ⟨y, hy, h⟩
    · unfold kidF at h
      rw [h]
      split
      · exact .inr ⟨x, by simp, rfl⟩
      · exact .inl rfl
    · exact .inr ⟨y, by simp [hy], h⟩
theorem nd_of_mem {l : List Nod} {x : Nod} (h : x ∈ l) : ∃ (j : Nat) (q : Nod), l[j]? = some q ∧ atI l x.id = (j : Int) ∧ nd l x.id = some q := by
  rcases atI_spec l x.id with ⟨g1, g2, _⟩ | ⟨k, q, gq, g1, gid, g2, _⟩
  · have := List.find?_eq_none.1 g2 x h
    simp at this
  · exact ⟨k, q, gq, g1, g2⟩
theorem findF_nd {l : List Nod} : ∀ (ns : List ByteArray) (id : Int), (∃ (j : Nat) (q : Nod), l[j]? = some q ∧ atI l id = (j : Int) ∧ nd l id = some q) → findF l ns id ≠ 0 → ∃ (j : Nat) (q : Nod), l[j]? = some q ∧ atI l (findF l ns id) = (j : Int) ∧ nd l (findF l ns id) = some q
  | [], id, h, _ => h
  | nm :: ns, id, h, hn => by
    rw [findF] at hn ⊢
    split at hn
    · exact absurd rfl hn
    · rename_i h2
      rw [if_neg h2]
      refine findF_nd ns _ ?_ hn
      rcases kidF_mem l id nm l 0 with h3 | ⟨x, hx, h3⟩
      · exact absurd h3 h2
      · rw [← h3]; exact nd_of_mem hx
theorem findP_nd {t : Tree} {p : ByteArray} (h : findP t p ≠ 0) : ∃ (j : Nat) (q : Nod), t.nodes[j]? = some q ∧ atI t.nodes (findP t p) = (j : Int) ∧ nd t.nodes (findP t p) = some q := by
  unfold findP at h ⊢
  cases hs : splitP p with
  | none => rw [hs] at h; exact absurd rfl h
  | some ls =>
    rw [hs] at h
    dsimp only at h ⊢
    split at h
    · exact absurd rfl h
    · rename_i h2
      rw [if_neg h2]
      refine findF_nd ls 1 ?_ h
      rcases atI_spec t.nodes 1 with ⟨g1, g2, _⟩ | ⟨k, q, gq, g1, gid, g2, _⟩
      · rw [g1] at h2; omega
      · exact ⟨k, q, gq, g1, g2⟩
theorem okT_sm {t : Tree} (h : okT t.nodes t.next = true) : Sm t.nodes := by
  have H := okT_iff.1 h
  refine ⟨by have := H.len2; omega, fun x hx => ?_⟩
  cases hd : x.dir with
  | true => rw [(ndB_dir (H.nds x hx) hd).2.2.2.1]; simp
  | false => have := (ndB_file (H.nds x hx) hd).2.2.1; omega
theorem Spans_spec (hZ : ZOk Tryz.prog Z) (s n : Int) : Does Z Tryz.prog G B0 30 [iA s, iA n] [] [] (fun y _ => y = .c (intsE true (spans s n))) := by
  refine Does.body hZ Tryz.func30 rfl rfl (Nat.le_of_ble_eq_true rfl) ?_
  simp [Tryz.f30]
  refine CallA.snapE (GroupSize_spec hZ s) (by simp) (by simp) ?_
  simp
  refine Br.dec (fun h => ?_) (fun h => ?_) <;> simp [h, spans, intsE]
  refine CallA.snapE (l01In_spec hZ n 1 1000) (by simp) (by simp) ?_
  simp
  refine Br.bool (fun h2 => ?_) (fun h2 => ?_) <;> simp [h2]
  generalize hr : spansF 1000 (gs s) n = r
  have hb : 1 ≤ n ∧ n ≤ 1000 := by simpa [inB] using h2
  have hg : 16 ≤ gs s := by rcases gs_pos s with c | c; exact absurd c h; exact c
  refine LoopA.run hZ (fun q : Nat × Int × List Int => ⟨32, [(1, iA q.2.1), (5, .bor [(0, 0)] 0 q.2.2.length), (6, iA (gs s))], [[intsE true q.2.2]], [false]⟩) (fun q => q.1 ≤ 1000 ∧ q.2.2.length = q.1 ∧ 0 ≤ q.2.1 ∧ q.2.1 + q.1 * 16 ≤ 1000 ∧ q.2.2 ++ spansF (1000 - q.1) (gs s) q.2.1 = r) (fun q => 1000 - q.1) (0, n, []) (by simp [hr]; omega) (Sub.by [0] (by simp [intsE])) fun ⟨i, k, o⟩ ⟨hi, hol, hk0, hk, he⟩ => ?_
  dsimp only at hi hol hk0 hk he
  simp [intsE]
  refine Br.dec (fun h3 => ?_) (fun h3 => ?_)
  · obtain ⟨m, hm⟩ : ∃ m, 1000 - i = m + 1 := ⟨999 - i, by omega⟩
    rw [hm, spansF, if_pos h3] at he
    simp
    refine Need.mk (by omega) ?_
    simp
    have hw : IntKind.i64.wrap (k - gs s) = k - gs s := wrap_i64 (by omega)
    exact Again.mk (i + 1, k - gs s, o ++ [gs s]) ⟨by dsimp only; omega, by simp [hol], by dsimp only; omega, by dsimp only; omega, by dsimp only; rw [show 1000 - (i + 1) = m by omega, List.append_assoc]; exact he⟩ (by dsimp only; omega) (Sub.by [2] (by simp [hw, intsE]))
  · have : spansF (1000 - i) (gs s) k = [k] := by
      cases h4 : 1000 - i with
      | zero => rfl
      | succ m => rw [spansF, if_neg h3]
    rw [this] at he
    simp
    refine Need.mk (by omega) ?_
    simp
    subst he
    simp
theorem ParentPath_up (hZ : ZOk Tryz.prog Z) (p : ByteArray) (hp : p.size ≤ 1048576) : Does Z Tryz.prog G B0 174 [sA p] [] [] (fun y _ => y = .tup [sA (upOf p).1, sA (upOf p).2, bA (namedP p)]) := ParentPath_spec hZ p hp
set_option maxHeartbeats 1000000 in
theorem l12Add_spec (hZ : ZOk Tryz.prog Z) (t : Tree) (p : ByteArray) (d : Bool) (w : Int) (hp : p.size ≤ 1048576) (ht : okT t.nodes t.next = true) : Does Z Tryz.prog G B0 124 [trA false t, sA p, .agg [iA 0, iA 0, sA ⟨#[]⟩, bA d, iA 0, iA 0, iA 0, .nils, iA w]] [] [] (fun y _ => y = .tup [trA true (addT t p d w).1, iA (addT t p d w).2]) := by
  generalize hr : addT t p d w = r
  refine Does.bodyF hZ Tryz.func124 rfl rfl (Nat.le_of_ble_eq_true rfl) fun hf => ?_
  simp [trA, ndsE] at hf
  simp [Tryz.f124, trA, ndsE]
  refine CallA.snapE (l10Copy_spec hZ t (okT_sm ht)) (by simp [trA, ndsE]) (by simp [trA, noShr_nds]) ?_
  simp [trA, ndsE]
  refine CallA.snapE (ParentPath_up hZ p hp) (by simp) (by simp) ?_
  simp
  refine CallA.snapE (FindPath_spec hZ t (upOf p).1 (upOf_size p).1) (by simp [trA, ndsE]) (by simp) ?_
  unfold addT at hr
  simp
  refine Br.dec (fun h1 => ?_) (fun h1 => ?_) <;> simp [h1] at hr ⊢
  · subst hr
    simp [trA, ndsE]
  obtain ⟨j, q, gq, ga, gn⟩ := findP_nd h1
  refine W_drawB hZ hmo 7 rfl 1 5 [(7, []), (7, []), (7, []), (7, []), (7, [])] (by kernel_rfl) ?_
  simp
  refine CallD.snapE (l10At_spec hZ t (findP t (upOf p).1)) (by simp [trA, ndsE]) (by simp) ?_
  simp [ga, gq, ndE, pcsE]
  have hd : dirAt t.nodes (findP t (upOf p).1) = q.dir := by simp [dirAt, gn]
  rw [hd] at hr
  refine Br.bool (fun h2 => ?_) (fun h2 => ?_) <;> simp [h2] at hr ⊢
  rotate_left
  · subst hr
    simp [trA, ndsE]
  refine CallA.snapE (FindPath_spec hZ t p hp) (by simp [trA, ndsE]) (by simp) ?_
  simp
  refine Br.dec (fun h3 => ?_) (fun h3 => ?_) <;> simp [h3] at hr ⊢
  rotate_left
  · subst hr
    simp [trA, ndsE]
  have hlen := (okT_iff.1 ht).len2
  cases d with
  | true =>
    simp
    refine CallA.snapE (l10Copy_spec hZ t (okT_sm ht)) (by simp [trA, ndsE]) (by simp [trA, noShr_nds]) ?_
    simp [trA, ndsE]
    refine Need.mk (by omega) ?_
    simp
    refine Br.dec (fun h5 => ?_) (fun h5 => ?_) <;> simp [h5] at hr ⊢
    · subst hr
      simp [trA, ndsE]
    refine Br.dec (fun h6 => ?_) (fun h6 => ?_) <;> simp [h5, h6] at hr ⊢
    · subst hr
      simp [trA, ndsE, h6]
    refine CallA.snapE (TreeOk_spec hZ ⟨t.nodes ++ [newN t p true w], w64 (t.next + 1)⟩) (by simp [trA, ndsE, ndE, pcsE, newN, w64, shareLL_one, share, shareLL]) (by simp) ?_
    simp
    refine Br.bool (fun h7 => ?_) (fun h7 => ?_) <;> simp [h7] at hr ⊢
    · subst hr
      simp [trA, ndsE, ndE, pcsE, newN, w64]
    · subst hr
      simp [trA, ndsE]
  | false =>
    simp
    refine CallA.snapE (SchemaAt_spec hZ t (findP t (upOf p).1)) (by simp [trA, ndsE]) (by simp) ?_
    simp
    refine CallA.snapE (l10Copy_spec hZ t (okT_sm ht)) (by simp [trA, ndsE]) (by simp [trA, noShr_nds]) ?_
    simp [trA, ndsE]
    refine Need.mk (by omega) ?_
    simp
    refine Br.dec (fun h5 => ?_) (fun h5 => ?_) <;> simp [h5] at hr ⊢
    · subst hr
      simp [trA, ndsE]
    refine Br.dec (fun h6 => ?_) (fun h6 => ?_) <;> simp [h5, h6] at hr ⊢
    · subst hr
      simp [trA, ndsE, h6]
    refine CallA.snapE (TreeOk_spec hZ ⟨t.nodes ++ [newN t p false w], w64 (t.next + 1)⟩) (by simp [trA, ndsE, ndE, pcsE, newN, w64, shareLL_one, share, shareLL]) (by simp) ?_
    simp
    refine Br.bool (fun h7 => ?_) (fun h7 => ?_) <;> simp [h7] at hr ⊢
    · subst hr
      simp [trA, ndsE, ndE, pcsE, newN, w64]
    · subst hr
      simp [trA, ndsE]
end Go.Proofs.YtbhbkaonlillhaaGreatDoor
