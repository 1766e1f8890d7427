/- Contracts: a node dropped, by the program. -/
import Derived.Test.YtbhbkaonlillhaaGreatDoorCFh
import Derived.Test.YtbhbkaonlillhaaGreatDoorTm
namespace Go.Proofs.YtbhbkaonlillhaaGreatDoor
open Go Go.Abs Go.Proofs Go.Tm
set_option linter.unusedSimpArgs false
set_option linter.unusedVariables false
set_option maxRecDepth 10000
variable {Z : TypeId → Nat} {G : World → Prop} {B0 : Nat}
theorem containsI_spec (hZ : ZOk Tryz.prog Z) (ks : List Int) (x : Int) (hk : ks.length ≤ 1048576) : Does Z Tryz.prog G B0 213 [.c (intsE false ks), iA x] [] [] (fun y _ => y = bA (ks.contains x)) := by
  have h := Does.rd (Z := Z) (P := Tryz.prog) (G := G) (B0 := B0) (f := 213) (e := 3) (enc := Value.int .i64) (ys := ks) (xs := [.int .i64 x]) (y := bA (ks.contains x)) (v := .bool (ks.contains x)) (by kernel_rfl) (hZ.sz (ag := false) (by kernel_rfl)) rfl (fun w S => .c (.sc rfl)) (fun w u hu => by
    rcases hu with ⟨a, cap, rfl, rfl⟩ | ⟨b, off, cap, rfl, hb, hn, hc⟩
    · refine (Tryz.slices_Contains_int_empty a cap x w).mono fun en w' ⟨h1, h2⟩ => ?_
      subst h2
      exact ⟨h1, fr_self _⟩
    · refine (Tryz.slices_Contains_int b off ks.length cap ks x w (Nat.le_refl _) (by omega) (fun j hj => by rw [hc j _ (List.getElem?_eq_getElem hj)]; simp [hj])).mono fun en w' ⟨h1, h2⟩ => ?_
      subst h2
      rw [List.take_length] at h1
      exact ⟨h1, fr_self _⟩)
  simpa [intsE, scs, scA] using h
theorem turned1_spec (hZ : ZOk Tryz.prog Z) (x : Nod) (ks : List Int) (hk : ks.length ≤ 1048576) : Does Z Tryz.prog G B0 212 [ndA false x, .sptr [intsE false ks] 0] [] [] (fun y _ => y = bA (ks.contains x.id)) := by
  refine Does.body hZ Tryz.func212 rfl rfl (Nat.le_of_ble_eq_true rfl) ?_
  simp [Tryz.f212, ndA, ndE, pcsE, intsE]
  refine CallA.snapE (containsI_spec hZ ks x.id hk) (by simp [intsE]) (by simp) ?_
  simp
mutual
theorem kill_clos (p : Path) : ∀ (x : AV), clos x = true → kill p x = x
  | .c _, _ => by simp [kill]
  | .nils, _ => by simp [kill]
  | .sptr _ _, _ => by simp [kill]
  | .agg xs, h => by
    have h' : closL xs = true := by simpa [clos] using h
    simp [kill, killL_clos p xs h']
  | .fn f a b, h => by
    have h' : closL a = true ∧ closL b = true := by simpa [clos] using h
    simp [kill, killL_clos p a h'.1, killL_clos p b h'.2]
  | .ptr _, h => by simp [clos] at h
  | .bor _ _ _, h => by simp [clos] at h
  | .tup _, h => by simp [clos] at h
  | .nb _, h => by simp [clos] at h
  | .dead, h => by simp [clos] at h
theorem killL_clos (p : Path) : ∀ (l : List AV), closL l = true → killL p l = l
  | [], _ => by simp [killL]
  | x :: r, h => by
    have h' : clos x = true ∧ closL r = true := by simpa [closL] using h
    simp [killL, kill_clos p x h'.1, killL_clos p r h'.2]
end
theorem modify_app {α : Type} (f : α → α) : ∀ (a b : List α) (k : Nat), k = a.length → (a ++ b).modify k f = a ++ b.modify 0 f
  | [], b, k, h => by subst h; rfl
  | x :: a, b, k, h => by
    subst h
    have := modify_app f a b a.length rfl
    simp only [List.cons_append, List.length_cons, List.modify_succ_cons, this]
/-- What lies where nodes were. -/
def ndJ (q : Nod × Bool) : List Cell := [iC q.1.id, iC q.1.parent, sC q.1.name, bC q.1.dir, iC q.1.schema, iC q.1.quota, iC q.1.len, if q.2 = true then pcsE true q.1.pieces else .hole, iC q.1.writer]
def rowJ (l kept : List Nod) (jk : List (Nod × Bool)) (j : Nat) : List (List Cell) := kept.map (ndE true) ++ jk.map ndJ ++ (l.drop j).map (ndE true)
theorem rowJ_len {l kept : List Nod} {jk : List (Nod × Bool)} {j : Nat} (hj : j ≤ l.length) (h : kept.length + jk.length = j) : (rowJ l kept jk j).length = l.length := by
  simp [rowJ]; omega
theorem rowJ_at {l kept : List Nod} {jk : List (Nod × Bool)} {j : Nat} {x : Nod} (hx : l[j]? = some x) (h : kept.length + jk.length = j) : (rowJ l kept jk j)[j]? = some (ndE true x) := by
  unfold rowJ
  rw [List.getElem?_append_right (by simp; omega)]
  simp [← h, List.getElem?_drop]
  rw [h, hx]
  exact ⟨x, rfl, rfl⟩
theorem rowJ_take {l kept : List Nod} {jk : List (Nod × Bool)} {j : Nat} {x : Nod} (hx : l[j]? = some x) (h : kept.length + jk.length = j) : (rowJ l kept jk j).modify j (fun y => y.set 7 .hole) = rowJ l kept (jk ++ [(x, false)]) (j + 1) := by
  have hlt := (List.getElem?_eq_some_iff.1 hx).1
  have hd : l.drop j = x :: l.drop (j + 1) := by
    rw [List.drop_eq_getElem_cons hlt]
    congr 1
    exact (List.getElem?_eq_some_iff.1 hx).2
  unfold rowJ
  rw [hd, modify_app _ _ _ j (by simp; omega)]
  simp [ndJ, ndE, pcsE]
theorem rowJ_put {l kept : List Nod} {q : Nod × Bool} {js : List (Nod × Bool)} {j : Nat} {x : Nod} {f : List Cell → List Cell} (hf : f (ndJ q) = ndE true x) : (rowJ l kept (q :: js) j).modify kept.length f = rowJ l (kept ++ [x]) js j := by
  unfold rowJ
  rw [List.append_assoc, modify_app _ _ _ _ (by simp)]
  simp [hf]
theorem rowJ_kept {l kept : List Nod} {q : Nod × Bool} {js : List (Nod × Bool)} {j : Nat} : (rowJ l kept (q :: js) j)[kept.length]? = some (ndJ q) := by
  unfold rowJ
  rw [List.append_assoc, List.getElem?_append_right (by simp)]
  simp
theorem idxF_cases {α : Type} (p : α → Bool) : ∀ (l : List α) (k : Nat), (idxF p l k = -1 ∧ ∀ x ∈ l, p x = false) ∨ ∃ (i : Nat) (x : α), idxF p l k = ((k + i : Nat) : Int) ∧ l[i]? = some x ∧ p x = true ∧ ∀ y ∈ l.take i, p y = false
  | [], _ => .inl ⟨rfl, by simp⟩
  | n :: r, k => by
    rw [idxF]
    by_cases h : p n = true
    · exact .inr ⟨0, n, by simp [h], rfl, h, by simp⟩
    · rw [if_neg h]
      rcases idxF_cases p r (k + 1) with ⟨h1, h2⟩ | ⟨i, x, h1, h2, h3, h4⟩
      · refine .inl ⟨h1, fun x hx => ?_⟩
        rcases List.mem_cons.1 hx with rfl | hx
        · simpa using h
        · exact h2 x hx
      · refine .inr ⟨i + 1, x, by rw [h1]; congr 1; omega, by simpa using h2, h3, fun y hy => ?_⟩
        rw [List.take_succ_cons] at hy
        rcases List.mem_cons.1 hy with rfl | hy
        · simpa using h
        · exact h4 y hy
theorem clearR_take {es : List (List Cell)} {lo n : Nat} {zc : List Cell} (h : lo ≤ es.length) : (clearR es lo n zc).take lo = es.take lo := by
  unfold clearR
  rw [List.append_assoc, List.take_append_of_le_length (by simp; omega), List.take_of_length_le (by simp; omega)]
theorem rowJ_takeK {l kept : List Nod} {jk : List (Nod × Bool)} {j : Nat} : (rowJ l kept jk j).take kept.length = kept.map (ndE true) := by
  unfold rowJ
  rw [List.append_assoc, List.take_append_of_le_length (by simp), List.take_of_length_le (by simp)]
set_option maxHeartbeats 1000000 in
theorem delNd_spec (hZ : ZOk Tryz.prog Z) (l : List Nod) (hl : l.length ≤ 1048576) (p : Nod → Bool) (g : FuncId) (caps : List AV) (hcl : closL caps = true) (hg : ∀ x ∈ l, Does Z Tryz.prog G B0 g (ndA false x :: caps) [] [] (fun y _ => y = bA (p x))) :
    Does Z Tryz.prog G B0 211 [.bor [(0, 0)] 0 l.length, .fn g [] caps] [[ndsE true l]] [false] (fun y r => y = .c (ndsE true (l.filter fun x => !p x)) ∧ r = [[.hole]]) := by
  refine Does.bodyR hZ Tryz.func211 rfl rfl (Nat.le_of_ble_eq_true rfl) fun ha hf => ?_
  simp [ndsE] at hf
  simp [Tryz.f211, ndsE]
  refine CallA.snapE (idxNd_spec hZ l p g caps hcl hg) (by simp [ndsE, snapL_clos _ _ hcl]) (by simp) ?_
  rcases idxF_cases p l 0 with ⟨h1, h2⟩ | ⟨i, x, h1, hx, hpx, h2⟩
  · have hfil : (l.filter fun x => !p x) = l := List.filter_eq_self.2 fun x hx => by simp [h2 x hx]
    simp [h1, hfil]
  · have hi := (List.getElem?_eq_some_iff.1 hx).1
    have hi1 : ¬ ((i : Int) = -1) := by omega
    have hwi : IntKind.i64.wrap ((i : Int) + 1) = ((i + 1 : Nat) : Int) := wrap_i64 (by omega)
    have hrow : l.map (ndE true) = rowJ l (l.take i) [(x, true)] (i + 1) := by
      unfold rowJ
      have hd : l.drop i = x :: l.drop (i + 1) := by
        rw [List.drop_eq_getElem_cons hi]
        congr 1
        exact (List.getElem?_eq_some_iff.1 hx).2
      conv => lhs; rw [← List.take_append_drop i l, hd]
      simp [ndJ, ndE]
    have hfl : (l.take (i + 1)).filter (fun x => !p x) = l.take i := by
      rw [filter_take' hx]
      simp [hpx]
      exact h2
    simp [h1, hi1, hwi]
    refine LoopA.run hZ (fun s : Nat × List Nod × List (Nod × Bool) => ⟨42, [(0, .bor [(0, 0)] 0 l.length), (1, .fn g [] caps), (5, iA s.2.1.length), (6, iA s.1)], [[.row true 57 (rowJ l s.2.1 s.2.2 s.1)]], [false]⟩) (fun s => s.1 ≤ l.length ∧ s.2.1.length + s.2.2.length = s.1 ∧ s.2.2 ≠ [] ∧ s.2.1 = (l.take s.1).filter fun x => !p x) (fun s => l.length - s.1) (i + 1, l.take i, [(x, true)]) ⟨by dsimp only; omega, by simp; omega, by simp, hfl.symm⟩ (Sub.by [0] (by simp [hrow, renL_clos _ _ hcl, (renL_clos [] _ hcl).2, Nat.min_eq_left (Nat.le_of_lt hi)])) fun ⟨j, kept, jk⟩ ⟨hj, hjl, hjn, hk⟩ => ?_
    dsimp only at hj hjl hjn hk
    have hml := rowJ_len hj hjl
    simp [hml]
    refine Br.dec (fun h => ?_) (fun h => ?_)
    · have hy : l[j]? = some l[j] := List.getElem?_eq_getElem h
      have hym := List.getElem_mem h
      have hwj : IntKind.i64.wrap ((j : Int) + 1) = ((j + 1 : Nat) : Int) := wrap_i64 (by omega)
      have hfj := filter_take' (p := fun x => !p x) hy
      generalize l[j] = y at hy hym hfj
      have hat := rowJ_at hy hjl
      have htk := rowJ_take hy hjl
      simp [hat, hml, ndE, pcsE]
      refine Need.mk h ?_
      simp [hat, hml, htk, ndE, pcsE]
      have hkc : ∀ q, killL q caps = caps := fun q => killL_clos q caps hcl
      refine CallA.snapE (hg y hym) (by simp [ndA, ndE, pcsE, hkc, snapL_clos _ _ hcl]) (by simp) ?_
      simp [hkc]
      refine Br.bool (fun h5 => ?_) (fun h5 => ?_) <;> simp [h5] at hfj ⊢
      · refine Again.mk (j + 1, kept, jk ++ [(y, false)]) ⟨by dsimp only; omega, by simp; omega, by simp, by dsimp only; rw [hk, hfj]⟩ (by dsimp only; omega) (Sub.by [0] (by simp [hwj, hkc, renL_clos _ _ hcl, (renL_clos [] _ hcl).2]))
      · obtain ⟨q, js, rfl⟩ := List.exists_cons_of_ne_nil hjn
        have hkt := rowJ_kept (l := l) (kept := kept) (q := q) (js := js ++ [(y, false)]) (j := j + 1)
        have hwk : IntKind.i64.wrap ((kept.length : Int) + 1) = (kept.length : Int) + 1 := wrap_i64 (by omega)
        have hjl' : kept.length + (js.length + 1) = j := by simpa using hjl
        have hk2 : kept ++ [y] = (l.take (j + 1)).filter fun x => !p x := by rw [hfj, hk]
        refine Need.mk (by omega) ?_
        obtain ⟨qn, qb⟩ := q
        cases qb
        · simp [hkt, ndJ]
          refine Again.mk (j + 1, kept ++ [y], js ++ [(y, false)]) ⟨by dsimp only; omega, by simp; omega, by simp, hk2⟩ (by dsimp only; omega) (Sub.by [0] ?_)
          simp [hwj, hwk, hkc, renL_clos _ _ hcl, (renL_clos [] _ hcl).2, List.modify_modify_eq]
          exact rowJ_put (by simp [ndJ, ndE, pcsE])
        · simp [hkt, ndJ, pcsE]
          refine Again.mk (j + 1, kept ++ [y], js ++ [(y, false)]) ⟨by dsimp only; omega, by simp; omega, by simp, hk2⟩ (by dsimp only; omega) (Sub.by [0] ?_)
          simp [hwj, hwk, hkc, renL_clos _ _ hcl, (renL_clos [] _ hcl).2, List.modify_modify_eq]
          exact rowJ_put (by simp [ndJ, ndE, pcsE])
    · have hkl : kept.length ≤ l.length := by omega
      have hcl2 : ∀ zc, (clearR (rowJ l kept jk j) kept.length (l.length - kept.length) zc).length = l.length := fun zc => by rw [clearR_len (by omega), hml]
      have hct : ∀ zc, (clearR (rowJ l kept jk j) kept.length (l.length - kept.length) zc).take kept.length = kept.map (ndE true) := fun zc => by rw [clearR_take (by omega), rowJ_takeK]
      rw [List.take_of_length_le (by omega)] at hk
      simp [hkl, hml, clearA, hcl2, hct]
      rw [hk]
end Go.Proofs.YtbhbkaonlillhaaGreatDoor
