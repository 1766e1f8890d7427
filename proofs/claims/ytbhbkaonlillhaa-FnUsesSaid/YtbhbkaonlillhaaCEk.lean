/- Contracts: names of kids. -/
import Derived.Test.YtbhbkaonlillhaaCEj
import Derived.Test.YtbhbkaonlillhaaTm
import Derived.Test.YtbhbkaonlillhaaAbc
import Derived.Test.YtbhbkaonlillhaaCShelf
namespace Go.Proofs.Ytbhbkaonlillhaa
open Go Go.Abs Go.Proofs Go.Tm
set_option linter.unusedSimpArgs false
set_option linter.unusedVariables false
set_option maxRecDepth 10000
variable {Z : TypeId → Nat} {G : World → Prop} {B0 : Nat}
theorem noShr_strs (l : List ByteArray) : noShr (strsE true l) = true := by simp [strsE, noShrLL_mem]
def mkStr (k : Int) (_ : ByteArray) : ByteArray × Int := (mkText k, w64 (k + 1))
def hdStr (k : Int) (x : ByteArray) : Option Int := if x = mkText k then some (w64 (k + 1)) else none
theorem marks_str (l : List ByteArray) (k : Int) (h : 0 ≤ k ∧ k + l.length ≤ 9223372036854775807) : hscan hdStr k (scan mkStr k l).1 = (scan mkStr k l).2 ∧ 0 ≤ (scan mkStr k l).2 := by
  have := hscan_scan mkStr hdStr (Rm 1) l k 0 (fun k n x _ hp => by
    obtain ⟨h1, h2⟩ := hp
    refine ⟨by simp [mkStr, hdStr], ?_⟩
    simp only [mkStr, Rm]
    rw [w64_eq (by omega)]
    omega) ⟨h.1, by omega⟩
  exact ⟨this.1, this.2.1⟩

theorem eqStringS_spec (hZ : ZOk Try.prog Z) (p q : List ByteArray) : Does Z Try.prog G B0 47 [.c (strsE false p), .c (strsE false q)] [] [] (fun y _ => y = bA (decide (p = q))) := by
  refine Does.bodyF hZ Try.func47 rfl rfl (Nat.le_of_ble_eq_true rfl) fun hf => ?_
  simp [strsE] at hf
  simp [Try.f47, strsE]
  refine Br.dec (fun h => ?_) (fun h => ?_)
  · have hl : p.length = q.length := by omega
    simp
    refine LoopA.run hZ (fun i : Nat => ⟨26, [(0, .c (strsE false p)), (1, .c (strsE false q)), (4, bA false), (5, iA i)], [], []⟩) (fun i => i ≤ p.length ∧ p.take i = q.take i) (fun i => p.length - i) 0 (by simp) (Sub.by [] (by simp [strsE])) fun i ⟨hi, he⟩ => ?_
    simp [strsE]
    refine Br.dec (fun h => ?_) (fun h => ?_)
    · have hw := w_inc h hf.1.1
      have hx : p[i]? = some p[i] := List.getElem?_eq_getElem h
      have hy : q[i]? = some q[i] := List.getElem?_eq_getElem (by omega)
      refine W_draw hZ hmo 0 8 [(0, []), (0, []), (0, []), (0, []), (0, []), (0, []), (0, []), (0, [])] (by kernel_rfl) ?_
      simp [hx, hy]
      refine Br.dec (fun h2 => ?_) (fun h2 => ?_)
      · simp
        exact Again.mk (i + 1) ⟨by omega, by rw [List.take_add_one, List.take_add_one, he, hx, hy, h2]⟩ (by omega) (Sub.by [] (by simp [hw, strsE]))
      · have hne : p ≠ q := by rintro rfl; simp at h2
        simp [hne]
    · simp
      rwa [List.take_of_length_le (by omega), List.take_of_length_le (by omega)] at he
  · have hl : p ≠ q := fun e => h (by rw [e])
    simp [hl]

theorem markStringS_spec (hZ : ZOk Try.prog Z) (l : List ByteArray) (k : Int) (hk : k ≤ 9223372036854775807) : Does Z Try.prog G B0 48 [.bor [(0, 0)] 0 l.length, iA k] [[strsE true l]] [false] (fun y r => y = iA (scan mkStr k l).2 ∧ r = [[strsE true (scan mkStr k l).1]]) := by
  refine Does.bodyR hZ Try.func48 rfl rfl (Nat.le_of_ble_eq_true rfl) fun ha hf => ?_
  simp [strsE] at hf
  simp [Try.f48, strsE]
  have hl : ((scan mkStr k l).1.map fun x => [sC x]).length = (l.map fun x => [sC x]).length := by simp [scan_len]
  refine LoopA.run hZ (fun i : Nat => ⟨20, [(0, .bor [(0, 0)] 0 l.length), (1, iA (scan mkStr k (l.take i)).2), (5, iA i)], [[.row true 9 (mix ((scan mkStr k l).1.map fun x => [sC x]) (l.map fun x => [sC x]) i)]], [false]⟩) (fun i => i ≤ l.length ∧ (scan mkStr k (l.take i)).2 ≤ 9223372036854775807) (fun i => l.length - i) 0 (by simpa [scan] using hk) (Sub.by [0] (by simp [mix_zero, scan])) fun i ⟨hi, hk2⟩ => ?_
  simp
  refine Br.dec (fun h => ?_) (fun h => ?_)
  · have hw := w_inc h hf.1
    have hx : l[i]? = some l[i] := List.getElem?_eq_getElem h
    have hm := mix_at (i := i) hl
    simp
    refine CallA.snapE (markText_spec hZ _ hk2) (by simp) (by simp) ?_
    simp [hx, hm, h]
    exact Again.mk (i + 1) ⟨by omega, by rw [scan_take mkStr l k i _ hx]; exact w64_le _⟩ (by omega) (Sub.by [0] (by simp [hw, List.modify_modify_eq, scan_take mkStr l k i _ hx, mkStr, w64]; exact mix_step hl (by simp [scan_at, hx, h, mkStr, w64])))
  · simp
    rw [List.take_of_length_le (by omega), mix_all hl (by simp [scan_len]; omega)]
    simp

theorem heldStringS_spec (hZ : ZOk Try.prog Z) (l : List ByteArray) (k : Int) (hk : k ≤ 9223372036854775807) : Does Z Try.prog G B0 49 [.c (strsE false l), iA k] [] [] (fun y _ => y = iA (hscan hdStr k l)) := by
  generalize hr : hscan hdStr k l = r
  refine Does.bodyF hZ Try.func49 rfl rfl (Nat.le_of_ble_eq_true rfl) fun hf => ?_
  simp [strsE] at hf
  simp [Try.f49, strsE]
  refine LoopA.run hZ (fun p : Nat × Int => ⟨22, [(0, .c (strsE false l)), (1, iA p.2), (5, iA p.1)], [], []⟩) (fun p => hscan hdStr p.2 (l.drop p.1) = r ∧ p.2 ≤ 9223372036854775807) (fun p => l.length - p.1) (0, k) ⟨by simpa using hr, hk⟩ (Sub.by [] (by simp [strsE])) fun ⟨i, j⟩ ⟨he, hj⟩ => ?_
  dsimp only at he hj
  simp [strsE]
  refine Br.dec (fun h => ?_) (fun h => ?_)
  · have hw := w_inc h hf.1
    have hx : l[i]? = some l[i] := List.getElem?_eq_getElem h
    rw [List.drop_eq_getElem_cons h, hscan, hdStr] at he
    refine W_draw hZ hmo 1 6 [(0, []), (0, []), (0, []), (0, []), (0, []), (0, [])] (by kernel_rfl) ?_
    simp [hx]
    refine CallD.snapE (markText_spec hZ _ hj) (by simp) (by simp) ?_
    simp
    refine Br.dec (fun h2 => ?_) (fun h2 => ?_) <;> simp [h2] at he ⊢
    · exact Again.mk (i + 1, w64 (j + 1)) ⟨he, w64_le _⟩ (by dsimp only; omega) (Sub.by [] (by simp [hw, strsE, w64]))
    · exact he
  · rw [List.drop_eq_nil_of_le (show l.length ≤ i by omega), hscan] at he
    simp [he]

theorem bytes_back (s : ByteArray) : (⟨s.toList.toArray⟩ : ByteArray) = s := by
  rw [ByteArray.toList_eq]
theorem sortS_spec (hZ : ZOk Try.prog Z) (l : List ByteArray) (hl : l.length ≤ 1048576) : Does Z Try.prog G B0 87 [.bor [(0, 0)] 0 l.length] [[strsE true l]] [false] (fun y r => y = .tup [] ∧ r = [[strsE true (l.mergeSort leN)]]) := by
  have hlen : (l.mergeSort leN).length = l.length := by simp
  have h := Does.turn (Z := Z) (P := Try.prog) (G := G) (B0 := B0) (f := 87) (e := 9) (enc := Value.string) (xs := l) (ys := l.mergeSort leN) (by kernel_rfl) (hZ.sz (ag := false) (by kernel_rfl)) (fun a ha => (List.mergeSort_perm l leN).mem_iff.1 ha) hlen (fun w v ho => by
    have e1 : l.map Value.string = (l.map ByteArray.toList).map encStr := by
      rw [List.map_map]; apply List.map_congr_left; intro s _; simp [encStr, bytes_back]
    have e2 : (l.mergeSort leN).map Value.string = ((l.map ByteArray.toList).mergeSort (fun x y => decide (x ≤ y))).map encStr := by
      rw [sort_names, List.map_map]; apply List.map_congr_left; intro s _; simp [encStr, bytes_back]
    rw [e1] at ho
    rw [e2]
    rcases row_turn encStr (ys := (l.map ByteArray.toList).mergeSort (fun x y => decide (x ≤ y))) ho (by simp) (by simp) with ⟨h0, rfl⟩ | ⟨g, cap, rfl, hnc, hH, hlt, hrest⟩
    · have hl0 : l = [] := List.eq_nil_of_length_eq_zero h0
      subst hl0
      refine (Try.slices_Sort_string_none none 0 w).mono fun en w' ⟨h1, h2⟩ => ?_
      subst h2
      exact ⟨h1, by simpa using ho, Fr.refl _ _⟩
    · have := Try.slices_Sort_string g 0 cap (l.map ByteArray.toList) w hH hlt (by simp; omega)
      rw [List.length_map] at this
      refine this.mono fun en w' ⟨h1, q, os, h2⟩ => ?_
      subst h2
      exact ⟨h1, hrest q os⟩)
  simpa [strsE, scs] using h

set_option maxHeartbeats 1000000 in
theorem KidsOf_spec (hZ : ZOk Try.prog Z) (t : Tree) (id : Int) : Does Z Try.prog G B0 45 [trA false t, iA id] [] [] (fun y _ => y = .c (strsE true (kidsOf t id))) := by
  refine Does.bodyF hZ Try.func45 rfl rfl (Nat.le_of_ble_eq_true rfl) fun hf => ?_
  simp [trA, ndsE] at hf
  simp [Try.f45, trA, ndsE]
  refine CallA.snapE (TreeOk_spec hZ t) (by simp [trA, ndsE]) (by simp) ?_
  simp
  refine Br.bool (fun h1 => ?_) (fun h1 => ?_) <;> simp [h1, kidsOf, strsE]
  have hlen := (okT_iff.1 h1).len2
  refine LoopA.run hZ (fun p : Nat × List ByteArray => ⟨90, [(1, iA id), (2, .ptr [(0, 0)]), (5, .bor [(1, 0)] 0 p.2.length), (6, iA p.1)], [[ndsE false t.nodes, iC t.next], [strsE true p.2]], [true, false]⟩) (fun p => p.1 ≤ t.nodes.length ∧ p.2.length ≤ p.1 ∧ p.2 = insSort leN (kidNames (t.nodes.take p.1) id)) (fun p => t.nodes.length - p.1) (0, []) (by simp [insSort, kidNames]) (Sub.by [0, 2] (by simp [ndsE, strsE])) fun ⟨i, o⟩ ⟨hi, hol, ho⟩ => ?_
  dsimp only at hi hol ho
  simp [ndsE, strsE]
  refine Br.dec (fun h => ?_) (fun h => ?_)
  · have hx : t.nodes[i]? = some t.nodes[i] := List.getElem?_eq_getElem h
    generalize t.nodes[i] = x at hx
    have hw := w_inc h hf.1
    simp [hx, ndE, pcsE]
    refine Br.dec (fun h2 => ?_) (fun h2 => ?_) <;> simp [h2]
    · refine LoopA.run hZ (fun p : Nat × List ByteArray => ⟨90, [(1, iA id), (2, .ptr [(0, 0)]), (5, .bor [(1, 0)] 0 o.length), (6, iA i), (7, .bor [(2, 0)] 0 p.2.length), (8, iA p.1)], [[ndsE false t.nodes, iC t.next], [strsE true o], [strsE true p.2]], [true, false, false]⟩) (fun p => p.1 ≤ o.length ∧ p.2.length ≤ p.1 ∧ p.2 = (o.take p.1).filter fun y => leN y x.name) (fun p => o.length - p.1) (0, []) (by simp) (Sub.by [0, 1, 2] (by simp [ndsE, strsE])) fun ⟨k, n⟩ ⟨hk, hnl, hn⟩ => ?_
      dsimp only at hk hnl hn
      simp [ndsE, strsE]
      refine Br.dec (fun h3 => ?_) (fun h3 => ?_)
      · have hy : o[k]? = some o[k] := List.getElem?_eq_getElem h3
        have hw2 : IntKind.i64.wrap ((k : Int) + 1) = ((k + 1 : Nat) : Int) := wrap_i64 (by omega)
        refine W_draw hZ hmo 0 10 [(3, []), (3, []), (3, []), (3, []), (3, []), (3, []), (3, []), (3, []), (3, []), (3, [])] (by kernel_rfl) ?_
        simp [hx, hy, ndE, pcsE, h3]
        refine Br.bool (fun h4 => ?_) (fun h4 => ?_) <;> simp [h4, h3]
        · refine Need.mk ⟨by omega, by omega⟩ ?_
          simp
          exact Again.mk (k + 1, n ++ [o[k]]) ⟨by dsimp only; omega, by simp; omega, by dsimp only; rw [filter_take' hy, hn]; simp [h4]⟩ (by dsimp only; omega) (Sub.by [0, 1, 4] (by simp [hw2, ndsE, strsE]))
        · exact Again.mk (k + 1, n) ⟨by dsimp only; omega, by dsimp only; omega, by dsimp only; rw [filter_take' hy, hn]; simp [h4]⟩ (by dsimp only; omega) (Sub.by [0, 1, 2] (by simp [hw2, ndsE, strsE]))
      · rw [List.take_of_length_le (by omega)] at hn
        simp [hx, ndE, pcsE]
        refine Need.mk ⟨by omega, by omega⟩ ?_
        simp
        refine LoopA.run hZ (fun p : Nat × List ByteArray => ⟨90, [(1, iA id), (2, .ptr [(0, 0)]), (5, .bor [(1, 0)] 0 o.length), (6, iA i), (7, .bor [(2, 0)] 0 p.2.length), (9, iA p.1)], [[ndsE false t.nodes, iC t.next], [strsE true o], [strsE true p.2]], [true, false, false]⟩) (fun p => p.1 ≤ o.length ∧ p.2.length ≤ n.length + 1 + p.1 ∧ p.2 = n ++ x.name :: (o.take p.1).filter fun y => !leN y x.name) (fun p => o.length - p.1) (0, n ++ [x.name]) (by simp) (Sub.by [0, 1, 4] (by simp [ndsE, strsE])) fun ⟨k, n2⟩ ⟨hk, hnl2, hn2⟩ => ?_
        dsimp only at hk hnl2 hn2
        simp [ndsE, strsE]
        refine Br.dec (fun h3 => ?_) (fun h3 => ?_)
        · have hy : o[k]? = some o[k] := List.getElem?_eq_getElem h3
          have hw2 : IntKind.i64.wrap ((k : Int) + 1) = ((k + 1 : Nat) : Int) := wrap_i64 (by omega)
          refine W_draw hZ hmo 0 10 [(3, []), (3, []), (3, []), (3, []), (3, []), (3, []), (3, []), (3, []), (3, []), (3, [])] (by kernel_rfl) ?_
          simp [hx, hy, ndE, pcsE, h3]
          refine Br.bool (fun h4 => ?_) (fun h4 => ?_) <;> simp [h4, h3]
          · exact Again.mk (k + 1, n2) ⟨by dsimp only; omega, by dsimp only; omega, by dsimp only; rw [filter_take' hy, hn2]; simp [h4]⟩ (by dsimp only; omega) (Sub.by [0, 1, 2] (by simp [hw2, ndsE, strsE]))
          · refine Need.mk ⟨by omega, by omega⟩ ?_
            simp
            exact Again.mk (k + 1, n2 ++ [o[k]]) ⟨by dsimp only; omega, by simp; omega, by dsimp only; rw [filter_take' hy, hn2]; simp [h4]⟩ (by dsimp only; omega) (Sub.by [0, 1, 4] (by simp [hw2, ndsE, strsE]))
        · rw [List.take_of_length_le (by omega)] at hn2
          have hI : n2 = insG leN x.name o := by rw [hn2, hn]; rfl
          simp
          exact Again.mk (i + 1, n2) ⟨by dsimp only; omega, by dsimp only; rw [hI, insG_len]; omega, by dsimp only; rw [kidNames_take hx, hI, ho]; simp [h2, insSort_snoc]⟩ (by dsimp only; omega) (Sub.by [0, 2] (by simp [hw, ndsE, strsE]))
    · exact Again.mk (i + 1, o) ⟨by dsimp only; omega, by dsimp only; omega, by dsimp only; rw [kidNames_take hx, ho]; simp [h2]⟩ (by dsimp only; omega) (Sub.by [0, 1] (by simp [hw, ndsE, strsE]))
  · rw [List.take_of_length_le (by omega)] at ho
    subst ho
    simp

set_option maxHeartbeats 1000000 in
theorem iKidsOf_spec (hZ : ZOk Try.prog Z) (t : Tree) (id : Int) : Does Z Try.prog G B0 46 [trA false t, iA id] [] [] (fun y _ => y = .c (strsE true (kidsOf t id)) ∨ (y = .nils ∧ kidsOf t id = [])) := by
  refine Does.bodyF hZ Try.func46 rfl rfl (Nat.le_of_ble_eq_true rfl) fun hf => ?_
  simp [trA, ndsE] at hf
  simp [Try.f46, trA, ndsE]
  refine CallA.snapE (iTreeOk_spec hZ t) (by simp [trA, ndsE]) (by simp) ?_
  simp
  refine Br.bool (fun h1 => ?_) (fun h1 => ?_) <;> simp [h1, kidsOf, strsE]
  have hlen := (okT_iff.1 h1).len2
  refine LoopA.run hZ (fun p : Nat × List ByteArray => ⟨31, [(1, iA id), (5, .bor [(1, 0)] 0 p.2.length), (12, .c (ndsE false t.nodes)), (13, iA t.nodes.length), (14, iA p.1)], [[ndsE false t.nodes, iC t.next], [strsE true p.2]], [true, false]⟩) (fun p => p.1 ≤ t.nodes.length ∧ p.2.length ≤ p.1 ∧ p.2 = kidNames (t.nodes.take p.1) id) (fun p => t.nodes.length - p.1) (0, []) (by simp [kidNames]) ((Sub.nil 5 9 rfl).trans (Sub.by [0, 2] (by simp [ndsE, strsE]))) fun ⟨i, o⟩ ⟨hi, hol, ho⟩ => ?_
  dsimp only at hi hol ho
  simp [ndsE, strsE]
  refine Br.dec (fun h => ?_) (fun h => ?_)
  · have hx : t.nodes[i]? = some t.nodes[i] := List.getElem?_eq_getElem h
    generalize t.nodes[i] = x at hx
    have hw := w_inc h hf.1
    simp [hx, ndE, pcsE]
    refine Br.dec (fun h2 => ?_) (fun h2 => ?_) <;> simp [h2]
    · refine Need.mk ⟨by omega, by omega⟩ ?_
      simp
      exact Again.mk (i + 1, o ++ [x.name]) ⟨by dsimp only; omega, by simp; omega, by dsimp only; rw [kidNames_take hx, ho]; simp [h2]⟩ (by dsimp only; omega) (Sub.by [0, 4] (by simp [hw, ndsE, strsE]))
    · exact Again.mk (i + 1, o) ⟨by dsimp only; omega, by dsimp only; omega, by dsimp only; rw [kidNames_take hx, ho]; simp [h2]⟩ (by dsimp only; omega) (Sub.by [0, 1] (by simp [hw, ndsE, strsE]))
  · rw [List.take_of_length_le (by omega)] at ho
    simp
    refine CallA.rowE [(1, 0)] (sortS_spec hZ o (by omega)) (by simp [strsE]) (by simp) ⟨by simp, noShr_strs _⟩ ?_
    simp [strsE]
    have e : o.length = (o.mergeSort leN).length := by simp
    rw [e, take_map_len, insSort_eq leN_lin, ho]
theorem iKidsOf_spec2 (hZ : ZOk Try.prog Z) (t : Tree) (id : Int) : Does Z Try.prog G B0 46 [trA false t, iA id] [] [] (fun y _ => y = .c (strsE true (kidsOf t id))) :=
  (iKidsOf_spec hZ t id).denil 9 fun y _ h => by
    rcases h with rfl | ⟨rfl, h⟩
    · simp [denil, strsE]
    · simp [denil, strsE, h]
end Go.Proofs.Ytbhbkaonlillhaa
