/- Contracts: names of kids. -/
import Derived.Test.YtbhbkaonlillhaaGreatDoorCEj
import Derived.Test.YtbhbkaonlillhaaGreatDoorTm
import Derived.Test.YtbhbkaonlillhaaGreatDoorAbc
import Derived.Test.YtbhbkaonlillhaaGreatDoorCShelf
namespace Go.Proofs.YtbhbkaonlillhaaGreatDoor
open Go Go.Abs Go.Proofs Go.Tm
set_option linter.unusedSimpArgs false
set_option linter.unusedVariables false
set_option maxRecDepth 10000
variable {Z : TypeId → Nat} {G : World → Prop} {B0 : Nat}
theorem noShr_strs (l : List ByteArray) : noShr (strsE true l) = true := by simp [strsE, noShrLL_mem]
def mkStr (k : Int) (_ : ByteArray) : ByteArray × Int := (mkText k, w64 (k + 1))
def hdStr (k : Int) (x : ByteArray) : Option Int := if x = mkText k then some (w64 (k + 1)) else none
theorem marks_str (l : List ByteArray) (k : Int) (h : 0 ≤ k ∧ k + l.length ≤ 9223372036854775807) : hscan hdStr k (scan mkStr k l).1 = (scan mkStr k l).2 ∧ 0 ≤ (scan mkStr k l).2 := by
  have := hscan_scan mkStr hdStr (Rm 1) l k 0 (fun k n x _ hp => by
    obtain ⟨h1, h2⟩ := hp
    refine ⟨by simp [mkStr, hdStr], ?_⟩
    simp only [mkStr, Rm]
    rw [w64_eq (by omega)]
    omega) ⟨h.1, by omega⟩
  exact ⟨this.1, this.2.1⟩

theorem bytes_back (s : ByteArray) : (⟨s.toList.toArray⟩ : ByteArray) = s := by
  rw [ByteArray.toList_eq]
theorem sortS_spec (hZ : ZOk Tryz.prog Z) (l : List ByteArray) (hl : l.length ≤ 1048576) : Does Z Tryz.prog G B0 123 [.bor [(0, 0)] 0 l.length] [[strsE true l]] [false] (fun y r => y = .tup [] ∧ r = [[strsE true (l.mergeSort leN)]]) := by
  have hlen : (l.mergeSort leN).length = l.length := by simp
  have h := Does.turn (Z := Z) (P := Tryz.prog) (G := G) (B0 := B0) (f := 123) (e := 9) (enc := Value.string) (xs := l) (ys := l.mergeSort leN) (by kernel_rfl) (hZ.sz (ag := false) (by kernel_rfl)) (fun a ha => (List.mergeSort_perm l leN).mem_iff.1 ha) hlen (fun w v ho => by
    have e1 : l.map Value.string = (l.map ByteArray.toList).map encStr := by
      rw [List.map_map]; apply List.map_congr_left; intro s _; simp [encStr, bytes_back]
    have e2 : (l.mergeSort leN).map Value.string = ((l.map ByteArray.toList).mergeSort (fun x y => decide (x ≤ y))).map encStr := by
      rw [sort_names, List.map_map]; apply List.map_congr_left; intro s _; simp [encStr, bytes_back]
    rw [e1] at ho
    rw [e2]
    rcases row_turn encStr (ys := (l.map ByteArray.toList).mergeSort (fun x y => decide (x ≤ y))) ho (by simp) (by simp) with ⟨h0, rfl⟩ | ⟨g, cap, rfl, hnc, hH, hlt, hrest⟩
    · have hl0 : l = [] := List.eq_nil_of_length_eq_zero h0
      subst hl0
      refine (Tryz.slices_Sort_string_none none 0 w).mono fun en w' ⟨h1, h2⟩ => ?_
      subst h2
      exact ⟨h1, by simpa using ho, Fr.refl _ _⟩
    · have := Tryz.slices_Sort_string g 0 cap (l.map ByteArray.toList) w hH hlt (by simp; omega)
      rw [List.length_map] at this
      refine this.mono fun en w' ⟨h1, q, os, h2⟩ => ?_
      subst h2
      exact ⟨h1, hrest q os⟩)
  simpa [strsE, scs] using h

set_option maxHeartbeats 1000000 in
theorem iKidsOf_spec (hZ : ZOk Tryz.prog Z) (t : Tree) (id : Int) : Does Z Tryz.prog G B0 55 [trA false t, iA id] [] [] (fun y _ => y = .c (strsE true (kidsOf t id)) ∨ (y = .nils ∧ kidsOf t id = [])) := by
  refine Does.bodyF hZ Tryz.func55 rfl rfl (Nat.le_of_ble_eq_true rfl) fun hf => ?_
  simp [trA, ndsE] at hf
  simp [Tryz.f55, trA, ndsE]
  refine CallA.snapE (iTreeOk_spec hZ t) (by simp [trA, ndsE]) (by simp) ?_
  simp
  refine Br.bool (fun h1 => ?_) (fun h1 => ?_) <;> simp [h1, kidsOf, strsE]
  have hlen := (okT_iff.1 h1).len2
  refine LoopA.run hZ (fun p : Nat × List ByteArray => ⟨31, [(1, iA id), (5, .bor [(1, 0)] 0 p.2.length), (12, .c (ndsE false t.nodes)), (13, iA t.nodes.length), (14, iA p.1)], [[ndsE false t.nodes, iC t.next], [strsE true p.2]], [true, false]⟩) (fun p => p.1 ≤ t.nodes.length ∧ p.2.length ≤ p.1 ∧ p.2 = kidNames (t.nodes.take p.1) id) (fun p => t.nodes.length - p.1) (0, []) (by simp [kidNames]) ((Sub.nil 5 9 rfl).trans (Sub.by [0, 2] (by simp [ndsE, strsE]))) fun ⟨i, o⟩ ⟨hi, hol, ho⟩ => ?_
  dsimp only at hi hol ho
  simp [ndsE, strsE]
  refine Br.dec (fun h => ?_) (fun h => ?_)
  · have hx : t.nodes[i]? = some t.nodes[i] := List.getElem?_eq_getElem h
    generalize t.nodes[i] = x at hx
    have hw := w_inc h hf.1
    simp [hx, ndE, pcsE]
    refine Br.dec (fun h2 => ?_) (fun h2 => ?_) <;> simp [h2]
    · refine Need.mk ⟨by omega, by omega⟩ ?_
      simp
      exact Again.mk (i + 1, o ++ [x.name]) ⟨by dsimp only; omega, by simp; omega, by dsimp only; rw [kidNames_take hx, ho]; simp [h2]⟩ (by dsimp only; omega) (Sub.by [0, 4] (by simp [hw, ndsE, strsE]))
    · exact Again.mk (i + 1, o) ⟨by dsimp only; omega, by dsimp only; omega, by dsimp only; rw [kidNames_take hx, ho]; simp [h2]⟩ (by dsimp only; omega) (Sub.by [0, 1] (by simp [hw, ndsE, strsE]))
  · rw [List.take_of_length_le (by omega)] at ho
    simp
    refine CallA.rowE [(1, 0)] (sortS_spec hZ o (by omega)) (by simp [strsE]) (by simp) ⟨by simp, noShr_strs _⟩ ?_
    simp [strsE]
    have e : o.length = (o.mergeSort leN).length := by simp
    rw [e, take_map_len, insSort_eq leN_lin, ho]
theorem iKidsOf_spec2 (hZ : ZOk Tryz.prog Z) (t : Tree) (id : Int) : Does Z Tryz.prog G B0 55 [trA false t, iA id] [] [] (fun y _ => y = .c (strsE true (kidsOf t id))) :=
  (iKidsOf_spec hZ t id).denil 9 fun y _ h => by
    rcases h with rfl | ⟨rfl, h⟩
    · simp [denil, strsE]
    · simp [denil, strsE, h]
end Go.Proofs.YtbhbkaonlillhaaGreatDoor
