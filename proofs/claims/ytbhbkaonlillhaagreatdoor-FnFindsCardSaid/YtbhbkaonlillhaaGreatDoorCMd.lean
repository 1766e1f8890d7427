/- The law: paths, kids and who is below in a drawn tree. -/
import Derived.Test.YtbhbkaonlillhaaGreatDoorCDd
import Derived.Test.YtbhbkaonlillhaaGreatDoorCSa
import Derived.Test.YtbhbkaonlillhaaGreatDoorCSh
import Derived.Test.YtbhbkaonlillhaaGreatDoorCGb
import Derived.Test.YtbhbkaonlillhaaGreatDoorCFd
import Derived.Test.YtbhbkaonlillhaaGreatDoorCEk
import Derived.Test.YtbhbkaonlillhaaGreatDoorTn
namespace Go.Proofs.YtbhbkaonlillhaaGreatDoor
open Go Go.Abs Go.Proofs Go.Tm
set_option linter.unusedSimpArgs false
set_option linter.unusedVariables false
set_option maxRecDepth 10000
variable {Z : TypeId → Nat} {G : World → Prop} {B0 : Nat}
theorem begins_pre (a b : ByteArray) : (decide (a.size ≤ b.size) && decide (b.extract 0 a.size = a)) = Lib.hasPrefix b.data.toList a.data.toList := by
  rw [Bool.eq_iff_iff, isPre_iff]
  simp only [Bool.and_eq_true, decide_eq_true_eq]
  constructor
  · rintro ⟨h1, h2⟩
    refine ⟨b.data.toList.drop a.size, ?_⟩
    have h3 := congrArg (fun s : ByteArray => s.data.toList) h2
    simp only [ext_list, List.drop_zero] at h3
    rw [← h3, List.take_append_drop]
  · rintro ⟨t, h⟩
    have hs : a.size = a.data.toList.length := (Array.length_toList (xs := a.data)).symm
    have hb : b.size = b.data.toList.length := (Array.length_toList (xs := b.data)).symm
    refine ⟨by rw [hs, hb, h]; simp, ?_⟩
    apply ba_ext
    rw [ext_list, h, hs]; simp
theorem DrawRightTree_shr (hZ : ZOk Tryz.prog Z) (b : List Int) : Does Z Tryz.prog G B0 53 [.c (byE b)] [] [] (fun y _ => ∃ t, y = trA false t ∧ GoodT t) :=
  (DrawRightTree_spec hZ b).shr fun y r ⟨t, hy, hd⟩ => ⟨t, by rw [hy, shA_tr], hd⟩
def kidsCount (t : Tree) (i : Nat) : Int := ws (fun x => ((kidsOf t x.id).length : Int)) (t.nodes.take i)
theorem kidsCount_step {t : Tree} {i : Nat} {y : Nod} (hy : t.nodes[i]? = some y) : kidsCount t (i + 1) = kidsCount t i + ((kidsOf t y.id).length : Int) := by
  unfold kidsCount
  rw [List.take_add_one, hy, ws_app]
  simp [ws]
theorem ws_lenB {t : Tree} : ∀ (l : List Nod), 0 ≤ ws (fun x => ((kidsOf t x.id).length : Int)) l ∧ ws (fun x => ((kidsOf t x.id).length : Int)) l ≤ t.nodes.length * l.length
  | [] => by simp [ws]
  | x :: l => by
    have ih := ws_lenB (t := t) l
    have := kidsOf_len t x.id
    simp only [ws, List.length_cons, Int.natCast_add, Int.mul_add]
    omega
theorem kidsCount_bound {t : Tree} {i : Nat} (hl : t.nodes.length ≤ 14) : 0 ≤ kidsCount t i ∧ kidsCount t i ≤ 196 := by
  have := ws_lenB (t := t) (t.nodes.take i)
  have h2 : (t.nodes.take i).length ≤ 14 := by rw [List.length_take]; omega
  unfold kidsCount
  have h3 : (t.nodes.length : Int) * ((t.nodes.take i).length : Int) ≤ 14 * 14 := Int.mul_le_mul (by omega) (by omega) (by omega) (by omega)
  omega
theorem path_size {t : Tree} {id : Int} : (pathP t id).size ≤ 36 := by
  unfold pathP
  split
  · rename_i h
    obtain ⟨x, hx⟩ := Option.isSome_iff_exists.1 h.2
    obtain ⟨hm, hid⟩ := nd_mem hx
    obtain ⟨ns, hu, hl, hn⟩ := (okT_iff.1 h.1).names hm
    rw [hid] at hu
    rw [upN_up 15 hu (by omega)]
    exact joinP_size (nms_rev hn) (by simpa using hl)
  · exact Nat.zero_le _
theorem iTreeNew_shr (hZ : ZOk Tryz.prog Z) : Does Z Tryz.prog G B0 27 [] [] [] (fun y _ => y = trA false newT) := (iTreeNew_spec hZ).shr fun y r h => by rw [h, shA_tr]
theorem mem_below_iff {t : Tree} (h : okT t.nodes t.next = true) {x y : Nod} (hx : x ∈ t.nodes) (hy : y ∈ t.nodes) : y.id ∈ belowOf t x.id ↔ below t.nodes y.id x.id = true := by
  unfold belowOf
  rw [if_pos ⟨h, by rw [(okT_iff.1 h).nd_self hx]; rfl⟩]
  unfold belows
  constructor
  · intro hm
    obtain ⟨z, hz, e⟩ := List.mem_map.1 hm
    rw [← e]; exact (List.mem_filter.1 hz).2
  · intro hb
    exact List.mem_map.2 ⟨y, List.mem_filter.2 ⟨hy, hb⟩, rfl⟩
set_option maxHeartbeats 2000000 in
theorem lawFinds_spec (hZ : ZOk Tryz.prog Z) (hG : ∀ w, G w → MG w) (b : List Int) : Does Z Tryz.prog G B0 8 [.c (byE b)] [] [] (fun y _ => y = bA true) := by
  refine Does.bodyF hZ Tryz.func8 rfl rfl (Nat.le_of_ble_eq_true rfl) fun hf => ?_
  simp [Tryz.f8, byE]
  refine CallA.snap (args' := [.c (byE b)]) (by simp [byE]) (big_spec hZ b) ?_
  rintro y ⟨v, rfl⟩
  refine ⟨by simp, ?_⟩
  simp
  refine Br.bool (fun hb => ?_) (fun hb => ?_) <;> simp [hb]
  have hD := DrawRightTree_shr (Z := Z) (G := G) (B0 := B0) hZ b
  unfold byE at hD
  refine CallA.clos (by simp) hD ?_
  rintro y ⟨t, rfl, g, n0, hGd, hn14⟩
  have hok := hGd.ok
  have H := okT_iff.1 hok
  have hl14 := H.len2
  have hid0 := H.id_ne0
  simp [trA, ndsE]
  first | refine CallA.snapE (iTreeOk_spec hZ t) (by first | (simp [trA, ndsE]; done) | fail) (by first | (simp []; done) | fail) ?_ | refine CallD.snapE (iTreeOk_spec hZ t) (by first | (simp [trA, ndsE]; done) | fail) (by first | (simp []; done) | fail) ?_
  simp [hok]
  refine LoopA.run hZ (fun i : Nat => ⟨137, [(0, .c (byE b)), (3, .ptr [(0, 0)]), (4, iA (kidsCount t i)), (5, iA i)], [[ndsE false t.nodes, iC t.next]], [true]⟩) (fun i => i ≤ t.nodes.length) (fun i => t.nodes.length - i) 0 (by simp) (by first | exact Sub.by [1] (by first | (simp [ndsE, byE, kidsCount, ws]; done) | fail) | exact Sub.by [2] (by first | (simp [ndsE, byE, kidsCount, ws]; done) | fail) | exact Sub.by [3] (by first | (simp [ndsE, byE, kidsCount, ws]; done) | fail)) fun i hi => ?_
  simp [ndsE]
  have hkb := kidsCount_bound (i := i) hl14
  refine Br.dec (fun h => ?_) (fun h => ?_) <;> simp [h]
  · have hx : t.nodes[i]? = some t.nodes[i] := List.getElem?_eq_getElem h
    have hm := List.getElem_mem h
    have hks := kidsCount_step hx
    generalize t.nodes[i] = x at hx hm hks
    have hw4 : IntKind.i64.wrap ((i : Int) + 1) = ((i + 1 : Nat) : Int) := wrap_i64 (by omega)
    have hps := path_size (t := t) (id := x.id)
    have hfp := find_path hok hm
    have hka := kids_asc hok hm
    have hkl := kidsOf_len t x.id
    simp [hx, ndE, pcsE]
    first | refine CallA.snapE (iPathOf_spec hZ t x.id) (by first | (simp [trA, ndsE]; done) | fail) (by first | (simp []; done) | fail) ?_ | refine CallD.snapE (iPathOf_spec hZ t x.id) (by first | (simp [trA, ndsE]; done) | fail) (by first | (simp []; done) | fail) ?_
    simp
    refine W_drawB hZ hmo 3 rfl 1 5 [(3, []), (3, []), (3, []), (4, []), (4, [])] (by kernel_rfl) ?_
    simp
    first | refine CallA.snapE (iFindPath_spec hZ hG t (pathP t x.id) (by omega) hid0) (by first | (simp [trA, ndsE]; done) | fail) (by first | (simp []; done) | fail) ?_ | refine CallD.snapE (iFindPath_spec hZ hG t (pathP t x.id) (by omega) hid0) (by first | (simp [trA, ndsE]; done) | fail) (by first | (simp []; done) | fail) ?_
    simp [hfp]
    first | refine CallA.snapE (iKidsOf_spec2 hZ t x.id) (by first | (simp [trA, ndsE]; done) | fail) (by first | (simp [noShr_strs]; done) | fail) ?_ | refine CallD.snapE (iKidsOf_spec2 hZ t x.id) (by first | (simp [trA, ndsE]; done) | fail) (by first | (simp [noShr_strs]; done) | fail) ?_
    simp [strsE]
    generalize hlist : kidsOf t x.id = list at hka hkl hks
    generalize hpp : pathP t x.id = p at hps
    refine LoopA.run hZ (fun k : Nat => ⟨137, [(0, .c (byE b)), (3, .ptr [(0, 0)]), (4, iA (kidsCount t i)), (5, iA i), (6, .ptr [(1, 0)]), (7, sA p), (8, .bor [(2, 0)] 0 list.length), (9, iA k)], [[ndsE false t.nodes, iC t.next], ndE false x, [strsE true list]], [true, true, false]⟩) (fun k => 1 ≤ k ∧ k ≤ list.length + 1) (fun k => list.length + 1 - k) 1 (by simp) (by first | exact Sub.by [0, 1, 2] (by first | (simp [ndsE, byE, ndE, pcsE, strsE]; done) | fail) | exact Sub.by [0, 1, 3] (by first | (simp [ndsE, byE, ndE, pcsE, strsE]; done) | fail) | exact Sub.by [0, 1, 4] (by first | (simp [ndsE, byE, ndE, pcsE, strsE]; done) | fail) | exact Sub.by [0, 1, 5] (by first | (simp [ndsE, byE, ndE, pcsE, strsE]; done) | fail) | exact Sub.by [0, 1, 6] (by first | (simp [ndsE, byE, ndE, pcsE, strsE]; done) | fail)) fun k ⟨hk1, hk⟩ => ?_
    simp [ndsE, ndE, pcsE, strsE]
    refine Br.dec (fun h2 => ?_) (fun h2 => ?_) <;> simp [h2]
    · have hwk : IntKind.i64.wrap ((k : Int) + 1) = ((k + 1 : Nat) : Int) := wrap_i64 (by omega)
      have hwd : IntKind.i64.wrap ((k : Int) - 1) = ((k - 1 : Nat) : Int) := by rw [wrap_i64 (by omega)]; omega
      have ha : list[k - 1]? = some list[k - 1] := List.getElem?_eq_getElem (by omega)
      have hb2 : list[k]? = some list[k] := List.getElem?_eq_getElem h2
      have hlt := List.pairwise_iff_getElem.1 hka (k - 1) k (by omega) h2 (by omega)
      generalize list[k - 1] = u at ha hlt
      generalize list[k] = w at hb2 hlt
      refine W_drawB hZ hmo 3 rfl 0 9 [(3, []), (3, []), (3, []), (3, []), (3, []), (3, []), (3, []), (3, []), (3, [])] (by kernel_rfl) ?_
      simp
      refine Need.mk ⟨by rw [hwd]; omega, by rw [hwd]; omega⟩ ?_
      simp [hwd, ha]
      refine Need.mk h2 ?_
      simp [hb2, hlt]
      exact Again.mk (k + 1) ⟨by omega, by omega⟩ (by omega) (by first | exact Sub.by [0, 1, 2] (by first | (simp [hwk, ndsE, byE, ndE, pcsE, strsE]; done) | fail))
    · have hwc : IntKind.i64.wrap (kidsCount t i + (list.length : Int)) = kidsCount t (i + 1) := by rw [wrap_i64 (by omega)]; omega
      simp [hwc]
      first | refine CallA.snapE (iBelowOf_spec2 hZ t x.id) (by first | (simp [trA, ndsE]; done) | fail) (by first | (simp [noShr_ints]; done) | fail) ?_ | refine CallD.snapE (iBelowOf_spec2 hZ t x.id) (by first | (simp [trA, ndsE]; done) | fail) (by first | (simp [noShr_ints]; done) | fail) ?_
      simp [intsE]
      generalize hbl : belowOf t x.id = bl
      refine LoopA.run hZ (fun k : Nat => ⟨137, [(0, .c (byE b)), (3, .ptr [(0, 0)]), (4, iA (kidsCount t (i + 1))), (5, iA i), (6, .ptr [(1, 0)]), (7, sA p), (10, .bor [(2, 0)] 0 bl.length), (11, iA k)], [[ndsE false t.nodes, iC t.next], ndE false x, [intsE true bl]], [true, true, false]⟩) (fun k => k ≤ t.nodes.length) (fun k => t.nodes.length - k) 0 (by simp) (by first | exact Sub.by [0, 1, 2] (by first | (simp [ndsE, byE, ndE, pcsE, intsE]; done) | fail) | exact Sub.by [0, 1, 3] (by first | (simp [ndsE, byE, ndE, pcsE, intsE]; done) | fail) | exact Sub.by [0, 1, 4] (by first | (simp [ndsE, byE, ndE, pcsE, intsE]; done) | fail) | exact Sub.by [0, 1, 5] (by first | (simp [ndsE, byE, ndE, pcsE, intsE]; done) | fail) | exact Sub.by [0, 1, 6] (by first | (simp [ndsE, byE, ndE, pcsE, intsE]; done) | fail)) fun k hk2 => ?_
      simp [ndsE, ndE, pcsE, intsE]
      refine Br.dec (fun h5 => ?_) (fun h5 => ?_) <;> simp [h5]
      · have hwk : IntKind.i64.wrap ((k : Int) + 1) = ((k + 1 : Nat) : Int) := wrap_i64 (by omega)
        have hy : t.nodes[k]? = some t.nodes[k] := List.getElem?_eq_getElem h5
        have hym := List.getElem_mem h5
        generalize t.nodes[k] = y at hy hym
        have hins := inside_eq hok hm hym
        rw [hpp] at hins
        refine W_drawB hZ hmo 3 rfl 0 7 [(3, []), (3, []), (3, []), (3, []), (3, []), (3, []), (3, [])] (by kernel_rfl) ?_
        simp [hy, ndE, pcsE]
        first | refine CallA.snapE (PathOf_spec hZ t y.id) (by first | (simp [trA, ndsE]; done) | fail) (by first | (simp []; done) | fail) ?_ | refine CallD.snapE (PathOf_spec hZ t y.id) (by first | (simp [trA, ndsE]; done) | fail) (by first | (simp []; done) | fail) ?_
        have hqs := path_size (t := t) (id := y.id)
        generalize pathP t y.id = q at hins hqs
        have hmem : decide (y.id ∈ bl) = (decide (q = p) || (decide (p = slash) || Lib.hasPrefix q.data.toList (p.data.toList ++ [47]))) := by
          rw [show p.data.toList ++ [47] = (p ++ slash).data.toList by rw [ba_app]; rfl, ← hins, ← hbl, Bool.eq_iff_iff, decide_eq_true_eq]
          exact mem_below_iff hok hm hym
        simp
        refine Br.dec (fun h6 => ?_) (fun h6 => ?_) <;> simp [h6, hy, ndE, pcsE]
        · first | refine CallA.snapE (in_spec hZ bl y.id) (by first | (simp [intsE, hy, ndE]; done) | fail) (by first | (simp []; done) | fail) ?_ | refine CallD.snapE (in_spec hZ bl y.id) (by first | (simp [intsE, hy, ndE]; done) | fail) (by first | (simp []; done) | fail) ?_
          simp [hmem, h6]
          exact Again.mk (k + 1) (by omega) (by omega) (by first | exact Sub.by [0, 1, 2] (by first | (simp [hwk, ndsE, byE, ndE, pcsE, intsE]; done) | fail))
        refine Br.dec (fun h7 => ?_) (fun h7 => ?_) <;> simp [h7, hy, ndE, pcsE]
        · first | refine CallA.snapE (in_spec hZ bl y.id) (by first | (simp [intsE, hy, ndE]; done) | fail) (by first | (simp []; done) | fail) ?_ | refine CallD.snapE (in_spec hZ bl y.id) (by first | (simp [intsE, hy, ndE]; done) | fail) (by first | (simp []; done) | fail) ?_
          simp [hmem, h6, h7]
          exact Again.mk (k + 1) (by omega) (by omega) (by first | exact Sub.by [0, 1, 2] (by first | (simp [hwk, h7, ndsE, byE, ndE, pcsE, intsE]; done) | fail))
        refine Need.mk (by omega) ?_
        simp
        first | refine CallA.snapE (begins_spec hZ (p ++ ⟨#[47]⟩) q) (by first | (simp []; done) | fail) (by first | (simp []; done) | fail) ?_ | refine CallD.snapE (begins_spec hZ (p ++ ⟨#[47]⟩) q) (by first | (simp []; done) | fail) (by first | (simp []; done) | fail) ?_
        simp only [begins_pre]
        simp [hy, ndE, pcsE]
        first | refine CallA.snapE (in_spec hZ bl y.id) (by first | (simp [intsE]; done) | fail) (by first | (simp []; done) | fail) ?_ | refine CallD.snapE (in_spec hZ bl y.id) (by first | (simp [intsE]; done) | fail) (by first | (simp []; done) | fail) ?_
        simp [hmem, h6, h7]
        exact Again.mk (k + 1) (by omega) (by omega) (by first | exact Sub.by [0, 1, 2] (by first | (simp [hwk, ndsE, byE, ndE, pcsE, intsE]; done) | fail))
      · exact Again.mk (i + 1) (by omega) (by omega) (by first | exact Sub.by [0] (by first | (simp [hw4, ndsE, byE, ndE, pcsE]; done) | fail))
  · have hkt : kidsCount t i = (t.nodes.length : Int) - 1 := by
      unfold kidsCount
      rw [List.take_of_length_le (by omega), kidsOf_sum hok]
    have hl1 := H.len1
    have hw9 : IntKind.i64.wrap ((t.nodes.length : Int) - 1) = (t.nodes.length : Int) - 1 := wrap_i64 (by omega)
    have hzz : findP t ⟨#[47, 122, 122]⟩ = 0 := find_zz hok hGd.abc (ns := []) (nm := ⟨#[122, 122]⟩) rfl (by simp [abcL, nmA, nmBb, nmC])
    have hnone : nd t.nodes 99999 = none := by
      unfold nd
      rw [List.find?_eq_none]
      intro y hy
      have := H.low y hy
      have := hGd.nxt
      simp; omega
    first | refine CallA.closE (iTreeNew_shr hZ) (by first | (simp []; done) | fail) ?_ | refine CallD.closE (iTreeNew_shr hZ) (by first | (simp []; done) | fail) ?_
    simp [trA, newT, ndsE, ndE, pcsE, hkt, hw9]
    first | refine CallA.snapE (iFindPath_spec hZ hG t ⟨#[47, 122, 122]⟩ (by decide) hid0) (by first | (simp [trA, ndsE]; done) | fail) (by first | (simp []; done) | fail) ?_ | refine CallD.snapE (iFindPath_spec hZ hG t ⟨#[47, 122, 122]⟩ (by decide) hid0) (by first | (simp [trA, ndsE]; done) | fail) (by first | (simp []; done) | fail) ?_
    simp [hzz]
    first | refine CallA.snapE (iPathOf_spec hZ t 99999) (by first | (simp [trA, ndsE]; done) | fail) (by first | (simp []; done) | fail) ?_ | refine CallD.snapE (iPathOf_spec hZ t 99999) (by first | (simp [trA, ndsE]; done) | fail) (by first | (simp []; done) | fail) ?_
    simp [path_none hnone]
    first | refine CallA.snapE (iTreeOk_spec hZ newT) (by first | (simp [trA, newT, ndsE, ndE, pcsE]; done) | fail) (by first | (simp []; done) | fail) ?_ | refine CallD.snapE (iTreeOk_spec hZ newT) (by first | (simp [trA, newT, ndsE, ndE, pcsE]; done) | fail) (by first | (simp []; done) | fail) ?_
    have hn : okT newT.nodes newT.next = true := good_new.ok
    simp [hn]
end Go.Proofs.YtbhbkaonlillhaaGreatDoor
