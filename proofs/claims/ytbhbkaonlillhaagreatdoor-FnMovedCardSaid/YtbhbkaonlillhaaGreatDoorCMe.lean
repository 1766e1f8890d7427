/- The law: what is moved in a drawn tree is found at its new place. -/
import Derived.Test.YtbhbkaonlillhaaGreatDoorCGc
import Derived.Test.YtbhbkaonlillhaaGreatDoorCGd
import Derived.Test.YtbhbkaonlillhaaGreatDoorCSa
import Derived.Test.YtbhbkaonlillhaaGreatDoorCSh
import Derived.Test.YtbhbkaonlillhaaGreatDoorCFk
namespace Go.Proofs.YtbhbkaonlillhaaGreatDoor
open Go Go.Abs Go.Proofs Go.Tm
set_option linter.unusedSimpArgs false
set_option linter.unusedVariables false
set_option maxRecDepth 10000
variable {Z : TypeId → Nat} {G : World → Prop} {B0 : Nat}
theorem DrawRightPair_shr (hZ : ZOk Tryz.prog Z) (b : List Int) : Does Z Tryz.prog G B0 44 [.c (byE b)] [] [] (fun y _ => ∃ t e, y = .tup [trA false t, edA e] ∧ GoodT t ∧ e.path.size ≤ 60 ∧ e.to.size ≤ 60) :=
  (DrawRightPair_spec hZ b).shr fun y r ⟨t, e, hy, hd⟩ => ⟨t, e, by rw [hy]; simp [shA, shAL, shA_tr, edA, edE, share], hd⟩
theorem iApply_sh (hZ : ZOk Tryz.prog Z) (hG : ∀ w, G w → MG w) (t : Tree) (e : Edt) (g : Int) (hs : Sm t.nodes) (he : SmE e) : Does Z Tryz.prog G B0 33 [trA false t, edA e, iA g] [] [] (fun y _ => y = .tup [trA false (applyT t e g).1, iA (applyT t e g).2]) :=
  (iApply_spec hZ hG t e g hs he).shr fun y r h => by rw [h]; simp [shA, shAL, shA_tr, share]
set_option maxHeartbeats 4000000 in
theorem lawMoved_spec (hZ : ZOk Tryz.prog Z) (hG : ∀ w, G w → MG w) (b : List Int) : Does Z Tryz.prog G B0 7 [.c (byE b)] [] [] (fun y _ => y = bA true) := by
  refine Does.bodyF hZ Tryz.func7 rfl rfl (Nat.le_of_ble_eq_true rfl) fun hf => ?_
  simp [Tryz.f7, byE]
  refine CallA.snap (args' := [.c (byE b)]) (by simp [byE]) (big_spec hZ b) ?_
  rintro y ⟨v, rfl⟩
  refine ⟨by simp, ?_⟩
  simp
  refine Br.bool (fun hb => ?_) (fun hb => ?_) <;> simp [hb]
  have hD := DrawRightPair_shr (Z := Z) (G := G) (B0 := B0) hZ b
  unfold byE at hD
  refine CallA.clos (by simp) hD ?_
  rintro y ⟨t, e, rfl, ⟨g, n0, hGd, hn14⟩, hp60, ht60⟩
  have hok := hGd.ok
  have H := okT_iff.1 hok
  have hl1 := H.len1
  have hl14 := H.len2
  have hid0 := H.id_ne0
  have hst : Sm t.nodes := okT_sm hok
  simp [trA, ndsE, edA, edE]
  refine CallA.snap (args' := [.c (byE b)]) (by simp [byE]) (DrawPlaces_spec hZ b) ?_
  rintro y ⟨p, rfl, hp12, hp⟩
  refine ⟨by simp [intsE, noShrLL_mem], ?_⟩
  obtain ⟨v0, hv0⟩ : ∃ v, p[0]? = some v := ⟨_, List.getElem?_eq_getElem (by omega)⟩
  obtain ⟨v1, hv1⟩ : ∃ v, p[1]? = some v := ⟨_, List.getElem?_eq_getElem (by omega)⟩
  have b0 := hp v0 (List.mem_of_getElem? hv0)
  have b1 := hp v1 (List.mem_of_getElem? hv1)
  obtain ⟨k, hk, hkl⟩ : ∃ k : Nat, v0.tmod (t.nodes.length : Int) = (k : Int) ∧ k < t.nodes.length := by
    have h1 := Int.tmod_nonneg (t.nodes.length : Int) b0.1
    have h2 := Int.tmod_lt_of_pos v0 (show (0 : Int) < (t.nodes.length : Int) by omega)
    exact ⟨(v0.tmod (t.nodes.length : Int)).toNat, by omega, by omega⟩
  have hn0 : ¬ (t.nodes.length : Int) = 0 := by omega
  have hx : t.nodes[k]? = some t.nodes[k] := List.getElem?_eq_getElem hkl
  generalize t.nodes[k] = x at hx
  have hd1 : v1.tmod 9 = v1 % 9 := Int.tmod_eq_emod_of_nonneg b1.1
  have hps := path_size (t := t) (id := x.id)
  simp [intsE]
  refine W_drawB hZ hmo 5 rfl 0 13 [(5, []), (5, []), (5, []), (5, []), (5, []), (5, []), (5, []), (5, []), (5, []), (5, []), (5, []), (5, []), (5, [])] (by kernel_rfl) ?_
  simp
  refine Need.mk (by omega) ?_
  have hne : ¬ t.nodes = [] := by rintro e; rw [e] at hl1; simp at hl1
  simp [hv0, hk, hn0, hne, hx, ndE, pcsE]
  first | refine CallA.snapE (PathOf_spec hZ t x.id) (by first | (simp [trA, ndsE]; done) | fail) (by first | (simp []; done) | fail) ?_ | refine CallD.snapE (PathOf_spec hZ t x.id) (by first | (simp [trA, ndsE]; done) | fail) (by first | (simp []; done) | fail) ?_
  simp
  refine Br.dec (fun hf => ?_) (fun hf => ?_) <;> simp [hf]
  · skip
    generalize hfr : e.path = from_ at hp60
    have hfs : from_.size ≤ 60 := hp60
    refine Need.mk (by omega) ?_
    simp [hv1, hd1]
    first | refine CallA.snapE (Decimal_spec hZ (v1 % 9) (by omega)) (by first | (simp []; done) | fail) (by first | (simp []; done) | fail) ?_ | refine CallD.snapE (Decimal_spec hZ (v1 % 9) (by omega)) (by first | (simp []; done) | fail) (by first | (simp []; done) | fail) ?_
    simp
    refine Need.mk (by rw [decT_size]; omega) ?_
    have hto : (⟨#[47, 109]⟩ : ByteArray) ++ decT (v1 % 9) = toM (v1 % 9) := rfl
    have hms : SmE ⟨3, from_, toM (v1 % 9), 0, 0⟩ := ⟨by dsimp only; omega, by dsimp only; rw [toM_size]; omega⟩
    simp [hto]
    first | refine CallA.snapE (EditOk_spec hZ ⟨3, from_, toM (v1 % 9), 0, 0⟩ hms) (by first | (simp [edA, edE]; done) | fail) (by first | (simp []; done) | fail) ?_ | refine CallD.snapE (EditOk_spec hZ ⟨3, from_, toM (v1 % 9), 0, 0⟩ hms) (by first | (simp [edA, edE]; done) | fail) (by first | (simp []; done) | fail) ?_
    simp
    refine Br.bool (fun he => ?_) (fun he => ?_) <;> simp [he]
    · have hts := toM_split (n := v1 % 9) (by omega)
      have hone := move_one (m := ⟨3, from_, toM (v1 % 9), 0, 0⟩) (g := 1) hok he (by omega) rfl hts
      have hlaw := moved_law (t := t) (m := ⟨3, from_, toM (v1 % 9), 0, 0⟩) (g := 1) rfl hts
      have hsame := apply_same (t := t) (e := ⟨3, from_, toM (v1 % 9), 0, 0⟩) (g := 1)
      first | refine CallA.closE (iApply_sh hZ hG t ⟨3, from_, toM (v1 % 9), 0, 0⟩ 1 hst hms) (by first | (simp [trA, ndsE, edA, edE]; done) | fail) ?_ | refine CallD.closE (iApply_sh hZ hG t ⟨3, from_, toM (v1 % 9), 0, 0⟩ 1 hst hms) (by first | (simp [trA, ndsE, edA, edE]; done) | fail) ?_
      generalize (applyT t ⟨3, from_, toM (v1 % 9), 0, 0⟩ 1).2 = no at hone hlaw hsame
      generalize (applyT t ⟨3, from_, toM (v1 % 9), 0, 0⟩ 1).1 = n at hlaw hsame
      dsimp only at hone hlaw
      simp [trA, ndsE]
      first | refine CallA.snapE (FindPath_spec hZ t from_ (by omega)) (by first | (simp [trA, ndsE]; done) | fail) (by first | (simp []; done) | fail) ?_ | refine CallD.snapE (FindPath_spec hZ t from_ (by omega)) (by first | (simp [trA, ndsE]; done) | fail) (by first | (simp []; done) | fail) ?_
      simp
      have hbq : (decide (no = 1) == decide (findP t from_ = 0)) = true := by simp [hone]
      simp [hbq]
      refine Br.dec (fun hno => ?_) (fun hno => ?_) <;> simp [hno]
      rotate_left
      · have := hsame hno
        subst this
        first | refine CallA.snapE (sameTree_spec hZ n n) (by first | (simp [trA, ndsE]; done) | fail) (by first | (simp []; done) | fail) ?_ | refine CallD.snapE (sameTree_spec hZ n n) (by first | (simp [trA, ndsE]; done) | fail) (by first | (simp []; done) | fail) ?_
        simp
      obtain ⟨q1, q2, q3, q4⟩ := hlaw hno
      have hnid0 := (okT_iff.1 q3).id_ne0
      have hbll := belowOf_len t (findP t from_)
      first | refine CallA.snapE (BelowOf_spec hZ t (findP t from_)) (by first | (simp [trA, ndsE]; done) | fail) (by first | (simp [noShr_ints]; done) | fail) ?_ | refine CallD.snapE (BelowOf_spec hZ t (findP t from_)) (by first | (simp [trA, ndsE]; done) | fail) (by first | (simp [noShr_ints]; done) | fail) ?_
      simp [intsE]
      generalize findP t from_ = id at q2 q4 hbll
      generalize hbl : belowOf t id = bl at q2 q4 hbll
      refine LoopA.run hZ (fun k : Nat => ⟨133, [(3, .ptr [(0, 0)]), (6, sA from_), (7, .ptr [(1, 0)]), (8, .ptr [(2, 0)]), (10, iA id), (11, .bor [(3, 0)] 0 bl.length), (12, iA k)], [[ndsE false t.nodes, iC t.next], edE ⟨3, from_, toM (v1 % 9), 0, 0⟩, [ndsE false n.nodes, iC n.next], [intsE true bl]], [true, true, true, false]⟩) (fun k => k ≤ bl.length) (fun k => bl.length - k) 0 (by simp) (by first | exact Sub.by [2, 7, 10, 12] (by first | (simp [ndsE, edE, intsE]; done) | fail) | exact Sub.by [2, 7, 10, 11] (by first | (simp [ndsE, edE, intsE]; done) | fail) | exact Sub.by [2, 7, 10, 13] (by first | (simp [ndsE, edE, intsE]; done) | fail)) fun k hk3 => ?_
      simp [ndsE, edE, intsE]
      refine Br.dec (fun h5 => ?_) (fun h5 => ?_) <;> simp [h5]
      · have hwk : IntKind.i64.wrap ((k : Int) + 1) = ((k + 1 : Nat) : Int) := wrap_i64 (by omega)
        have hy : bl[k]? = some bl[k] := List.getElem?_eq_getElem h5
        obtain ⟨u1, u2, u3⟩ := q4 _ (List.getElem_mem h5)
        generalize bl[k] = z at hy u1 u2 u3
        refine W_drawB hZ hmo 4 rfl 0 5 [(4, []), (4, []), (4, []), (4, []), (4, [])] (by kernel_rfl) ?_
        simp
        refine Need.mk h5 ?_
        simp [hy]
        first | refine CallA.snapE (PathOf_spec hZ t z) (by first | (simp [trA, ndsE]; done) | fail) (by first | (simp []; done) | fail) ?_ | refine CallD.snapE (PathOf_spec hZ t z) (by first | (simp [trA, ndsE]; done) | fail) (by first | (simp []; done) | fail) ?_
        have hqs := path_size (t := t) (id := z)
        generalize pathP t z = q at u2 u3 hqs
        simp
        refine W_drawB hZ hmo 5 rfl 2 26 [(5, []), (5, []), (5, []), (5, []), (5, []), (5, []), (5, []), (5, []), (5, []), (6, []), (6, []), (6, []), (6, []), (6, [5]), (6, [5]), (6, [5]), (6, [5]), (6, [5]), (6, [5]), (6, [5]), (6, [5]), (7, [5]), (7, [5]), (7, [5]), (7, [5]), (7, [5])] (by kernel_rfl) ?_
        simp [u2]
        have hes : (q.extract from_.size q.size).size ≤ 36 := by rw [ByteArray.size_extract]; omega
        have hts2 := toM_size (v1 % 9)
        generalize q.extract from_.size q.size = tl at u3 hes
        refine Need.mk (by omega) ?_
        simp
        first | refine CallA.snapE (iFindPath_spec hZ hG n (toM (v1 % 9) ++ tl) (by rw [ByteArray.size_append]; omega) hnid0) (by first | (simp [trA, ndsE]; done) | fail) (by first | (simp []; done) | fail) ?_ | refine CallD.snapE (iFindPath_spec hZ hG n (toM (v1 % 9) ++ tl) (by rw [ByteArray.size_append]; omega) hnid0) (by first | (simp [trA, ndsE]; done) | fail) (by first | (simp []; done) | fail) ?_
        simp [u3]
        refine Need.mk h5 ?_
        simp [hy]
        refine Need.mk h5 ?_
        simp [hy]
        first | refine CallA.snapE (iUsedBelow_spec hZ n z) (by first | (simp [trA, ndsE]; done) | fail) (by first | (simp []; done) | fail) ?_ | refine CallD.snapE (iUsedBelow_spec hZ n z) (by first | (simp [trA, ndsE]; done) | fail) (by first | (simp []; done) | fail) ?_
        simp
        refine Need.mk h5 ?_
        simp [hy]
        first | refine CallA.snapE (UsedBelow_spec hZ t z) (by first | (simp [trA, ndsE]; done) | fail) (by first | (simp []; done) | fail) ?_ | refine CallD.snapE (UsedBelow_spec hZ t z) (by first | (simp [trA, ndsE]; done) | fail) (by first | (simp []; done) | fail) ?_
        simp [u1]
        exact Again.mk (k + 1) (by omega) (by omega) (by first | exact Sub.by [0, 1, 2, 3] (by first | (simp [hwk, ndsE, edE, intsE]; done) | fail))
      · first | refine CallA.snapE (iBelowOf_spec2 hZ n id) (by first | (simp [trA, ndsE]; done) | fail) (by first | (simp [noShr_ints]; done) | fail) ?_ | refine CallD.snapE (iBelowOf_spec2 hZ n id) (by first | (simp [trA, ndsE]; done) | fail) (by first | (simp [noShr_ints]; done) | fail) ?_
        simp [intsE, q2]
        first | refine CallA.snapE (sameInts_spec hZ bl bl) (by first | (simp [intsE]; done) | fail) (by first | (simp []; done) | fail) ?_ | refine CallD.snapE (sameInts_spec hZ bl bl) (by first | (simp [intsE]; done) | fail) (by first | (simp []; done) | fail) ?_
        simp
        first | refine CallA.snapE (iFindPath_spec hZ hG n from_ (by omega) hnid0) (by first | (simp [trA, ndsE]; done) | fail) (by first | (simp []; done) | fail) ?_ | refine CallD.snapE (iFindPath_spec hZ hG n from_ (by omega) hnid0) (by first | (simp [trA, ndsE]; done) | fail) (by first | (simp []; done) | fail) ?_
        simp [q1]
    · first | refine CallA.snapE (iTreeOk_spec hZ t) (by first | (simp [trA, ndsE]; done) | fail) (by first | (simp []; done) | fail) ?_ | refine CallD.snapE (iTreeOk_spec hZ t) (by first | (simp [trA, ndsE]; done) | fail) (by first | (simp []; done) | fail) ?_
      simp [hok]
      first | refine CallA.snapE (iEditOk_spec hZ hG ⟨3, from_, toM (v1 % 9), 0, 0⟩ hms) (by first | (simp [edA, edE]; done) | fail) (by first | (simp []; done) | fail) ?_ | refine CallD.snapE (iEditOk_spec hZ hG ⟨3, from_, toM (v1 % 9), 0, 0⟩ hms) (by first | (simp [edA, edE]; done) | fail) (by first | (simp []; done) | fail) ?_
      simp [he]
  · skip
    generalize hfr : pathP t x.id = from_ at hps hf
    have hfs : from_.size ≤ 60 := by omega
    refine Need.mk (by omega) ?_
    simp [hv1, hd1]
    first | refine CallA.snapE (Decimal_spec hZ (v1 % 9) (by omega)) (by first | (simp []; done) | fail) (by first | (simp []; done) | fail) ?_ | refine CallD.snapE (Decimal_spec hZ (v1 % 9) (by omega)) (by first | (simp []; done) | fail) (by first | (simp []; done) | fail) ?_
    simp
    refine Need.mk (by rw [decT_size]; omega) ?_
    have hto : (⟨#[47, 109]⟩ : ByteArray) ++ decT (v1 % 9) = toM (v1 % 9) := rfl
    have hms : SmE ⟨3, from_, toM (v1 % 9), 0, 0⟩ := ⟨by dsimp only; omega, by dsimp only; rw [toM_size]; omega⟩
    simp [hto]
    first | refine CallA.snapE (EditOk_spec hZ ⟨3, from_, toM (v1 % 9), 0, 0⟩ hms) (by first | (simp [edA, edE]; done) | fail) (by first | (simp []; done) | fail) ?_ | refine CallD.snapE (EditOk_spec hZ ⟨3, from_, toM (v1 % 9), 0, 0⟩ hms) (by first | (simp [edA, edE]; done) | fail) (by first | (simp []; done) | fail) ?_
    simp
    refine Br.bool (fun he => ?_) (fun he => ?_) <;> simp [he]
    · have hts := toM_split (n := v1 % 9) (by omega)
      have hone := move_one (m := ⟨3, from_, toM (v1 % 9), 0, 0⟩) (g := 1) hok he (by omega) rfl hts
      have hlaw := moved_law (t := t) (m := ⟨3, from_, toM (v1 % 9), 0, 0⟩) (g := 1) rfl hts
      have hsame := apply_same (t := t) (e := ⟨3, from_, toM (v1 % 9), 0, 0⟩) (g := 1)
      first | refine CallA.closE (iApply_sh hZ hG t ⟨3, from_, toM (v1 % 9), 0, 0⟩ 1 hst hms) (by first | (simp [trA, ndsE, edA, edE]; done) | fail) ?_ | refine CallD.closE (iApply_sh hZ hG t ⟨3, from_, toM (v1 % 9), 0, 0⟩ 1 hst hms) (by first | (simp [trA, ndsE, edA, edE]; done) | fail) ?_
      generalize (applyT t ⟨3, from_, toM (v1 % 9), 0, 0⟩ 1).2 = no at hone hlaw hsame
      generalize (applyT t ⟨3, from_, toM (v1 % 9), 0, 0⟩ 1).1 = n at hlaw hsame
      dsimp only at hone hlaw
      simp [trA, ndsE]
      first | refine CallA.snapE (FindPath_spec hZ t from_ (by omega)) (by first | (simp [trA, ndsE]; done) | fail) (by first | (simp []; done) | fail) ?_ | refine CallD.snapE (FindPath_spec hZ t from_ (by omega)) (by first | (simp [trA, ndsE]; done) | fail) (by first | (simp []; done) | fail) ?_
      simp
      have hbq : (decide (no = 1) == decide (findP t from_ = 0)) = true := by simp [hone]
      simp [hbq]
      refine Br.dec (fun hno => ?_) (fun hno => ?_) <;> simp [hno]
      rotate_left
      · have := hsame hno
        subst this
        first | refine CallA.snapE (sameTree_spec hZ n n) (by first | (simp [trA, ndsE]; done) | fail) (by first | (simp []; done) | fail) ?_ | refine CallD.snapE (sameTree_spec hZ n n) (by first | (simp [trA, ndsE]; done) | fail) (by first | (simp []; done) | fail) ?_
        simp
      obtain ⟨q1, q2, q3, q4⟩ := hlaw hno
      have hnid0 := (okT_iff.1 q3).id_ne0
      have hbll := belowOf_len t (findP t from_)
      first | refine CallA.snapE (BelowOf_spec hZ t (findP t from_)) (by first | (simp [trA, ndsE]; done) | fail) (by first | (simp [noShr_ints]; done) | fail) ?_ | refine CallD.snapE (BelowOf_spec hZ t (findP t from_)) (by first | (simp [trA, ndsE]; done) | fail) (by first | (simp [noShr_ints]; done) | fail) ?_
      simp [intsE]
      generalize findP t from_ = id at q2 q4 hbll
      generalize hbl : belowOf t id = bl at q2 q4 hbll
      refine LoopA.run hZ (fun k : Nat => ⟨133, [(3, .ptr [(0, 0)]), (6, sA from_), (7, .ptr [(1, 0)]), (8, .ptr [(2, 0)]), (10, iA id), (11, .bor [(3, 0)] 0 bl.length), (12, iA k)], [[ndsE false t.nodes, iC t.next], edE ⟨3, from_, toM (v1 % 9), 0, 0⟩, [ndsE false n.nodes, iC n.next], [intsE true bl]], [true, true, true, false]⟩) (fun k => k ≤ bl.length) (fun k => bl.length - k) 0 (by simp) (by first | exact Sub.by [2, 7, 10, 12] (by first | (simp [ndsE, edE, intsE]; done) | fail) | exact Sub.by [2, 7, 10, 11] (by first | (simp [ndsE, edE, intsE]; done) | fail) | exact Sub.by [2, 7, 10, 13] (by first | (simp [ndsE, edE, intsE]; done) | fail)) fun k hk3 => ?_
      simp [ndsE, edE, intsE]
      refine Br.dec (fun h5 => ?_) (fun h5 => ?_) <;> simp [h5]
      · have hwk : IntKind.i64.wrap ((k : Int) + 1) = ((k + 1 : Nat) : Int) := wrap_i64 (by omega)
        have hy : bl[k]? = some bl[k] := List.getElem?_eq_getElem h5
        obtain ⟨u1, u2, u3⟩ := q4 _ (List.getElem_mem h5)
        generalize bl[k] = z at hy u1 u2 u3
        refine W_drawB hZ hmo 4 rfl 0 5 [(4, []), (4, []), (4, []), (4, []), (4, [])] (by kernel_rfl) ?_
        simp
        refine Need.mk h5 ?_
        simp [hy]
        first | refine CallA.snapE (PathOf_spec hZ t z) (by first | (simp [trA, ndsE]; done) | fail) (by first | (simp []; done) | fail) ?_ | refine CallD.snapE (PathOf_spec hZ t z) (by first | (simp [trA, ndsE]; done) | fail) (by first | (simp []; done) | fail) ?_
        have hqs := path_size (t := t) (id := z)
        generalize pathP t z = q at u2 u3 hqs
        simp
        refine W_drawB hZ hmo 5 rfl 2 26 [(5, []), (5, []), (5, []), (5, []), (5, []), (5, []), (5, []), (5, []), (5, []), (6, []), (6, []), (6, []), (6, []), (6, [5]), (6, [5]), (6, [5]), (6, [5]), (6, [5]), (6, [5]), (6, [5]), (6, [5]), (7, [5]), (7, [5]), (7, [5]), (7, [5]), (7, [5])] (by kernel_rfl) ?_
        simp [u2]
        have hes : (q.extract from_.size q.size).size ≤ 36 := by rw [ByteArray.size_extract]; omega
        have hts2 := toM_size (v1 % 9)
        generalize q.extract from_.size q.size = tl at u3 hes
        refine Need.mk (by omega) ?_
        simp
        first | refine CallA.snapE (iFindPath_spec hZ hG n (toM (v1 % 9) ++ tl) (by rw [ByteArray.size_append]; omega) hnid0) (by first | (simp [trA, ndsE]; done) | fail) (by first | (simp []; done) | fail) ?_ | refine CallD.snapE (iFindPath_spec hZ hG n (toM (v1 % 9) ++ tl) (by rw [ByteArray.size_append]; omega) hnid0) (by first | (simp [trA, ndsE]; done) | fail) (by first | (simp []; done) | fail) ?_
        simp [u3]
        refine Need.mk h5 ?_
        simp [hy]
        refine Need.mk h5 ?_
        simp [hy]
        first | refine CallA.snapE (iUsedBelow_spec hZ n z) (by first | (simp [trA, ndsE]; done) | fail) (by first | (simp []; done) | fail) ?_ | refine CallD.snapE (iUsedBelow_spec hZ n z) (by first | (simp [trA, ndsE]; done) | fail) (by first | (simp []; done) | fail) ?_
        simp
        refine Need.mk h5 ?_
        simp [hy]
        first | refine CallA.snapE (UsedBelow_spec hZ t z) (by first | (simp [trA, ndsE]; done) | fail) (by first | (simp []; done) | fail) ?_ | refine CallD.snapE (UsedBelow_spec hZ t z) (by first | (simp [trA, ndsE]; done) | fail) (by first | (simp []; done) | fail) ?_
        simp [u1]
        exact Again.mk (k + 1) (by omega) (by omega) (by first | exact Sub.by [0, 1, 2, 3] (by first | (simp [hwk, ndsE, edE, intsE]; done) | fail))
      · first | refine CallA.snapE (iBelowOf_spec2 hZ n id) (by first | (simp [trA, ndsE]; done) | fail) (by first | (simp [noShr_ints]; done) | fail) ?_ | refine CallD.snapE (iBelowOf_spec2 hZ n id) (by first | (simp [trA, ndsE]; done) | fail) (by first | (simp [noShr_ints]; done) | fail) ?_
        simp [intsE, q2]
        first | refine CallA.snapE (sameInts_spec hZ bl bl) (by first | (simp [intsE]; done) | fail) (by first | (simp []; done) | fail) ?_ | refine CallD.snapE (sameInts_spec hZ bl bl) (by first | (simp [intsE]; done) | fail) (by first | (simp []; done) | fail) ?_
        simp
        first | refine CallA.snapE (iFindPath_spec hZ hG n from_ (by omega) hnid0) (by first | (simp [trA, ndsE]; done) | fail) (by first | (simp []; done) | fail) ?_ | refine CallD.snapE (iFindPath_spec hZ hG n from_ (by omega) hnid0) (by first | (simp [trA, ndsE]; done) | fail) (by first | (simp []; done) | fail) ?_
        simp [q1]
    · first | refine CallA.snapE (iTreeOk_spec hZ t) (by first | (simp [trA, ndsE]; done) | fail) (by first | (simp []; done) | fail) ?_ | refine CallD.snapE (iTreeOk_spec hZ t) (by first | (simp [trA, ndsE]; done) | fail) (by first | (simp []; done) | fail) ?_
      simp [hok]
      first | refine CallA.snapE (iEditOk_spec hZ hG ⟨3, from_, toM (v1 % 9), 0, 0⟩ hms) (by first | (simp [edA, edE]; done) | fail) (by first | (simp []; done) | fail) ?_ | refine CallD.snapE (iEditOk_spec hZ hG ⟨3, from_, toM (v1 % 9), 0, 0⟩ hms) (by first | (simp [edA, edE]; done) | fail) (by first | (simp []; done) | fail) ?_
      simp [he]
end Go.Proofs.YtbhbkaonlillhaaGreatDoor
