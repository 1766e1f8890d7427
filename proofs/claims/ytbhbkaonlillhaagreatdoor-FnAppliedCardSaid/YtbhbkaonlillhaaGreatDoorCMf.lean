/- The law: a drawn record that a drawn tree takes leaves it right. -/
import Derived.Test.YtbhbkaonlillhaaGreatDoorCGc
import Derived.Test.YtbhbkaonlillhaaGreatDoorCSa
import Derived.Test.YtbhbkaonlillhaaGreatDoorCSh
import Derived.Test.YtbhbkaonlillhaaGreatDoorCFk
import Derived.Test.YtbhbkaonlillhaaGreatDoorCEm
import Derived.Test.YtbhbkaonlillhaaGreatDoorTn
namespace Go.Proofs.YtbhbkaonlillhaaGreatDoor
open Go Go.Abs Go.Proofs Go.Tm
set_option linter.unusedSimpArgs false
set_option linter.unusedVariables false
set_option maxRecDepth 10000
variable {Z : TypeId → Nat} {G : World → Prop} {B0 : Nat}
theorem DrawRightPair_shr (hZ : ZOk Tryz.prog Z) (b : List Int) : Does Z Tryz.prog G B0 44 [.c (byE b)] [] [] (fun y _ => ∃ t e, y = .tup [trA false t, edA e] ∧ GoodT t ∧ e.path.size ≤ 60 ∧ e.to.size ≤ 60) :=
  (DrawRightPair_spec hZ b).shr fun y r ⟨t, e, hy, hd⟩ => ⟨t, e, by rw [hy]; simp [shA, shAL, shA_tr, edA, edE, share], hd⟩
theorem iApply_sh (hZ : ZOk Tryz.prog Z) (hG : ∀ w, G w → MG w) (t : Tree) (e : Edt) (g : Int) (hs : Sm t.nodes) (he : SmE e) : Does Z Tryz.prog G B0 33 [trA false t, edA e, iA g] [] [] (fun y _ => y = .tup [trA false (applyT t e g).1, iA (applyT t e g).2]) :=
  (iApply_spec hZ hG t e g hs he).shr fun y r h => by rw [h]; simp [shA, shAL, shA_tr, share]
theorem Apply_sh (hZ : ZOk Tryz.prog Z) (t : Tree) (e : Edt) (g : Int) (hs : Sm t.nodes) (he : SmE e) : Does Z Tryz.prog G B0 57 [trA false t, edA e, iA g] [] [] (fun y _ => y = .tup [trA false (applyT t e g).1, iA (applyT t e g).2]) :=
  (Apply_spec hZ t e g hs he).shr fun y r h => by rw [h]; simp [shA, shAL, shA_tr, share]
theorem groups_le {t : Tree} {e : Edt} {g : Int} : groupsAfter t e g ≤ g + 40 := by
  unfold groupsAfter
  split
  · omega
  split
  · omega
  split
  · omega
  split
  · rename_i h _ k _ x hx
    have h0 : (applyT t e g).2 = 0 := by simpa using h
    have he := (apply_pre h0).2.1
    have hn : e.num ≤ 200 := by
      have k7 : e.kind = 7 := by simpa using k
      unfold editB at he
      simp [k7, inB] at he
      omega
    have := spans_short (s := x.schema) hn
    omega
  · omega
set_option maxHeartbeats 2000000 in
theorem lawApplied_spec (hZ : ZOk Tryz.prog Z) (hG : ∀ w, G w → MG w) (b : List Int) : Does Z Tryz.prog G B0 13 [.c (byE b)] [] [] (fun y _ => y = bA true) := by
  refine Does.bodyF hZ Tryz.func13 rfl rfl (Nat.le_of_ble_eq_true rfl) fun hf => ?_
  simp [Tryz.f13, byE]
  refine CallA.snap (args' := [.c (byE b)]) (by simp [byE]) (big_spec hZ b) ?_
  rintro y ⟨v, rfl⟩
  refine ⟨by simp, ?_⟩
  simp
  refine Br.bool (fun hb => ?_) (fun hb => ?_) <;> simp [hb]
  have hD := DrawRightPair_shr (Z := Z) (G := G) (B0 := B0) hZ b
  unfold byE at hD
  refine CallA.clos (by simp) hD ?_
  rintro y ⟨t, e, rfl, ⟨g, n0, hGd, hn14⟩, hp60, ht60⟩
  have hok := hGd.ok
  have H := okT_iff.1 hok
  have hl1 := H.len1
  have hl14 := H.len2
  have hid0 := H.id_ne0
  have hst : Sm t.nodes := okT_sm hok
  have hse : SmE e := ⟨by omega, by omega⟩
  have hg900 : g ≤ 900 := by have := hGd.g1; omega
  have hnok := apply_ok (e := e) (g := 900) hok
  have hsame := apply_same (t := t) (e := e) (g := 900)
  have hadd := did_add (t := t) (e := e) (g := 900)
  have hmov := did_move (t := t) (e := e) (g := 900)
  have hdrop := did_drop (t := t) (e := e) (g := 900)
  have hrest := did_rest (t := t) (e := e) (g := 900)
  have hput := did_put (t := t) (e := e) (g := 900) hGd hg900
  have hpre := apply_pre (t := t) (e := e) (g := 900)
  have hup := groups_up (t := t) (e := e) (g := 900)
  have hle := groups_le (t := t) (e := e) (g := 900)
  have hgs := groups_same (t := t) (e := e) (g := 900)
  have hI := iApply_sh (Z := Z) (G := G) (B0 := B0) hZ hG t e 900 hst hse
  have hS := Apply_sh (Z := Z) (G := G) (B0 := B0) hZ t e 900 hst hse
  have hGI := iGroupsAfter_spec (Z := Z) (G := G) (B0 := B0) hZ hG t e 900 hse
  have hGS := GroupsAfter_spec (Z := Z) (G := G) (B0 := B0) hZ t e 900 hst hse
  generalize groupsAfter t e 900 = gg at hput hup hle hgs hGI hGS
  generalize (applyT t e 900).1 = n at hnok hsame hadd hmov hdrop hrest hput hI hS
  generalize (applyT t e 900).2 = no at hsame hadd hmov hdrop hrest hput hgs hpre hI hS
  have Hn := okT_iff.1 hnok
  have hnid0 := Hn.id_ne0
  have hnl := Hn.len2
  simp [trA, ndsE, edA, edE]
  first | refine CallA.closE (hI) (by first | (simp [trA, ndsE, edA, edE]; done) | fail) ?_ | refine CallD.closE (hI) (by first | (simp [trA, ndsE, edA, edE]; done) | fail) ?_
  simp [trA, ndsE]
  first | refine CallA.closE (hS) (by first | (simp [trA, ndsE, edA, edE]; done) | fail) ?_ | refine CallD.closE (hS) (by first | (simp [trA, ndsE, edA, edE]; done) | fail) ?_
  simp [trA, ndsE]
  first | refine CallA.snapE (hGI) (by first | (simp [trA, ndsE, edA, edE]; done) | fail) (by first | (simp []; done) | fail) ?_ | refine CallD.snapE (hGI) (by first | (simp [trA, ndsE, edA, edE]; done) | fail) (by first | (simp []; done) | fail) ?_
  simp
  first | refine CallA.snapE (sameTree_spec hZ n n) (by first | (simp [trA, ndsE]; done) | fail) (by first | (simp []; done) | fail) ?_ | refine CallD.snapE (sameTree_spec hZ n n) (by first | (simp [trA, ndsE]; done) | fail) (by first | (simp []; done) | fail) ?_
  simp
  first | refine CallA.snapE (iTreeOk_spec hZ n) (by first | (simp [trA, ndsE]; done) | fail) (by first | (simp []; done) | fail) ?_ | refine CallD.snapE (iTreeOk_spec hZ n) (by first | (simp [trA, ndsE]; done) | fail) (by first | (simp []; done) | fail) ?_
  simp [hnok]
  first | refine CallA.snapE (hGS) (by first | (simp [trA, ndsE, edA, edE]; done) | fail) (by first | (simp []; done) | fail) ?_ | refine CallD.snapE (hGS) (by first | (simp [trA, ndsE, edA, edE]; done) | fail) (by first | (simp []; done) | fail) ?_
  have hlt : ¬ gg < 900 := by omega
  simp [hlt]
  refine Br.dec (fun hno => ?_) (fun hno => ?_) <;> simp [hno]
  rotate_left
  · have := hsame hno
    subst this
    first | refine CallA.snapE (sameTree_spec hZ n n) (by first | (simp [trA, ndsE]; done) | fail) (by first | (simp []; done) | fail) ?_ | refine CallD.snapE (sameTree_spec hZ n n) (by first | (simp [trA, ndsE]; done) | fail) (by first | (simp []; done) | fail) ?_
    simp [hgs hno]
  first | refine CallA.snapE (iFindPath_spec hZ hG n e.path (by omega) hnid0) (by first | (simp [trA, ndsE]; done) | fail) (by first | (simp []; done) | fail) ?_ | refine CallD.snapE (iFindPath_spec hZ hG n e.path (by omega) hnid0) (by first | (simp [trA, ndsE]; done) | fail) (by first | (simp []; done) | fail) ?_
  simp
  obtain ⟨_, heb, _⟩ := hpre hno
  have hkk := editB_kinds heb
  have hw1 : IntKind.i64.wrap ((t.nodes.length : Int) + 1) = (t.nodes.length : Int) + 1 := wrap_i64 (by omega)
  rcases (by omega : e.kind = 1 ∨ e.kind = 2 ∨ e.kind = 3 ∨ e.kind = 4 ∨ e.kind = 7 ∨ (e.kind ≠ 1 ∧ e.kind ≠ 2 ∧ e.kind ≠ 3 ∧ e.kind ≠ 4 ∧ e.kind ≠ 7)) with k | k | k | k | k | ⟨k1, k2, k3, k4, k7⟩
  · obtain ⟨f1, f2⟩ := hadd hno (.inl k)
    have f2' : (n.nodes.length : Int) = (t.nodes.length : Int) + 1 := by omega
    simp [k, f1, hw1, f2']
  · obtain ⟨f1, f2⟩ := hadd hno (.inr k)
    have f2' : (n.nodes.length : Int) = (t.nodes.length : Int) + 1 := by omega
    simp [k, f1, hw1, f2']
  · obtain ⟨f1, f2, f3⟩ := hmov hno k
    simp [k, f1]
    refine W_drawB hZ hmo 13 rfl 2 20 [(13, []), (13, []), (13, []), (13, []), (13, []), (13, []), (13, []), (14, []), (14, []), (14, []), (14, [13]), (15, [13, 14]), (15, [13, 14]), (15, [13, 14]), (15, [13, 14]), (15, [13, 14]), (15, [13, 14]), (15, [13, 14]), (15, [13, 14]), (15, [13, 14])] (by kernel_rfl) ?_
    simp
    first | refine CallA.snapE (iFindPath_spec hZ hG n e.to (by omega) hnid0) (by first | (simp [trA, ndsE]; done) | fail) (by first | (simp []; done) | fail) ?_ | refine CallD.snapE (iFindPath_spec hZ hG n e.to (by omega) hnid0) (by first | (simp [trA, ndsE]; done) | fail) (by first | (simp []; done) | fail) ?_
    simp
    first | refine CallA.snapE (FindPath_spec hZ t e.path (by omega)) (by first | (simp [trA, ndsE]; done) | fail) (by first | (simp []; done) | fail) ?_ | refine CallD.snapE (FindPath_spec hZ t e.path (by omega)) (by first | (simp [trA, ndsE]; done) | fail) (by first | (simp []; done) | fail) ?_
    simp [f2, f3]
  · obtain ⟨f1, f2⟩ := hdrop hno k
    have hbl := belowOf_len t (findP t e.path)
    simp [k, f1]
    refine W_drawB hZ hmo 13 rfl 2 17 [(13, []), (13, []), (13, []), (13, []), (13, []), (13, []), (13, []), (13, []), (13, []), (13, []), (13, []), (13, []), (13, []), (13, []), (14, [13]), (15, [13, 14]), (15, [13, 14])] (by kernel_rfl) ?_
    simp
    first | refine CallA.snapE (FindPath_spec hZ t e.path (by omega)) (by first | (simp [trA, ndsE]; done) | fail) (by first | (simp []; done) | fail) ?_ | refine CallD.snapE (FindPath_spec hZ t e.path (by omega)) (by first | (simp [trA, ndsE]; done) | fail) (by first | (simp []; done) | fail) ?_
    simp
    first | refine CallA.snapE (BelowOf_spec hZ t (findP t e.path)) (by first | (simp [trA, ndsE]; done) | fail) (by first | (simp [noShr_ints]; done) | fail) ?_ | refine CallD.snapE (BelowOf_spec hZ t (findP t e.path)) (by first | (simp [trA, ndsE]; done) | fail) (by first | (simp [noShr_ints]; done) | fail) ?_
    have hw2 : IntKind.i64.wrap ((t.nodes.length : Int) - ((belowOf t (findP t e.path)).length : Int)) = (n.nodes.length : Int) := by rw [wrap_i64 (by omega)]; omega
    simp [intsE, hw2]
  · obtain ⟨f1, f2⟩ := hput hno k
    have hnum : 1 ≤ e.num ∧ e.num ≤ 200 := by
      unfold editB at heb
      simp [k, inB] at heb
      omega
    have hub := used_bound (t := t) (id := 1)
    have hgl := groupsOf_len t (findP n e.path)
    have hw3 : IntKind.i64.wrap (usedBelow t 1 + e.num) = usedBelow n 1 := by rw [wrap_i64 (by omega)]; omega
    simp [k]
    refine W_drawB hZ hmo 13 rfl 4 20 [(13, []), (13, []), (14, []), (14, [13]), (15, []), (15, []), (15, [13, 14]), (15, [13, 14]), (15, [13, 14]), (15, [13, 14]), (15, [13, 14]), (15, [13, 14]), (16, [13, 14, 15]), (16, [13, 14]), (16, [13, 14]), (16, [13, 14, 15]), (17, [13, 14, 15, 16]), (17, [13, 14]), (17, [13, 14, 15, 16]), (17, [13, 14, 15, 16])] (by kernel_rfl) ?_
    simp
    first | refine CallA.snapE (iUsedBelow_spec hZ n 1) (by first | (simp [trA, ndsE]; done) | fail) (by first | (simp []; done) | fail) ?_ | refine CallD.snapE (iUsedBelow_spec hZ n 1) (by first | (simp [trA, ndsE]; done) | fail) (by first | (simp []; done) | fail) ?_
    simp
    first | refine CallA.snapE (UsedBelow_spec hZ t 1) (by first | (simp [trA, ndsE]; done) | fail) (by first | (simp []; done) | fail) ?_ | refine CallD.snapE (UsedBelow_spec hZ t 1) (by first | (simp [trA, ndsE]; done) | fail) (by first | (simp []; done) | fail) ?_
    simp [hw3]
    first | refine CallA.snapE (iGroupsOf_spec hZ n (findP n e.path)) (by first | (simp [trA, ndsE]; done) | fail) (by first | (simp [noShr_ints]; done) | fail) ?_ | refine CallD.snapE (iGroupsOf_spec hZ n (findP n e.path)) (by first | (simp [trA, ndsE]; done) | fail) (by first | (simp [noShr_ints]; done) | fail) ?_
    simp [intsE]
    first | refine CallA.snapE (GroupsOf_spec hZ t (findP n e.path)) (by first | (simp [trA, ndsE]; done) | fail) (by first | (simp [noShr_ints]; done) | fail) ?_ | refine CallD.snapE (GroupsOf_spec hZ t (findP n e.path)) (by first | (simp [trA, ndsE]; done) | fail) (by first | (simp [noShr_ints]; done) | fail) ?_
    simp [intsE]
    rw [wrap_i64 (n := ((groupsOf t (findP n e.path)).length : Int) + gg) (by omega), wrap_i64 (by omega)]
    omega
  · obtain ⟨f1, f2⟩ := hrest hno k1 k2 k3 k4 k7
    simp [k1, k2, k3, k4, k7]
    refine W_drawB hZ hmo 13 rfl 1 11 [(13, []), (13, []), (13, []), (13, []), (13, []), (13, []), (13, []), (13, []), (13, []), (13, []), (14, [])] (by kernel_rfl) ?_
    simp [f1]
    first | refine CallA.snapE (UsedBelow_spec hZ n 1) (by first | (simp [trA, ndsE]; done) | fail) (by first | (simp []; done) | fail) ?_ | refine CallD.snapE (UsedBelow_spec hZ n 1) (by first | (simp [trA, ndsE]; done) | fail) (by first | (simp []; done) | fail) ?_
    simp
    first | refine CallA.snapE (UsedBelow_spec hZ t 1) (by first | (simp [trA, ndsE]; done) | fail) (by first | (simp []; done) | fail) ?_ | refine CallD.snapE (UsedBelow_spec hZ t 1) (by first | (simp [trA, ndsE]; done) | fail) (by first | (simp []; done) | fail) ?_
    simp [f2]
end Go.Proofs.YtbhbkaonlillhaaGreatDoor
