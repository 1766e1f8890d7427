/- Contracts: records applied, by the program. -/
import Derived.Test.YtbhbkaonlillhaaGreatDoorCFi
namespace Go.Proofs.YtbhbkaonlillhaaGreatDoor
open Go Go.Abs Go.Proofs Go.Tm
set_option linter.unusedSimpArgs false
set_option linter.unusedVariables false
set_option maxRecDepth 10000
variable {Z : TypeId → Nat} {G : World → Prop} {B0 : Nat}
theorem under_eq (p q : ByteArray) : under q p = (decide (q = p) || Lib.hasPrefix q.data.toList (p ++ slash).data.toList) := rfl
theorem move_eq {t : Tree} {e : Edt} (ht : okT t.nodes t.next = true) (he : editB e = true) (h3 : e.kind = 3) (h0 : findP t e.path ≠ 0) : moveTi t e = moveT t e (findP t e.path) := by
  have hn : namedP e.path = true ∧ namedP e.to = true := by
    unfold editB at he
    simp [h3] at he
    exact ⟨he.2.1.1, he.2.1.2⟩
  unfold moveTi moveT parentC
  rw [if_neg h0]
  by_cases h1 : findP t (upOf e.to).1 = 0
  · simp [h1]
  by_cases h2 : dirAt t.nodes (findP t (upOf e.to).1) = false
  · simp [h1, h2]
  by_cases h4 : findP t e.to = 0
  rotate_left
  · simp [h1, h2, h4]
  simp only [if_neg h1, if_neg h2, h4]
  rw [under_eq, under_below (okT_iff.1 ht) hn.1 hn.2 h0 h1 h4]
  simp only [movedTree]
  by_cases c1 : below t.nodes (findP t (upOf e.to).1) (findP t e.path) = true
  · simp [c1]
  · simp only [c1, if_false, Bool.false_eq_true]
    by_cases c2 : okT (modN t (atN t.nodes (findP t e.path)) (movedN (findP t (upOf e.to).1) (upOf e.to).2)).nodes (modN t (atN t.nodes (findP t e.path)) (movedN (findP t (upOf e.to).1) (upOf e.to).2)).next = false
    · simp [c2]
    · simp [c2]
theorem apply_code {t : Tree} {e : Edt} {g : Int} (h : (applyT t e g).2 ≠ 0) : (applyT t e g).1 = t := by
  unfold applyT at h ⊢
  split
  · rfl
  rename_i h0
  rw [if_neg h0] at h
  split
  · rfl
  rename_i h1
  rw [if_neg h1] at h
  split
  · rename_i h2
    rw [if_pos h2] at h
    unfold addT at h ⊢
    repeat' split
    all_goals first | rfl | skip
    rename_i c1 c2 c3 c4
    rw [if_neg c1, if_neg c2, if_neg c3, if_neg c4] at h
    exact absurd rfl h
  rename_i h2
  rw [if_neg h2] at h
  split
  · rename_i h3
    rw [if_pos h3] at h
    unfold addT at h ⊢
    repeat' split
    all_goals first | rfl | skip
    rename_i c1 c2 c3 c4
    rw [if_neg c1, if_neg c2, if_neg c3, if_neg c4] at h
    exact absurd rfl h
  rename_i h3
  rw [if_neg h3] at h
  split
  · rfl
  rename_i h4
  rw [if_neg h4] at h
  split
  · rfl
  rename_i x hx
  rw [hx] at h
  dsimp only at h
  split
  · rename_i h5
    rw [if_pos h5] at h
    unfold moveT at h ⊢
    repeat' split
    all_goals first | rfl | skip
    rename_i c1 c2 c3 c4
    rw [if_neg c1, if_neg c2, if_neg c3, if_neg c4] at h
    dsimp only at h ⊢
    split
    · rfl
    · rename_i c5
      rw [if_neg c5] at h
      exact absurd rfl h
  rename_i h5
  rw [if_neg h5] at h
  split
  · rename_i h6
    rw [if_pos h6] at h
    exact absurd rfl h
  rename_i h6
  rw [if_neg h6] at h
  split
  · rename_i h7
    rw [if_pos h7] at h
    unfold setT at h ⊢
    split
    · rfl
    rename_i c1
    rw [if_neg c1] at h
    split
    · rename_i c2
      rw [if_pos c2] at h
      exact absurd rfl h
    rename_i c2
    rw [if_neg c2] at h
    split
    · rfl
    · rename_i c3
      rw [if_neg c3] at h
      exact absurd rfl h
  · rename_i h7
    rw [if_neg h7] at h
    unfold writeT at h ⊢
    split
    · rfl
    rename_i c1
    rw [if_neg c1] at h
    split
    · rfl
    rename_i c2
    rw [if_neg c2] at h
    split
    · rename_i c3
      rw [if_pos c3] at h
      exact absurd rfl h
    rename_i c3
    rw [if_neg c3] at h
    split
    · rename_i c4
      rw [if_pos c4] at h
      exact absurd rfl h
    rename_i c4
    rw [if_neg c4] at h
    split
    · rfl
    rename_i c5
    rw [if_neg c5] at h
    split
    · rfl
    · rename_i c6
      rw [if_neg c6] at h
      exact absurd rfl h
theorem step_eq (p : Tree × Int) (e : Edt) : Go.Tm.stepT p e = ((applyT p.1 e p.2).1, groupsAfter p.1 e p.2) := by
  unfold Go.Tm.stepT
  split
  · rfl
  · rename_i h
    rw [apply_code h]
    unfold groupsAfter
    rw [if_pos h]
def ownI (t : Tree) (e : Edt) (g : Int) : Bool := decide ((applyT t e g).2 = 0) && !decide (e.kind = 10)
theorem turned_drop (hZ : ZOk Tryz.prog Z) (t : Tree) (e : Edt) (k : Nat) (x : Nod) (g : Int) (hx : t.nodes[k]? = some x) (ht : okT t.nodes t.next = true) (h4 : e.kind = 4) : Does Z Tryz.prog G B0 165 [trA false t, iA k, edA e, iA g] [] [] (fun y _ => y = .tup [trA true (dropT t x.id), iA 0]) := by
  refine Does.bodyF hZ Tryz.func165 rfl rfl (Nat.le_of_ble_eq_true rfl) fun hf => ?_
  simp [Tryz.f165, trA, ndsE, edA, edE]
  refine CallA.snapE (copyTree_spec hZ t (okT_sm ht)) (by simp [trA, ndsE]) (by simp [trA, noShr_nds]) ?_
  have hlen := (okT_iff.1 ht).len2
  have hk : k < t.nodes.length := (List.getElem?_eq_some_iff.1 hx).1
  have hxm := List.mem_of_getElem? hx
  have hsome : (nd t.nodes x.id).isSome = true := by rw [(okT_iff.1 ht).nd_self hxm]; rfl
  have hbl := belowOf_len t x.id
  have hxk : t.nodes[k] = x := (List.getElem?_eq_some_iff.1 hx).2
  have hdr := drop_eq ht hsome
  simp [trA, ndsE, hx, hk, hxk, ndE, pcsE, h4]
  refine W_drawB hZ hmo 5 rfl 2 7 [(5, []), (5, []), (5, []), (5, []), (5, []), (5, []), (6, [])] (by kernel_rfl) ?_
  simp [hx, hk, hxk, ndE, pcsE]
  refine CallD.snapE (iBelowOf_spec2 hZ t x.id) (by simp [trA, ndsE]) (noShr_ints _) ?_
  simp [intsE]
  refine CallA.rowE [(4, 0)] (delNd_spec hZ t.nodes (by omega) (fun y => (belowOf t x.id).contains y.id) 212 [.sptr [intsE false (belowOf t x.id)] 0] (by simp) (fun y _ => turned1_spec hZ y _ (by omega))) (by simp [ndsE]) (by simp [intsE]) ⟨by simp [noShr_nds], by simp⟩ ?_
  simp [ndsE]
  rw [← hdr]
  simp [dropT]
theorem CallA.closX {P : Program} {st : St} {f : FuncId} {args args' : List AV} {y : AV} {K : AV → St → Prop} (hF : Does Z P G B0 f args' [] [] fun z _ => z = y) (ha : args = args') (hs : closL args' = true) (hk : K (unpR (st.ext 1) st.rt.length y).1 (unpR (st.ext 1) st.rt.length y).2) : CallM Z P G B0 st f args K ⟨⟩ := by
  subst ha
  exact CallA.closE hF hs hk
set_option maxHeartbeats 1000000 in
theorem iapply_spec (hZ : ZOk Tryz.prog Z) (hG : ∀ w, G w → MG w) (t : Tree) (e : Edt) (g : Int) (he : SmE e) : Does Z Tryz.prog G B0 98 [trA false t, edA e, iA g] [] [] (fun y _ => y = .tup [trA (ownI t e g) (applyT t e g).1, iA (applyT t e g).2]) := by
  unfold ownI
  generalize hr : applyT t e g = r
  refine Does.bodyF hZ Tryz.func98 rfl rfl (Nat.le_of_ble_eq_true rfl) fun hf => ?_
  simp [Tryz.f98, trA, ndsE, edA, edE]
  refine CallA.snapE (iTreeOk_spec hZ t) (by simp [trA, ndsE]) (by simp) ?_
  unfold applyT at hr
  simp
  refine Br.bool (fun h1 => ?_) (fun h1 => ?_) <;> simp [h1] at hr ⊢
  rotate_left
  · subst hr
    simp [trA, ndsE]
  refine CallA.snapE (iEditOk_spec hZ hG e he) (by simp [edA, edE]) (by simp) ?_
  simp
  refine Br.bool (fun h2 => ?_) (fun h2 => ?_) <;> simp [h2] at hr ⊢
  rotate_left
  · subst hr
    simp [trA, ndsE]
  refine CallA.snapE (within_spec hZ g 1 99000) (by simp) (by simp) ?_
  simp
  refine Br.bool (fun h3 => ?_) (fun h3 => ?_) <;> simp [h3] at hr ⊢
  rotate_left
  · subst hr
    simp [trA, ndsE]
  have hkk := editB_kind h2
  by_cases k1 : e.kind = 1
  · have hm : madeT t e = r := by unfold madeT; rw [if_pos k1]; simpa [k1] using hr
    simp [k1]
    refine CallA.closX (made_spec hZ hG t e he h1) (by simp [trA, ndsE, edA, edE, k1]) (by simp [trA, ndsE, edA, edE]) ?_
    rw [hm]
    by_cases c0 : r.2 = 0
    · simp [c0, trA, ndsE]
    · simp [c0, trA, ndsE]
  by_cases k2 : e.kind = 2
  · have hm : madeT t e = r := by unfold madeT; rw [if_neg k1]; simpa [k1, k2] using hr
    simp [k2]
    refine CallA.closX (made_spec hZ hG t e he h1) (by simp [trA, ndsE, edA, edE, k2]) (by simp [trA, ndsE, edA, edE]) ?_
    rw [hm]
    by_cases c0 : r.2 = 0
    · simp [c0, trA, ndsE]
    · simp [c0, trA, ndsE]
  by_cases k3 : e.kind = 3
  · simp [k3] at hr
    simp [k3]
    have hm : moveTi t e = r := by
      by_cases h4 : findP t e.path = 0
      · rw [if_pos h4] at hr
        unfold moveTi
        rw [if_pos h4, hr]
      · obtain ⟨j, q, gq, ga, gn⟩ := findP_nd h4
        rw [if_neg h4, gn] at hr
        rw [move_eq h1 h2 k3 h4]
        simpa using hr
    refine CallA.closX (movedTo_spec hZ hG t e he h1) (by simp [trA, ndsE, edA, edE, k3]) (by simp [trA, ndsE, edA, edE]) ?_
    rw [hm]
    by_cases c0 : r.2 = 0
    · simp [c0, trA, ndsE]
    · simp [c0, trA, ndsE]
  by_cases k10 : e.kind = 10
  · simp [k10] at hr ⊢
    subst hr
    simp [trA, ndsE]
  simp [k1, k2, k3, k10] at hr ⊢
  refine CallA.snapE (found_spec hZ hG t e.path he.1 h1) (by simp [trA, ndsE]) (by simp) ?_
  by_cases h4 : findP t e.path = 0
  · rw [if_pos h4] at hr
    subst hr
    simp [h4, at_zero h1, trA, ndsE]
  obtain ⟨j, q, gq, ga, gn⟩ := findP_nd h4
  have hat : atN t.nodes (findP t e.path) = j := by simp [atN, ga]
  have hj0 : ¬ (j : Int) < 0 := by omega
  have hqid : q.id = findP t e.path := (nd_mem gn).2
  rw [if_neg h4, gn, hat] at hr
  simp [ga, hj0] at hr ⊢
  by_cases k4 : e.kind = 4
  · rw [if_pos k4] at hr
    refine CallA.closX (turned_drop hZ t e j q g gq h1 k4) (by simp [trA, ndsE, edA, edE]) (by simp [trA, ndsE, edA, edE]) ?_
    subst hr
    simp [trA, ndsE, hqid]
  rw [if_neg k4] at hr
  have hm : turnedT t e j q g = r := by
    by_cases k5 : e.kind = 5 ∨ e.kind = 6
    · rw [turned_set k5]; simpa [k5] using hr
    · rw [turned_write h2 (by omega)]; simpa [k5] using hr
  refine CallA.closX (turned_rest hZ t e j q g gq h1 (fun h7 => editB_add h2 h7) (by simpa [inB] using h3) (by omega)) (by simp [trA, ndsE, edA, edE]) (by simp [trA, ndsE, edA, edE]) ?_
  rw [hm]
  by_cases c0 : r.2 = 0
  · simp [c0, trA, ndsE]
  · simp [c0, trA, ndsE]
end Go.Proofs.YtbhbkaonlillhaaGreatDoor
