/- Contract: a unit is put, by the program. -/
import Derived.Test.YtbhbkaonlillhaaCUe
namespace Go.Proofs.Ytbhbkaonlillhaa
open Go Go.Abs Go.Proofs Go.Tm
set_option linter.unusedSimpArgs false
set_option linter.unusedVariables false
set_option maxRecDepth 10000
variable {Z : TypeId → Nat} {G : World → Prop} {B0 : Nat}
set_option maxHeartbeats 2000000 in
theorem iPutUnit_spec (hZ : ZOk Try.prog Z) (h : Hst) (u : Un) (hp : h.units.length ≤ 1048576) : Does Z Try.prog G B0 20 [hsA false h, unA u] [] [] (fun y _ => y = .tup [hsA true (putHst h u).1, bA (putHst h u).2]) := by
  obtain ⟨id, up, l⟩ := h
  refine Does.bodyF hZ Try.func20 rfl rfl (Nat.le_of_ble_eq_true rfl) fun hf => ?_
  simp [hsA, unsE, unA, unE] at hf
  dsimp only at hp
  simp [Try.f20, hsA, unsE, unA, unE]
  first | refine CallA.snapE (copyHost_spec hZ ⟨id, up, l⟩ (by dsimp only; omega)) (by first | (simp [hsA, unsE]; done) | fail) (by first | (simp [hsA, noShr_uns]; done) | fail) ?_ | refine CallD.snapE (copyHost_spec hZ ⟨id, up, l⟩ (by dsimp only; omega)) (by first | (simp [hsA, unsE]; done) | fail) (by first | (simp [hsA, noShr_uns]; done) | fail) ?_
  simp [hsA, unsE]
  first | refine CallA.snapE (iSumText_spec hZ u.text) (by first | (simp []; done) | fail) (by first | (simp []; done) | fail) ?_ | refine CallD.snapE (iSumText_spec hZ u.text) (by first | (simp []; done) | fail) (by first | (simp []; done) | fail) ?_
  simp
  first | refine CallA.snapE (unitAt_spec hZ ⟨id, up, l⟩ u.group u.index) (by first | (simp [hsA, unsE]; done) | fail) (by first | (simp []; done) | fail) ?_ | refine CallD.snapE (unitAt_spec hZ ⟨id, up, l⟩ u.group u.index) (by first | (simp [hsA, unsE]; done) | fail) (by first | (simp []; done) | fail) ?_
  simp
  rcases atU_cases l u.group u.index with ⟨h1, h2⟩ | ⟨i, x, hx, h1, h2⟩
  · have hn0 : ¬ (0 : Int) ≤ -1 := by omega
    simp [h1, hn0]
    first | refine CallA.snapE (idxUn_spec hZ l (lessU (sumd u)) 64 [.sptr (unE (sumd u)) 0] (by simp) (fun x _ => putUnit1_spec hZ x (sumd u))) (by first | (simp [unsE, unE, sumd]; done) | fail) (by first | (simp []; done) | fail) ?_ | refine CallD.snapE (idxUn_spec hZ l (lessU (sumd u)) 64 [.sptr (unE (sumd u)) 0] (by simp) (fun x _ => putUnit1_spec hZ x (sumd u))) (by first | (simp [unsE, unE, sumd]; done) | fail) (by first | (simp []; done) | fail) ?_
    simp
    rcases idxF_find (lessU (sumd u)) l 0 with ⟨h3, h4⟩ | ⟨j, y, hy, h3, h4⟩
    · simp [h3]
      refine CallA.rowE [(4, 2)] (insUn_spec hZ l l.length (Nat.le_refl _) (by omega) (sumd u) hf.2) (by simp [unsE]) (by simp [unsE, unE, sumd]; rfl) ⟨noShr_uns _, by simp⟩ ?_
      have hins0 : l.take l.length ++ sumd u :: l.drop l.length = insU l (sumd u) := by
        simp only [List.take_length, List.drop_length]
        unfold insU
        have e : atU l (sumd u).group (sumd u).index = -1 := h1
        rw [e, if_neg (by omega), h3, if_neg (by omega)]
      generalize l.take l.length ++ sumd u :: l.drop l.length = M at hins0
      have hins := hins0
      simp [unsE]

      first | refine CallA.snapE (iHostOk_spec hZ ⟨id, up, l⟩) (by first | (simp [hsA, unsE]; done) | fail) (by first | (simp []; done) | fail) ?_ | refine CallD.snapE (iHostOk_spec hZ ⟨id, up, l⟩) (by first | (simp [hsA, unsE]; done) | fail) (by first | (simp []; done) | fail) ?_
      simp
      refine Br.bool (fun c1 => ?_) (fun c1 => ?_) <;> simp [c1]
      · have hpu := ins_put (sumd u) ((okU_none l).1 (by simp only [okHst, Bool.and_eq_true] at c1; exact c1.1)).2
        obtain rfl : M = putU l (sumd u) := hins.trans hpu
        refine Br.bool (fun c2 => ?_) (fun c2 => ?_) <;> simp [c2]
        · first | refine CallA.snapE (iHostOk_spec hZ ⟨id, true, putU l (sumd u)⟩) (by first | (simp [hsA, unsE]; done) | fail) (by first | (simp []; done) | fail) ?_ | refine CallD.snapE (iHostOk_spec hZ ⟨id, true, putU l (sumd u)⟩) (by first | (simp [hsA, unsE]; done) | fail) (by first | (simp []; done) | fail) ?_
          simp
          rw [c2] at c1
          refine Br.bool (fun c3 => ?_) (fun c3 => ?_) <;> simp [c3]
          · simp [putHst, c1, c3, hsA, unsE]
          · first | refine CallA.snapE (copyHost_spec hZ ⟨id, true, l⟩ (by dsimp only; omega)) (by first | (simp [hsA, unsE]; done) | fail) (by first | (simp [hsA, noShr_uns]; done) | fail) ?_ | refine CallD.snapE (copyHost_spec hZ ⟨id, true, l⟩ (by dsimp only; omega)) (by first | (simp [hsA, unsE]; done) | fail) (by first | (simp [hsA, noShr_uns]; done) | fail) ?_
            simp [putHst, c1, c3, hsA, unsE]
        · first | refine CallA.snapE (copyHost_spec hZ ⟨id, up, l⟩ (by dsimp only; omega)) (by first | (simp [hsA, unsE, c2]; done) | fail) (by first | (simp [hsA, noShr_uns]; done) | fail) ?_ | refine CallD.snapE (copyHost_spec hZ ⟨id, up, l⟩ (by dsimp only; omega)) (by first | (simp [hsA, unsE, c2]; done) | fail) (by first | (simp [hsA, noShr_uns]; done) | fail) ?_
          simp [putHst, c2, hsA, unsE]
      · first | refine CallA.snapE (copyHost_spec hZ ⟨id, up, l⟩ (by dsimp only; omega)) (by first | (simp [hsA, unsE]; done) | fail) (by first | (simp [hsA, noShr_uns]; done) | fail) ?_ | refine CallD.snapE (copyHost_spec hZ ⟨id, up, l⟩ (by dsimp only; omega)) (by first | (simp [hsA, unsE]; done) | fail) (by first | (simp [hsA, noShr_uns]; done) | fail) ?_
        simp [putHst, c1, hsA, unsE]
    · have hj := (List.getElem?_eq_some_iff.1 hy).1
      have hj0 : ¬ ((j : Int) < 0) := by omega
      rw [Nat.zero_add] at h3
      simp [h3, hj0]
      refine CallA.rowE [(4, 2)] (insUn_spec hZ l j (by omega) (by omega) (sumd u) hf.2) (by simp [unsE]) (by simp [unsE, unE, sumd]; rfl) ⟨noShr_uns _, by simp⟩ ?_
      have hins : l.take j ++ sumd u :: l.drop j = insU l (sumd u) := by
        unfold insU
        have e : atU l (sumd u).group (sumd u).index = -1 := h1
        rw [e, if_neg (by omega), h3, if_pos (by omega)]
        simp
      generalize l.take j ++ sumd u :: l.drop j = M at hins
      simp [unsE]

      first | refine CallA.snapE (iHostOk_spec hZ ⟨id, up, l⟩) (by first | (simp [hsA, unsE]; done) | fail) (by first | (simp []; done) | fail) ?_ | refine CallD.snapE (iHostOk_spec hZ ⟨id, up, l⟩) (by first | (simp [hsA, unsE]; done) | fail) (by first | (simp []; done) | fail) ?_
      simp
      refine Br.bool (fun c1 => ?_) (fun c1 => ?_) <;> simp [c1]
      · have hpu := ins_put (sumd u) ((okU_none l).1 (by simp only [okHst, Bool.and_eq_true] at c1; exact c1.1)).2
        obtain rfl : M = putU l (sumd u) := hins.trans hpu
        refine Br.bool (fun c2 => ?_) (fun c2 => ?_) <;> simp [c2]
        · first | refine CallA.snapE (iHostOk_spec hZ ⟨id, true, putU l (sumd u)⟩) (by first | (simp [hsA, unsE]; done) | fail) (by first | (simp []; done) | fail) ?_ | refine CallD.snapE (iHostOk_spec hZ ⟨id, true, putU l (sumd u)⟩) (by first | (simp [hsA, unsE]; done) | fail) (by first | (simp []; done) | fail) ?_
          simp
          rw [c2] at c1
          refine Br.bool (fun c3 => ?_) (fun c3 => ?_) <;> simp [c3]
          · simp [putHst, c1, c3, hsA, unsE]
          · first | refine CallA.snapE (copyHost_spec hZ ⟨id, true, l⟩ (by dsimp only; omega)) (by first | (simp [hsA, unsE]; done) | fail) (by first | (simp [hsA, noShr_uns]; done) | fail) ?_ | refine CallD.snapE (copyHost_spec hZ ⟨id, true, l⟩ (by dsimp only; omega)) (by first | (simp [hsA, unsE]; done) | fail) (by first | (simp [hsA, noShr_uns]; done) | fail) ?_
            simp [putHst, c1, c3, hsA, unsE]
        · first | refine CallA.snapE (copyHost_spec hZ ⟨id, up, l⟩ (by dsimp only; omega)) (by first | (simp [hsA, unsE, c2]; done) | fail) (by first | (simp [hsA, noShr_uns]; done) | fail) ?_ | refine CallD.snapE (copyHost_spec hZ ⟨id, up, l⟩ (by dsimp only; omega)) (by first | (simp [hsA, unsE, c2]; done) | fail) (by first | (simp [hsA, noShr_uns]; done) | fail) ?_
          simp [putHst, c2, hsA, unsE]
      · first | refine CallA.snapE (copyHost_spec hZ ⟨id, up, l⟩ (by dsimp only; omega)) (by first | (simp [hsA, unsE]; done) | fail) (by first | (simp [hsA, noShr_uns]; done) | fail) ?_ | refine CallD.snapE (copyHost_spec hZ ⟨id, up, l⟩ (by dsimp only; omega)) (by first | (simp [hsA, unsE]; done) | fail) (by first | (simp [hsA, noShr_uns]; done) | fail) ?_
        simp [putHst, c1, hsA, unsE]
  · obtain ⟨hi, hxe⟩ := List.getElem?_eq_some_iff.1 hx
    simp [h1, hi, hx, hxe, unE]
    obtain ⟨M, hM⟩ : ∃ M, M = l.set i (sumd u) := ⟨_, rfl⟩
    have hMl : M.length = l.length := by rw [hM]; simp
    have hmod : (((((l.map unE).modify i fun x => x.set 0 (iC u.group)).modify i fun x => x.set 1 (iC u.index)).modify i fun x => x.set 2 (sC u.text)).modify i fun x => x.set 3 (iC (sumV u.text))) = M.map unE := by
      rw [hM]
      simp only [List.modify_modify_eq]
      apply List.ext_getElem?
      intro j
      rw [List.getElem?_modify, List.getElem?_map, List.getElem?_map, List.getElem?_set]
      by_cases c : i = j
      · subst c
        simp [hi, unE, sumd]
      · simp [c]
    have htk : (M.map unE).take l.length = M.map unE := List.take_of_length_le (by simp [hMl])
    have hins : M = insU l (sumd u) := by
      rw [hM]
      unfold insU
      have e : atU l (sumd u).group (sumd u).index = (i : Int) := h1
      rw [e, if_pos (by omega)]
      simp

    first | refine CallA.snapE (iHostOk_spec hZ ⟨id, up, l⟩) (by first | (simp [hsA, unsE]; done) | fail) (by first | (simp []; done) | fail) ?_ | refine CallD.snapE (iHostOk_spec hZ ⟨id, up, l⟩) (by first | (simp [hsA, unsE]; done) | fail) (by first | (simp []; done) | fail) ?_
    simp
    refine Br.bool (fun c1 => ?_) (fun c1 => ?_) <;> simp [c1]
    · have hpu := ins_put (sumd u) ((okU_none l).1 (by simp only [okHst, Bool.and_eq_true] at c1; exact c1.1)).2
      obtain rfl : M = putU l (sumd u) := hins.trans hpu
      refine Br.bool (fun c2 => ?_) (fun c2 => ?_) <;> simp [c2]
      · refine CallA.snapE (iHostOk_spec hZ ⟨id, true, putU l (sumd u)⟩) (by simp [hsA, unsE, hmod, hMl, htk]) (by simp) ?_
        simp
        rw [c2] at c1
        refine Br.bool (fun c3 => ?_) (fun c3 => ?_) <;> simp [c3]
        · simp [putHst, c1, c3, hsA, unsE, hmod, hMl, htk]
        · first | refine CallA.snapE (copyHost_spec hZ ⟨id, true, l⟩ (by dsimp only; omega)) (by first | (simp [hsA, unsE]; done) | fail) (by first | (simp [hsA, noShr_uns]; done) | fail) ?_ | refine CallD.snapE (copyHost_spec hZ ⟨id, true, l⟩ (by dsimp only; omega)) (by first | (simp [hsA, unsE]; done) | fail) (by first | (simp [hsA, noShr_uns]; done) | fail) ?_
          simp [putHst, c1, c3, hsA, unsE]
      · first | refine CallA.snapE (copyHost_spec hZ ⟨id, up, l⟩ (by dsimp only; omega)) (by first | (simp [hsA, unsE, c2]; done) | fail) (by first | (simp [hsA, noShr_uns]; done) | fail) ?_ | refine CallD.snapE (copyHost_spec hZ ⟨id, up, l⟩ (by dsimp only; omega)) (by first | (simp [hsA, unsE, c2]; done) | fail) (by first | (simp [hsA, noShr_uns]; done) | fail) ?_
        simp [putHst, c2, hsA, unsE]
    · first | refine CallA.snapE (copyHost_spec hZ ⟨id, up, l⟩ (by dsimp only; omega)) (by first | (simp [hsA, unsE]; done) | fail) (by first | (simp [hsA, noShr_uns]; done) | fail) ?_ | refine CallD.snapE (copyHost_spec hZ ⟨id, up, l⟩ (by dsimp only; omega)) (by first | (simp [hsA, unsE]; done) | fail) (by first | (simp [hsA, noShr_uns]; done) | fail) ?_
      simp [putHst, c1, hsA, unsE]
end Go.Proofs.Ytbhbkaonlillhaa
