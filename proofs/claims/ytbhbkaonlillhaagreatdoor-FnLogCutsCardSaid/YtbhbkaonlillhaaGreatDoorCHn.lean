/- Contracts. -/
import Derived.Test.YtbhbkaonlillhaaGreatDoorCHj
/- Contracts: files put in and taken out. -/
namespace Go.Proofs.YtbhbkaonlillhaaGreatDoor
open Go Go.Abs Go.Proofs Go.Tm
set_option linter.unusedSimpArgs false
set_option linter.unusedVariables false
set_option maxRecDepth 10000
variable {Z : TypeId → Nat} {G : World → Prop} {B0 : Nat}
theorem ltN_gt (f x : ByteArray) : ltN f x = !leN x f := by
  unfold ltN leN
  rw [Go.Proofs.bytesLess_eq, Bool.eq_iff_iff]
  simp [List.not_le]
set_option maxHeartbeats 2000000 in
theorem l03Without_spec (hZ : ZOk Tryz.prog Z) (l : List Fil) (nm : ByteArray) (hl : l.length ≤ 1000) : Does Z Tryz.prog G B0 150 [diA false l, sA nm] [] [] (fun y _ => y = diA true (withoutF l nm)) := by
  refine Does.bodyF hZ Tryz.func150 rfl rfl (Nat.le_of_ble_eq_true rfl) fun hf => ?_
  simp [diA, fisE] at hf
  simp [Tryz.f150, diA, fisE]
  refine LoopA.run hZ (fun p : Nat × List Fil => ⟨34, [(1, sA nm), (2, .ptr [(0, 0)]), (4, .ptr [(1, 0)]), (5, .ptr [(2, 0)]), (6, iA p.1)], [[fisE false l], [fisE true []], [fisE true p.2]], [true, true, true]⟩) (fun p => p.1 ≤ l.length ∧ p.2.length ≤ p.1 ∧ p.2 = (l.take p.1).filter fun x => !decide (x.name = nm)) (fun p => l.length - p.1) (0, []) (by simp) (by first | exact Sub.by [0,1,2] (by first | (simp [fisE]; done) | fail)) fun ⟨i, o⟩ ⟨hi, hol, ho⟩ => ?_
  dsimp only at hi hol ho
  simp [fisE]
  refine Br.dec (fun h => ?_) (fun h => ?_)
  · have hx : l[i]? = some l[i] := List.getElem?_eq_getElem h
    have hw := w_inc h hf.1.1
    generalize l[i] = x at hx
    have hft := filter_take' (p := fun x : Fil => !decide (x.name = nm)) hx
    simp [hx, fiE]
    refine Br.dec (fun h2 => ?_) (fun h2 => ?_) <;> simp [h2]
    · exact Again.mk (i + 1, o) ⟨by dsimp only; omega, by dsimp only; omega, by dsimp only; rw [hft, ho]; simp [h2]⟩ (by dsimp only; omega) (by first | exact Sub.by [0,1,2] (by first | (simp [hw, fisE]; done) | fail))
    · refine W_drawB hZ hmo 3 rfl 1 8 [(3, []), (3, []), (3, []), (3, []), (3, []), (3, []), (3, []), (3, [])] (by kernel_rfl) ?_
      simp [hx, fiE]
      refine Need.mk ⟨by omega, by omega⟩ ?_
      simp [hx, fiE]
      exact Again.mk (i + 1, o ++ [x]) ⟨by dsimp only; omega, by simp; omega, by dsimp only; rw [hft, ho]; simp [h2]⟩ (by dsimp only; omega) (by first | exact Sub.by [0,1,2] (by first | (simp [hw, fisE, fiE]; done) | fail))
  · rw [List.take_of_length_le (by omega)] at ho
    simp [withoutF, ho, fisE]
set_option maxHeartbeats 2000000 in
theorem l03Put_spec (hZ : ZOk Tryz.prog Z) (l : List Fil) (f : Fil) (hl : l.length ≤ 1000) : Does Z Tryz.prog G B0 149 [diA false l, fiA f] [] [] (fun y _ => y = diA true (putF l f)) := by
  refine Does.bodyF hZ Tryz.func149 rfl rfl (Nat.le_of_ble_eq_true rfl) fun hf => ?_
  simp [diA, fisE] at hf
  simp [Tryz.f149, diA, fisE, fiA, fiE]
  refine LoopA.run hZ (fun p : Nat × List Fil => ⟨68, [(2, .ptr [(0, 0)]), (3, .ptr [(1, 0)]), (4, .ptr [(2, 0)]), (5, .ptr [(3, 0)]), (6, iA p.1)], [[fisE false l], [sC f.name, sC f.text, iC f.kept], [fisE true []], [fisE true p.2]], [true, true, true, true]⟩) (fun p => p.1 ≤ l.length ∧ p.2.length ≤ p.1 ∧ p.2 = (l.take p.1).filter fun x => ltN x.name f.name) (fun p => l.length - p.1) (0, []) (by simp) (by first | exact Sub.by [0,1,2,3] (by first | (simp [fisE]; done) | fail)) fun ⟨i, o⟩ ⟨hi, hol, ho⟩ => ?_
  dsimp only at hi hol ho
  simp [fisE]
  refine Br.dec (fun h => ?_) (fun h => ?_)
  · have hx : l[i]? = some l[i] := List.getElem?_eq_getElem h
    have hw := w_inc h hf.1.1
    generalize l[i] = x at hx
    have hft := filter_take' (p := fun x : Fil => ltN x.name f.name) hx
    refine W_drawB hZ hmo 4 rfl 0 8 [(4, []), (4, []), (4, []), (4, []), (4, []), (4, []), (4, []), (4, [])] (by kernel_rfl) ?_
    simp [hx, fiE]
    refine Br.bool (fun h2 => ?_) (fun h2 => ?_) <;> simp [h2]
    · refine W_drawB hZ hmo 4 rfl 1 8 [(4, []), (4, []), (4, []), (4, []), (4, []), (4, []), (4, []), (4, [])] (by kernel_rfl) ?_
      simp [hx, fiE]
      refine Need.mk ⟨by omega, by omega⟩ ?_
      simp [hx, fiE]
      exact Again.mk (i + 1, o ++ [x]) ⟨by dsimp only; omega, by simp; omega, by dsimp only; rw [hft, ho]; simp [show ltN x.name f.name = true from h2]⟩ (by dsimp only; omega) (by first | exact Sub.by [0,1,2,3] (by first | (simp [hw, fisE, fiE]; done) | fail))
    · exact Again.mk (i + 1, o) ⟨by dsimp only; omega, by dsimp only; omega, by dsimp only; rw [hft, ho]; simp [show ltN x.name f.name = false from h2]⟩ (by dsimp only; omega) (by first | exact Sub.by [0,1,2,3] (by first | (simp [hw, fisE]; done) | fail))
  · rw [List.take_of_length_le (by omega)] at ho
    simp [fiE]
    refine Need.mk ⟨by omega, by omega⟩ ?_
    simp [fiE]
    refine LoopA.run hZ (fun p : Nat × List Fil => ⟨68, [(2, .ptr [(0, 0)]), (3, .ptr [(1, 0)]), (4, .ptr [(2, 0)]), (5, .ptr [(3, 0)]), (7, iA p.1)], [[fisE false l], [sC f.name, sC f.text, iC f.kept], [fisE true []], [fisE true p.2]], [true, true, true, true]⟩) (fun p => p.1 ≤ l.length ∧ p.2.length ≤ p.1 + o.length + 1 ∧ p.2 = o ++ f :: (l.take p.1).filter fun x => ltN f.name x.name) (fun p => l.length - p.1) (0, o ++ [f]) ⟨by simp, by simp, by simp⟩ (by first | exact Sub.by [0,1,2,3] (by first | (simp [fisE, fiE]; done) | fail)) fun ⟨j, q⟩ ⟨hj, hql, hq⟩ => ?_
    dsimp only at hj hql hq
    simp [fisE]
    refine Br.dec (fun h => ?_) (fun h => ?_)
    · have hx : l[j]? = some l[j] := List.getElem?_eq_getElem h
      have hw := w_inc h hf.1.1
      generalize l[j] = x at hx
      have hft := filter_take' (p := fun x : Fil => ltN f.name x.name) hx
      refine W_drawB hZ hmo 4 rfl 0 8 [(4, []), (4, []), (4, []), (4, []), (4, []), (4, []), (4, []), (4, [])] (by kernel_rfl) ?_
      simp [hx, fiE]
      refine Br.bool (fun h2 => ?_) (fun h2 => ?_) <;> simp [h2]
      rotate_left
      · refine W_drawB hZ hmo 4 rfl 1 8 [(4, []), (4, []), (4, []), (4, []), (4, []), (4, []), (4, []), (4, [])] (by kernel_rfl) ?_
        simp [hx, fiE]
        refine Need.mk ⟨by omega, by omega⟩ ?_
        simp [hx, fiE]
        exact Again.mk (j + 1, q ++ [x]) ⟨by dsimp only; omega, by simp; omega, by dsimp only; rw [hft, hq]; simp [show ltN f.name x.name = true by rw [ltN_gt, h2]; rfl]⟩ (by dsimp only; omega) (by first | exact Sub.by [0,1,2,3] (by first | (simp [hw, fisE, fiE]; done) | fail))
      · exact Again.mk (j + 1, q) ⟨by dsimp only; omega, by dsimp only; omega, by dsimp only; rw [hft, hq]; simp [show ltN f.name x.name = false by rw [ltN_gt, h2]; rfl]⟩ (by dsimp only; omega) (by first | exact Sub.by [0,1,2,3] (by first | (simp [hw, fisE]; done) | fail))
    · rw [List.take_of_length_le (by omega)] at hq
      simp [putF, ← ho, ← hq, fisE]
end Go.Proofs.YtbhbkaonlillhaaGreatDoor

/- Contracts: one act on a disk. -/
namespace Go.Proofs.YtbhbkaonlillhaaGreatDoor
open Go Go.Abs Go.Proofs Go.Tm
set_option linter.unusedSimpArgs false
set_option linter.unusedVariables false
set_option maxRecDepth 10000
variable {Z : TypeId → Nat} {G : World → Prop} {B0 : Nat}
theorem chk_eq (l : List Fil) : chkD l = (if diskB l = true then l else [], diskB l) := by
  unfold chkD
  cases diskB l <;> rfl
theorem file_small {l : List Fil} (h : diskB l = true) {nm : ByteArray} {f : Fil} (hf : fileN l nm = some f) : f.text.size ≤ 20000 := by
  have := text_small h nm
  unfold textN at this
  rw [hf] at this
  exact this
set_option maxHeartbeats 4000000 in
theorem DoAct_spec (hZ : ZOk Tryz.prog Z) (l : List Fil) (a : Akt) (ha : a.text.size ≤ 1048576) : Does Z Tryz.prog G B0 80 [diA false l, akA a] [] [] (fun y _ => y = .tup [diA true (doAct l a).1, bA (doAct l a).2]) := by
  generalize hr : doAct l a = r
  refine Does.bodyF hZ Tryz.func80 rfl rfl (Nat.le_of_ble_eq_true rfl) fun hf => ?_
  simp [Tryz.f80, diA, fisE, akA, akE]
  unfold doAct at hr
  first | refine CallA.snapE (DiskOk_spec hZ l) (by first | (simp [diA, fisE]; done) | fail) (by first | (simp []; done) | fail) ?_ | refine CallD.snapE (DiskOk_spec hZ l) (by first | (simp [diA, fisE]; done) | fail) (by first | (simp []; done) | fail) ?_
  simp
  cases h : diskB l with
  | false =>
    rw [if_pos (.inl h)] at hr; subst hr
    simp [fisE]
  | true =>
  simp
  first | refine CallA.snapE (l03Name_spec hZ a.name) (by first | (simp []; done) | fail) (by first | (simp []; done) | fail) ?_ | refine CallD.snapE (l03Name_spec hZ a.name) (by first | (simp []; done) | fail) (by first | (simp []; done) | fail) ?_
  simp
  cases hn : inB a.name.size 1 8 with
  | false =>
    rw [if_pos (.inr (.inl hn))] at hr; subst hr
    simp [fisE]
  | true =>
  simp
  by_cases c3 : a.kind ≠ 3 ∧ a.to ≠ ⟨#[]⟩
  · rw [if_pos (.inr (.inr (.inl c3)))] at hr; subst hr
    simp [c3.1, c3.2, fisE]
  by_cases c1 : a.kind ≠ 1 ∧ a.text ≠ ⟨#[]⟩
  · rw [if_pos (.inr (.inr (.inr c1)))] at hr; subst hr
    by_cases k3 : a.kind = 3
    · simp [k3, c1.2, fisE]
    · have t0 : a.to = ⟨#[]⟩ := Decidable.by_contra fun c => c3 ⟨k3, c⟩
      simp [k3, t0, c1.1, c1.2, fisE]
  rw [if_neg (by rintro (c | c | c | c); exact absurd c (by rw [h]; decide); exact absurd c (by rw [hn]; decide); exact c3 c; exact c1 c)] at hr
  have hl30 := (diskB_iff.1 h).1
  by_cases k1 : a.kind = 1
  · have t0 : a.to = ⟨#[]⟩ := Decidable.by_contra fun c => c3 ⟨by omega, c⟩
    rw [if_pos k1] at hr
    simp [k1, t0]
    first | refine CallA.snapE (l03At_spec hZ l a.name) (by first | (simp [diA, fisE]; done) | fail) (by first | (simp []; done) | fail) ?_ | refine CallD.snapE (l03At_spec hZ l a.name) (by first | (simp [diA, fisE]; done) | fail) (by first | (simp []; done) | fail) ?_
    rcases idxN_cases l a.name with ⟨h1, h2⟩ | ⟨i, x, hx, h1, h2⟩
    · rw [h2] at hr
      dsimp only at hr
      have e1 : a.text.size ≤ 9223372036854775807 := by omega
      have e2 : (⟨#[]⟩ : ByteArray).size + a.text.size ≤ 9223372036854775807 := by rw [empty_size]; omega
      simp [h1, k1, e1, e2]
      first | refine CallA.snapE (l03Put_spec hZ l ⟨a.name, ⟨#[]⟩ ++ a.text, 0⟩ (by omega)) (by first | (simp [diA, fisE, fiA, fiE]; done) | fail) (by first | (simp [diA, noShr_fis]; done) | fail) ?_ | refine CallD.snapE (l03Put_spec hZ l ⟨a.name, ⟨#[]⟩ ++ a.text, 0⟩ (by omega)) (by first | (simp [diA, fisE, fiA, fiE]; done) | fail) (by first | (simp [diA, noShr_fis]; done) | fail) ?_
      simp [diA, fisE]
      generalize putF l ⟨a.name, ⟨#[]⟩ ++ a.text, 0⟩ = o at hr ⊢
      rw [chk_eq] at hr
      subst hr
      first | refine CallA.snapE (DiskOk_spec hZ o) (by first | (simp [diA, fisE]; done) | fail) (by first | (simp []; done) | fail) ?_ | refine CallD.snapE (DiskOk_spec hZ o) (by first | (simp [diA, fisE]; done) | fail) (by first | (simp []; done) | fail) ?_
      cases hd : diskB o <;> simp [hd, fisE]
    · rw [h2] at hr
      dsimp only at hr
      obtain ⟨hlt, hxi⟩ := List.getElem?_eq_some_iff.1 hx
      have hn0 : ¬ (i : Int) < 0 := by omega
      have hxs := file_small h h2
      have e2 : x.text.size + a.text.size ≤ 9223372036854775807 := by omega
      simp [h1, hx, hlt, hxi, hn0, k1, e2, fiE]
      first | refine CallA.snapE (l03Put_spec hZ l ⟨x.name, x.text ++ a.text, x.kept⟩ (by omega)) (by first | (simp [diA, fisE, fiA, fiE]; done) | fail) (by first | (simp [diA, noShr_fis]; done) | fail) ?_ | refine CallD.snapE (l03Put_spec hZ l ⟨x.name, x.text ++ a.text, x.kept⟩ (by omega)) (by first | (simp [diA, fisE, fiA, fiE]; done) | fail) (by first | (simp [diA, noShr_fis]; done) | fail) ?_
      simp [diA, fisE]
      generalize putF l ⟨x.name, x.text ++ a.text, x.kept⟩ = o at hr ⊢
      rw [chk_eq] at hr
      subst hr
      first | refine CallA.snapE (DiskOk_spec hZ o) (by first | (simp [diA, fisE]; done) | fail) (by first | (simp []; done) | fail) ?_ | refine CallD.snapE (DiskOk_spec hZ o) (by first | (simp [diA, fisE]; done) | fail) (by first | (simp []; done) | fail) ?_
      cases hd : diskB o <;> simp [hd, fisE]
  have x0 : a.text = ⟨#[]⟩ := Decidable.by_contra fun c => c1 ⟨k1, c⟩
  rw [if_neg k1] at hr
  by_cases k3 : a.kind = 3
  · simp [k3, x0]
    first | refine CallA.snapE (l03At_spec hZ l a.name) (by first | (simp [diA, fisE]; done) | fail) (by first | (simp []; done) | fail) ?_ | refine CallD.snapE (l03At_spec hZ l a.name) (by first | (simp [diA, fisE]; done) | fail) (by first | (simp []; done) | fail) ?_
    rcases idxN_cases l a.name with ⟨h1, h2⟩ | ⟨i, x, hx, h1, h2⟩
    · rw [h2] at hr
      dsimp only at hr
      subst hr
      simp [h1, k3, fisE]
    · rw [h2] at hr
      dsimp only at hr
      rw [if_neg (by omega), if_pos k3] at hr
      obtain ⟨hlt, hxi⟩ := List.getElem?_eq_some_iff.1 hx
      have hn0 : ¬ (i : Int) < 0 := by omega
      simp [h1, hx, hlt, hxi, hn0, k3, fiE]
      by_cases d1 : x.kept < x.text.size
      · rw [if_pos (.inl d1)] at hr; subst hr
        simp [d1, fisE]
      by_cases d2 : a.to = a.name
      · rw [if_pos (.inr (.inl d2))] at hr; subst hr
        simp [d1, d2, fisE]
      simp [d1, d2]
      first | refine CallA.snapE (l03Name_spec hZ a.to) (by first | (simp []; done) | fail) (by first | (simp []; done) | fail) ?_ | refine CallD.snapE (l03Name_spec hZ a.to) (by first | (simp []; done) | fail) (by first | (simp []; done) | fail) ?_
      cases d3 : inB a.to.size 1 8 with
      | false =>
        rw [if_pos (.inr (.inr d3))] at hr; subst hr
        simp [fisE]
      | true =>
        rw [if_neg (by rintro (c | c | c); exact d1 c; exact d2 c; exact absurd c (by rw [d3]; decide))] at hr
        simp
        refine W_drawB hZ hmo 9 rfl 1 5 [(9, []), (9, []), (9, []), (9, []), (10, [])] (by kernel_rfl) ?_
        simp
        first | refine CallA.snapE (l03Without_spec hZ l a.name (by omega)) (by first | (simp [diA, fisE]; done) | fail) (by first | (simp [diA, noShr_fis]; done) | fail) ?_ | refine CallD.snapE (l03Without_spec hZ l a.name (by omega)) (by first | (simp [diA, fisE]; done) | fail) (by first | (simp [diA, noShr_fis]; done) | fail) ?_
        simp [diA, fisE]
        have hwl : (withoutF l a.name).length ≤ 1000 := by
          have : (withoutF l a.name).length ≤ l.length := List.length_filter_le _ _
          omega
        generalize withoutF l a.name = u at hr hwl ⊢
        first | refine CallA.snapE (l03Put_spec hZ u ⟨a.to, x.text, x.kept⟩ hwl) (by first | (simp [diA, fisE, fiA, fiE]; done) | fail) (by first | (simp [diA, noShr_fis]; done) | fail) ?_ | refine CallD.snapE (l03Put_spec hZ u ⟨a.to, x.text, x.kept⟩ hwl) (by first | (simp [diA, fisE, fiA, fiE]; done) | fail) (by first | (simp [diA, noShr_fis]; done) | fail) ?_
        simp [diA, fisE]
        generalize putF u ⟨a.to, x.text, x.kept⟩ = o at hr ⊢
        rw [chk_eq] at hr
        subst hr
        first | refine CallA.snapE (DiskOk_spec hZ o) (by first | (simp [diA, fisE]; done) | fail) (by first | (simp []; done) | fail) ?_ | refine CallD.snapE (DiskOk_spec hZ o) (by first | (simp [diA, fisE]; done) | fail) (by first | (simp []; done) | fail) ?_
        cases hd : diskB o <;> simp [hd, fisE]
  have t0 : a.to = ⟨#[]⟩ := Decidable.by_contra fun c => c3 ⟨k3, c⟩
  simp [k1, k3, x0, t0]
  first | refine CallA.snapE (l03At_spec hZ l a.name) (by first | (simp [diA, fisE]; done) | fail) (by first | (simp []; done) | fail) ?_ | refine CallD.snapE (l03At_spec hZ l a.name) (by first | (simp [diA, fisE]; done) | fail) (by first | (simp []; done) | fail) ?_
  rcases idxN_cases l a.name with ⟨h1, h2⟩ | ⟨i, x, hx, h1, h2⟩
  · rw [h2] at hr
    dsimp only at hr
    subst hr
    simp [h1, k1, fisE]
  rw [h2] at hr
  dsimp only at hr
  obtain ⟨hlt, hxi⟩ := List.getElem?_eq_some_iff.1 hx
  have hn0 : ¬ (i : Int) < 0 := by omega
  simp [h1, hx, hlt, hxi, hn0, k1, fiE]
  by_cases k2 : a.kind = 2
  · rw [if_pos k2] at hr
    simp [k2]
    first | refine CallA.snapE (l03Put_spec hZ l ⟨x.name, x.text, x.text.size⟩ (by omega)) (by first | (simp [diA, fisE, fiA, fiE]; done) | fail) (by first | (simp [diA, noShr_fis]; done) | fail) ?_ | refine CallD.snapE (l03Put_spec hZ l ⟨x.name, x.text, x.text.size⟩ (by omega)) (by first | (simp [diA, fisE, fiA, fiE]; done) | fail) (by first | (simp [diA, noShr_fis]; done) | fail) ?_
    simp [diA, fisE]
    generalize putF l ⟨x.name, x.text, x.text.size⟩ = o at hr ⊢
    rw [chk_eq] at hr
    subst hr
    first | refine CallA.snapE (DiskOk_spec hZ o) (by first | (simp [diA, fisE]; done) | fail) (by first | (simp []; done) | fail) ?_ | refine CallD.snapE (DiskOk_spec hZ o) (by first | (simp [diA, fisE]; done) | fail) (by first | (simp []; done) | fail) ?_
    cases hd : diskB o <;> simp [hd, fisE]
  rw [if_neg k2, if_neg k3] at hr
  by_cases k4 : a.kind = 4
  · rw [if_pos k4] at hr
    simp [k4]
    first | refine CallA.snapE (l03Without_spec hZ l a.name (by omega)) (by first | (simp [diA, fisE]; done) | fail) (by first | (simp [diA, noShr_fis]; done) | fail) ?_ | refine CallD.snapE (l03Without_spec hZ l a.name (by omega)) (by first | (simp [diA, fisE]; done) | fail) (by first | (simp [diA, noShr_fis]; done) | fail) ?_
    simp [diA, fisE]
    generalize withoutF l a.name = o at hr ⊢
    rw [chk_eq] at hr
    subst hr
    first | refine CallA.snapE (DiskOk_spec hZ o) (by first | (simp [diA, fisE]; done) | fail) (by first | (simp []; done) | fail) ?_ | refine CallD.snapE (DiskOk_spec hZ o) (by first | (simp [diA, fisE]; done) | fail) (by first | (simp []; done) | fail) ?_
    cases hd : diskB o <;> simp [hd, fisE]
  rw [if_neg k4] at hr
  subst hr
  simp [k2, k3, k4, fisE]
end Go.Proofs.YtbhbkaonlillhaaGreatDoor

/- Contracts: many acts on a disk; what a cut leaves. -/
namespace Go.Proofs.YtbhbkaonlillhaaGreatDoor
open Go Go.Abs Go.Proofs Go.Tm
set_option linter.unusedSimpArgs false
set_option linter.unusedVariables false
set_option maxRecDepth 10000
variable {Z : TypeId → Nat} {G : World → Prop} {B0 : Nat}
set_option maxHeartbeats 2000000 in
theorem DoActs_spec (hZ : ZOk Tryz.prog Z) (l : List Fil) (la : List Akt) (hl : l.length ≤ 1000) (ha : ∀ a ∈ la, a.text.size ≤ 1048576) : Does Z Tryz.prog G B0 19 [diA false l, .c (aksE false la)] [] [] (fun y _ => y = .tup [diA true (doActs l la 0).1, iA (doActs l la 0).2]) := by
  generalize hr : doActs l la 0 = r
  refine Does.bodyF hZ Tryz.func19 rfl rfl (Nat.le_of_ble_eq_true rfl) fun hf => ?_
  simp [diA, fisE, aksE] at hf
  simp [Tryz.f19, diA, fisE, aksE]
  refine Need.mk ⟨by omega, by omega⟩ ?_
  simp
  refine LoopA.run hZ (fun p : Nat × List Fil => ⟨38, [(1, .c (aksE false la)), (4, .ptr [(0, 0)]), (6, .ptr [(1, 0)]), (7, iA p.1)], [[fisE true []], [fisE true p.2]], [true, true]⟩) (fun p => p.1 ≤ la.length ∧ doActs p.2 (la.drop p.1) p.1 = r) (fun p => la.length - p.1) (0, l) ⟨Nat.zero_le _, by simpa using hr⟩ (by first | exact Sub.by [1,2] (by first | (simp [fisE, aksE]; done) | fail) | exact Sub.by [1,3] (by first | (simp [fisE, aksE]; done) | fail) | exact Sub.by [1,4] (by first | (simp [fisE, aksE]; done) | fail) | exact Sub.by [1,5] (by first | (simp [fisE, aksE]; done) | fail)) fun ⟨i, o⟩ ⟨hi, he⟩ => ?_
  dsimp only at hi he
  simp [fisE, aksE]
  refine Br.dec (fun h => ?_) (fun h => ?_)
  rotate_left
  · rw [List.drop_eq_nil_of_le (show la.length ≤ i by omega), doActs] at he
    subst he
    obtain rfl : i = la.length := by omega
    simp [fisE]
  have hx : la[i]? = some la[i] := List.getElem?_eq_getElem h
  have hax := ha _ (List.getElem_mem h)
  have hw := w_inc h hf.2.1
  rw [List.drop_eq_getElem_cons h, doActs] at he
  generalize la[i] = a at hx hax he
  refine W_drawMB hZ hmo 2 rfl 2 10 [(2, []), (2, []), (2, []), (2, []), (2, []), (2, []), (3, [2]), (3, [2]), (3, [2]), (3, [])] [8] 4 (by kernel_rfl) rfl ?_
  simp [hx, akE]
  first | refine CallA.snapE (DoAct_spec hZ o a hax) (by first | (simp [diA, fisE, akA, akE]; done) | fail) (by first | (simp [diA, noShr_fis]; done) | fail) ?_ | refine CallD.snapE (DoAct_spec hZ o a hax) (by first | (simp [diA, fisE, akA, akE]; done) | fail) (by first | (simp [diA, noShr_fis]; done) | fail) ?_
  simp [diA, fisE]
  generalize doAct o a = q at he ⊢
  obtain ⟨q, b⟩ := q
  cases b with
  | false =>
    rw [if_neg (by simp)] at he
    subst he
    simp [fisE]
  | true =>
    rw [if_pos rfl] at he
    simp
    exact Again.mk (i + 1, q) ⟨by dsimp only; omega, he⟩ (by dsimp only; omega) (by first | exact Sub.by [0,1] (by first | (simp [hw, fisE, aksE]; done) | fail))
end Go.Proofs.YtbhbkaonlillhaaGreatDoor

/- Contracts: what the power leaves of a disk, of acts. -/
namespace Go.Proofs.YtbhbkaonlillhaaGreatDoor
open Go Go.Abs Go.Proofs Go.Tm
set_option linter.unusedSimpArgs false
set_option linter.unusedVariables false
set_option maxRecDepth 10000
variable {Z : TypeId → Nat} {G : World → Prop} {B0 : Nat}
theorem mapIdx_snoc {α β : Type} (f : Nat → α → β) {l : List α} {i : Nat} {x : α} (hx : l[i]? = some x) : (l.take (i + 1)).mapIdx f = (l.take i).mapIdx f ++ [f i x] := by
  have hi := (List.getElem?_eq_some_iff.1 hx).1
  rw [List.take_add_one, hx]
  have hm : min i l.length = i := by omega
  simp [List.mapIdx_append, hm]
theorem leftN_bounds {left : List Int} {i : Nat} {x : Fil} (h0 : 0 ≤ x.kept) (h1 : x.kept ≤ x.text.size) : 0 ≤ leftN left i x ∧ leftN left i x ≤ x.text.size := by
  unfold leftN
  dsimp only
  split <;> split <;> omega
set_option maxHeartbeats 2000000 in
theorem LoseDisk_spec (hZ : ZOk Tryz.prog Z) (l : List Fil) (left : List Int) : Does Z Tryz.prog G B0 87 [diA false l, .c (intsE false left)] [] [] (fun y _ => y = .tup [diA true (loseD l left).1, bA (loseD l left).2]) := by
  refine Does.bodyF hZ Tryz.func87 rfl rfl (Nat.le_of_ble_eq_true rfl) fun hf => ?_
  simp [diA, fisE, intsE] at hf
  simp [Tryz.f87, diA, fisE, intsE]
  first | refine CallA.snapE (DiskOk_spec hZ l) (by first | (simp [diA, fisE]; done) | fail) (by first | (simp []; done) | fail) ?_ | refine CallD.snapE (DiskOk_spec hZ l) (by first | (simp [diA, fisE]; done) | fail) (by first | (simp []; done) | fail) ?_
  simp
  unfold loseD
  cases hd : diskB l with
  | false => simp [fisE]
  | true =>
  have hd2 := diskB_iff.1 hd
  simp
  refine LoopA.run hZ (fun p : Nat × List Fil => ⟨63, [(1, .c (intsE false left)), (2, .ptr [(0, 0)]), (4, .ptr [(1, 0)]), (6, .ptr [(2, 0)]), (7, iA p.1)], [[fisE false l], [fisE true []], [fisE true p.2]], [true, true, true]⟩) (fun p => p.1 ≤ l.length ∧ p.2.length ≤ p.1 ∧ p.2 = (l.take p.1).mapIdx (loseF left)) (fun p => l.length - p.1) (0, []) (by simp) (by first | exact Sub.by [0,1,2] (by first | (simp [fisE, intsE]; done) | fail) | exact Sub.by [0,1,3] (by first | (simp [fisE, intsE]; done) | fail)) fun ⟨i, o⟩ ⟨hi, hol, ho⟩ => ?_
  dsimp only at hi hol ho
  simp [fisE, intsE]
  refine Br.dec (fun h => ?_) (fun h => ?_)
  rotate_left
  · rw [List.take_of_length_le (by omega)] at ho
    simp [← ho, fisE]
  have hx : l[i]? = some l[i] := List.getElem?_eq_getElem h
  have hw := w_inc h hf.1.1
  have hfx := hd2.2 i _ hx
  generalize l[i] = x at hx hfx
  have hms := mapIdx_snoc (loseF left) hx
  unfold filB at hfx
  simp only [Bool.and_eq_true, decide_eq_true_eq, inB_iff] at hfx
  obtain ⟨⟨⟨_, _⟩, hk0, hk1⟩, _⟩ := hfx
  obtain ⟨hb0, hb1⟩ := leftN_bounds (left := left) (i := i) hk0 hk1
  simp [hx, fiE]
  refine Br.dec (fun h1 => ?_) (fun h1 => ?_)
  · have hlx : left[i]? = some left[i] := List.getElem?_eq_getElem h1
    simp [hlx, h1]
    generalize left[i] = v at hlx
    refine Br.dec (fun h2 => ?_) (fun h2 => ?_) <;> simp [h2]
    · have h3 : ¬ (x.text.size : Int) < x.kept := by omega
      simp [h3]
      have hn : leftN left i x = (x.text.size : Int) := by unfold leftN; simp [hlx, h2, h3]
      have hlo : loseF left i x = ⟨x.name, x.text.extract 0 ((x.text.size : Int)).toNat, (x.text.size : Int)⟩ := by unfold loseF; rw [hn]
      rw [hn] at hb0 hb1
      rw [hlo] at hms
      refine W_drawB hZ hmo 4 rfl 1 11 [(4, []), (4, []), (4, []), (4, []), (4, []), (4, []), (4, []), (4, []), (4, []), (4, []), (4, [])] (by kernel_rfl) ?_
      simp [hx, fiE, hb0, hb1]
      refine Need.mk ⟨by omega, by omega⟩ ?_
      simp [hx, fiE]
      exact Again.mk (i + 1, o ++ [⟨x.name, x.text.extract 0 ((x.text.size : Int)).toNat, (x.text.size : Int)⟩]) ⟨by dsimp only; omega, by simp; omega, by dsimp only; rw [hms, ho]⟩ (by dsimp only; omega) (by first | exact Sub.by [0,1,2] (by first | (simp [hw, fisE, fiE, intsE]; done) | fail))
    · refine Br.dec (fun h3 => ?_) (fun h3 => ?_) <;> simp [h3]
      · have hn : leftN left i x = x.kept := by unfold leftN; simp [hlx, h2, h3]
        have hlo : loseF left i x = ⟨x.name, x.text.extract 0 (x.kept).toNat, x.kept⟩ := by unfold loseF; rw [hn]
        rw [hn] at hb0 hb1
        rw [hlo] at hms
        refine W_drawB hZ hmo 4 rfl 1 11 [(4, []), (4, []), (4, []), (4, []), (4, []), (4, []), (4, []), (4, []), (4, []), (4, []), (4, [])] (by kernel_rfl) ?_
        simp [hx, fiE, hb0, hb1]
        refine Need.mk ⟨by omega, by omega⟩ ?_
        simp [hx, fiE]
        exact Again.mk (i + 1, o ++ [⟨x.name, x.text.extract 0 (x.kept).toNat, x.kept⟩]) ⟨by dsimp only; omega, by simp; omega, by dsimp only; rw [hms, ho]⟩ (by dsimp only; omega) (by first | exact Sub.by [0,1,2] (by first | (simp [hw, fisE, fiE, intsE]; done) | fail))
      · have hn : leftN left i x = v := by unfold leftN; simp [hlx, h2, h3]
        have hlo : loseF left i x = ⟨x.name, x.text.extract 0 (v).toNat, v⟩ := by unfold loseF; rw [hn]
        rw [hn] at hb0 hb1
        rw [hlo] at hms
        refine W_drawB hZ hmo 4 rfl 1 11 [(4, []), (4, []), (4, []), (4, []), (4, []), (4, []), (4, []), (4, []), (4, []), (4, []), (4, [])] (by kernel_rfl) ?_
        simp [hx, fiE, hb0, hb1]
        refine Need.mk ⟨by omega, by omega⟩ ?_
        simp [hx, fiE]
        exact Again.mk (i + 1, o ++ [⟨x.name, x.text.extract 0 (v).toNat, v⟩]) ⟨by dsimp only; omega, by simp; omega, by dsimp only; rw [hms, ho]⟩ (by dsimp only; omega) (by first | exact Sub.by [0,1,2] (by first | (simp [hw, fisE, fiE, intsE]; done) | fail))
  · have hlx : left[i]? = none := List.getElem?_eq_none (by omega)
    have h2 : ¬ (x.text.size : Int) < 0 := by omega
    simp [h1, h2]
    refine Br.dec (fun h3 => ?_) (fun h3 => ?_) <;> simp [h3]
    · have hn : leftN left i x = x.kept := by unfold leftN; simp [hlx, h2, h3]
      have hlo : loseF left i x = ⟨x.name, x.text.extract 0 (x.kept).toNat, x.kept⟩ := by unfold loseF; rw [hn]
      rw [hn] at hb0 hb1
      rw [hlo] at hms
      refine W_drawB hZ hmo 4 rfl 1 11 [(4, []), (4, []), (4, []), (4, []), (4, []), (4, []), (4, []), (4, []), (4, []), (4, []), (4, [])] (by kernel_rfl) ?_
      simp [hx, fiE, hb0, hb1]
      refine Need.mk ⟨by omega, by omega⟩ ?_
      simp [hx, fiE]
      exact Again.mk (i + 1, o ++ [⟨x.name, x.text.extract 0 (x.kept).toNat, x.kept⟩]) ⟨by dsimp only; omega, by simp; omega, by dsimp only; rw [hms, ho]⟩ (by dsimp only; omega) (by first | exact Sub.by [0,1,2] (by first | (simp [hw, fisE, fiE, intsE]; done) | fail))
    · have hn : leftN left i x = 0 := by unfold leftN; simp [hlx, h2, h3]
      have hlo : loseF left i x = ⟨x.name, x.text.extract 0 (0 : Int).toNat, 0⟩ := by unfold loseF; rw [hn]
      rw [hn] at hb0 hb1
      rw [hlo] at hms
      refine W_drawB hZ hmo 4 rfl 1 11 [(4, []), (4, []), (4, []), (4, []), (4, []), (4, []), (4, []), (4, []), (4, []), (4, []), (4, [])] (by kernel_rfl) ?_
      simp [hx, fiE, hb0, hb1]
      refine Need.mk ⟨by omega, by omega⟩ ?_
      simp [hx, fiE]
      exact Again.mk (i + 1, o ++ [⟨x.name, x.text.extract 0 (0 : Int).toNat, 0⟩]) ⟨by dsimp only; omega, by simp; omega, by dsimp only; rw [hms, ho]⟩ (by dsimp only; omega) (by first | exact Sub.by [0,1,2] (by first | (simp [hw, fisE, fiE, intsE]; done) | fail))
set_option maxHeartbeats 2000000 in
theorem CutActs_spec (hZ : ZOk Tryz.prog Z) (l : List Fil) (la : List Akt) (whole : Int) (left : List Int) (hl : l.length ≤ 1000) (ha : ∀ a ∈ la, a.text.size ≤ 1048576) : Does Z Tryz.prog G B0 22 [diA false l, .c (aksE false la), iA whole, .c (intsE false left)] [] [] (fun y _ => y = .tup [diA true (cutA l la whole left).1, bA (cutA l la whole left).2]) := by
  refine Does.bodyF hZ Tryz.func22 rfl rfl (Nat.le_of_ble_eq_true rfl) fun hf => ?_
  simp [diA, fisE, aksE, intsE] at hf
  simp [Tryz.f22, diA, fisE, aksE, intsE]
  first | refine CallA.snapE (l01In_spec hZ whole 0 la.length) (by first | (simp []; done) | fail) (by first | (simp []; done) | fail) ?_ | refine CallD.snapE (l01In_spec hZ whole 0 la.length) (by first | (simp []; done) | fail) (by first | (simp []; done) | fail) ?_
  simp
  unfold cutA
  cases hin : inB whole 0 la.length with
  | false => simp [fisE]
  | true =>
  have hwb := inB_iff.1 hin
  obtain ⟨k, rfl⟩ : ∃ k : Nat, whole = (k : Int) := ⟨whole.toNat, by omega⟩
  have hk : k ≤ la.length := by omega
  have hD := DoActs_spec (Z := Z) (G := G) (B0 := B0) hZ l (la.take k) hl fun a h => ha a (List.mem_of_mem_take h)
  rw [Int.toNat_natCast]
  generalize doActs l (la.take k) 0 = q at hD ⊢
  simp
  refine W_drawMB hZ hmo 3 rfl 2 9 [(3, []), (3, []), (3, []), (3, []), (3, []), (4, [3]), (4, [3]), (4, [3]), (4, [])] [7] 5 (by kernel_rfl) rfl ?_
  simp [hk]
  first | refine CallA.snapE (hD) (by first | (simp [diA, fisE, aksE, -List.map_take, ← List.map_take]; done) | fail) (by first | (simp [diA, noShr_fis]; done) | fail) ?_ | refine CallD.snapE (hD) (by first | (simp [diA, fisE, aksE, -List.map_take, ← List.map_take]; done) | fail) (by first | (simp [diA, noShr_fis]; done) | fail) ?_
  simp [diA, fisE]
  refine Br.dec (fun h2 => ?_) (fun h2 => ?_) <;> simp [h2]
  first | refine CallA.snapE (LoseDisk_spec hZ q.1 left) (by first | (simp [diA, fisE, intsE]; done) | fail) (by first | (simp [diA, noShr_fis]; done) | fail) ?_ | refine CallD.snapE (LoseDisk_spec hZ q.1 left) (by first | (simp [diA, fisE, intsE]; done) | fail) (by first | (simp [diA, noShr_fis]; done) | fail) ?_
  simp [diA, fisE]
end Go.Proofs.YtbhbkaonlillhaaGreatDoor

