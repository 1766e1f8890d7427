/- Contracts. -/
import Derived.Test.YtbhbkaonlillhaaGreatDoorCHg
import Derived.Test.YtbhbkaonlillhaaGreatDoorCDd
import Derived.Test.YtbhbkaonlillhaaGreatDoorCFk
/- Contracts: disks that are right, files by their names. -/
namespace Go.Proofs.YtbhbkaonlillhaaGreatDoor
open Go Go.Abs Go.Proofs Go.Tm
set_option linter.unusedSimpArgs false
set_option linter.unusedVariables false
set_option maxRecDepth 10000
variable {Z : TypeId → Nat} {G : World → Prop} {B0 : Nat}
theorem diskB_iff {l : List Fil} : diskB l = true ↔ l.length ≤ 30 ∧ ∀ j x, l[j]? = some x → filB l j x = true := by
  unfold diskB
  rw [Bool.and_eq_true, decide_eq_true_eq, List.all_eq_true]
  constructor
  · rintro ⟨h1, h2⟩
    refine ⟨h1, fun j x hx => ?_⟩
    have hj : j < l.length := (List.getElem?_eq_some_iff.1 hx).1
    have := h2 j (List.mem_range.2 hj)
    rw [hx] at this
    exact this
  · rintro ⟨h1, h2⟩
    refine ⟨h1, fun j hj => ?_⟩
    have hj2 := List.mem_range.1 hj
    have hx : l[j]? = some l[j] := List.getElem?_eq_getElem hj2
    rw [hx]
    exact h2 j _ hx
theorem diskB_no {l : List Fil} {j : Nat} {x : Fil} (hx : l[j]? = some x) (h : filB l j x = false) : diskB l = false := by
  cases hd : diskB l with
  | false => rfl
  | true => rw [(diskB_iff.1 hd).2 j x hx] at h; cases h
theorem l03Name_spec (hZ : ZOk Tryz.prog Z) (s : ByteArray) : Does Z Tryz.prog G B0 147 [sA s] [] [] (fun y _ => y = bA (inB s.size 1 8)) := by
  refine Does.body hZ Tryz.func147 rfl rfl (Nat.le_of_ble_eq_true rfl) ?_
  simp [Tryz.f147]
  first | refine CallA.snapE (l01In_spec hZ s.size 1 8) (by first | (simp []; done) | fail) (by first | (simp []; done) | fail) ?_ | refine CallD.snapE (l01In_spec hZ s.size 1 8) (by first | (simp []; done) | fail) (by first | (simp []; done) | fail) ?_
  simp
set_option maxHeartbeats 2000000 in
theorem DiskOk_spec (hZ : ZOk Tryz.prog Z) (l : List Fil) : Does Z Tryz.prog G B0 135 [diA false l] [] [] (fun y _ => y = bA (diskB l)) := by
  refine Does.bodyF hZ Tryz.func135 rfl rfl (Nat.le_of_ble_eq_true rfl) fun hf => ?_
  simp [diA, fisE] at hf
  simp [Tryz.f135, diA, fisE]
  refine Br.dec (fun h0 => ?_) (fun h0 => ?_) <;> simp [h0]
  · unfold diskB; simp; omega
  refine LoopA.run hZ (fun i : Nat => ⟨56, [(1, .ptr [(0, 0)]), (3, iA i)], [[fisE false l]], [true]⟩) (fun i => i ≤ l.length ∧ ∀ j x, j < i → l[j]? = some x → filB l j x = true) (fun i => l.length - i) 0 ⟨Nat.zero_le _, fun j x h => by omega⟩ (by first | exact Sub.by [0] (by first | (simp [fisE]; done) | fail)) fun i ⟨hi, hb⟩ => ?_
  simp [fisE]
  refine Br.dec (fun h => ?_) (fun h => ?_)
  rotate_left
  · have e : diskB l = true := diskB_iff.2 ⟨by omega, fun j x hx => hb j x (by have := (List.getElem?_eq_some_iff.1 hx).1; omega) hx⟩
    simp [e]
  have hx : l[i]? = some l[i] := List.getElem?_eq_getElem h
  have hw : IntKind.i64.wrap ((i : Int) + 1) = ((i + 1 : Nat) : Int) := wrap_i64 (by omega)
  generalize l[i] = x at hx
  have hno := diskB_no hx
  have hgo : filB l i x = true → ∀ j y, j < i + 1 → l[j]? = some y → filB l j y = true := fun c j y hj hy => by
    by_cases e : j = i
    · subst e; rw [hx] at hy; cases hy; exact c
    · exact hb j y (by omega) hy
  have hF : filB l i x = (inB x.name.size 1 8 && decide (x.text.size ≤ 20000) && inB x.kept 0 x.text.size && (decide (i = 0) || (match l[i - 1]? with | some y => ltN y.name x.name | none => true))) := rfl
  simp [hx, fiE]
  refine W_drawB hZ hmo 2 rfl 2 32 [(2, []), (2, []), (2, []), (3, [2]), (3, [2]), (3, [2]), (3, [2]), (3, [2]), (3, [2]), (3, [2]), (3, [2]), (3, [2]), (3, [2]), (3, [2]), (3, [2]), (3, [2]), (3, [2]), (4, [2, 3]), (4, [2, 3]), (4, [2, 3]), (4, [2, 3]), (4, [2, 3]), (4, [2, 3]), (4, [2, 3]), (4, [2, 3]), (4, [2, 3]), (4, [2, 3]), (4, [2, 3]), (4, [2, 3]), (4, [2, 3]), (4, [2, 3]), (4, [2, 3])] (by kernel_rfl) ?_
  simp [hx, fiE]
  first | refine CallA.snapE (l03Name_spec hZ x.name) (by first | (simp []; done) | fail) (by first | (simp []; done) | fail) ?_ | refine CallD.snapE (l03Name_spec hZ x.name) (by first | (simp []; done) | fail) (by first | (simp []; done) | fail) ?_
  simp
  refine Br.bool (fun c1 => ?_) (fun c1 => ?_) <;> simp [c1]
  rotate_left
  · simp [hno (by rw [hF, c1]; rfl)]
  refine Br.dec (fun c2 => ?_) (fun c2 => ?_) <;> simp [c2]
  · simp [hno (by rw [hF, c1, decide_eq_false (by omega)]; rfl)]
  first | refine CallA.snapE (l01In_spec hZ x.kept 0 x.text.size) (by first | (simp []; done) | fail) (by first | (simp []; done) | fail) ?_ | refine CallD.snapE (l01In_spec hZ x.kept 0 x.text.size) (by first | (simp []; done) | fail) (by first | (simp []; done) | fail) ?_
  simp
  refine Br.bool (fun c3 => ?_) (fun c3 => ?_) <;> simp [c3]
  rotate_left
  · simp [hno (by rw [hF, c1, c3, decide_eq_true (by omega)]; rfl)]
  by_cases c4 : i = 0
  · subst c4
    have hfil : filB l 0 x = true := by rw [hF, c1, c3, decide_eq_true (by omega)]; rfl
    have hw1 : IntKind.i64.wrap 1 = 1 := rfl
    simp
    exact Again.mk 1 ⟨h, hgo hfil⟩ (by omega) (by first | exact Sub.by [0] (by first | (simp [hw1, fisE]; done) | fail))
  have hil : i - 1 < l.length := by omega
  have hy : l[i - 1]? = some l[i - 1] := List.getElem?_eq_getElem hil
  generalize l[i - 1] = y at hy
  have hwm : IntKind.i64.wrap ((i : Int) - 1) = ((i - 1 : Nat) : Int) := by rw [wrap_i64 (by omega)]; omega
  have hp : 0 < i := by omega
  rw [hy] at hF
  dsimp only at hF
  simp [hp, hwm, hy, fiE]
  refine Br.bool (fun c5 => ?_) (fun c5 => ?_) <;> simp [c5]
  · have hfil : filB l i x = true := by rw [hF, c1, c3, decide_eq_true (by omega), decide_eq_false c4]; exact c5
    exact Again.mk (i + 1) ⟨h, hgo hfil⟩ (by omega) (by first | exact Sub.by [0] (by first | (simp [hw, fisE]; done) | fail))
  · simp [hno (by rw [hF, c1, c3, decide_eq_true (by omega), decide_eq_false c4]; exact c5)]
set_option maxHeartbeats 2000000 in
theorem iDiskOk_spec (hZ : ZOk Tryz.prog Z) (l : List Fil) : Does Z Tryz.prog G B0 81 [diA false l] [] [] (fun y _ => y = bA (diskB l)) := by
  refine Does.bodyF hZ Tryz.func81 rfl rfl (Nat.le_of_ble_eq_true rfl) fun hf => ?_
  simp [diA, fisE] at hf
  simp [Tryz.f81, diA, fisE]
  refine LoopA.run hZ (fun i : Nat => ⟨54, [(1, .ptr [(0, 0)]), (6, .c (fisE false l)), (7, iA l.length), (8, iA i)], [[fisE false l]], [true]⟩) (fun i => i ≤ l.length ∧ ∀ j x, j < i → l[j]? = some x → filB l j x = true) (fun i => l.length - i) 0 ⟨Nat.zero_le _, fun j x h => by omega⟩ (by first | exact Sub.by [0] (by first | (simp [fisE]; done) | fail)) fun i ⟨hi, hb⟩ => ?_
  simp [fisE]
  refine Br.dec (fun h => ?_) (fun h => ?_)
  rotate_left
  · have e : diskB l = decide ((l.length : Int) ≤ 30) := by
      rw [Bool.eq_iff_iff, decide_eq_true_eq, diskB_iff]
      exact ⟨fun c => by omega, fun c => ⟨by omega, fun j x hx => hb j x (by have := (List.getElem?_eq_some_iff.1 hx).1; omega) hx⟩⟩
    simp [e]
  have hx : l[i]? = some l[i] := List.getElem?_eq_getElem h
  have hw := w_inc h hf.1
  generalize l[i] = x at hx
  have hno := diskB_no hx
  have hgo : filB l i x = true → ∀ j y, j < i + 1 → l[j]? = some y → filB l j y = true := fun c j y hj hy => by
    by_cases e : j = i
    · subst e; rw [hx] at hy; cases hy; exact c
    · exact hb j y (by omega) hy
  have hF : filB l i x = (inB x.name.size 1 8 && decide (x.text.size ≤ 20000) && inB x.kept 0 x.text.size && (decide (i = 0) || (match l[i - 1]? with | some y => ltN y.name x.name | none => true))) := rfl
  simp [hx, fiE]
  refine W_drawB hZ hmo 2 rfl 2 33 [(2, []), (2, []), (2, []), (2, []), (3, [2]), (3, [2]), (3, [2]), (3, [2]), (3, [2]), (3, [2]), (3, [2]), (3, [2]), (3, [2]), (3, [2]), (3, [2]), (3, [2]), (3, [2]), (3, [2]), (4, [2, 3]), (4, [2, 3]), (4, [2, 3]), (4, [2, 3]), (4, [2, 3]), (4, [2, 3]), (4, [2, 3]), (4, [2, 3]), (4, [2, 3]), (4, [2, 3]), (4, [2, 3]), (4, [2, 3]), (4, [2, 3]), (4, [2, 3]), (4, [2, 3])] (by kernel_rfl) ?_
  simp [hx, fiE]
  first | refine CallA.snapE (within_spec hZ x.name.size 1 8) (by first | (simp []; done) | fail) (by first | (simp []; done) | fail) ?_ | refine CallD.snapE (within_spec hZ x.name.size 1 8) (by first | (simp []; done) | fail) (by first | (simp []; done) | fail) ?_
  simp
  refine Br.bool (fun c1 => ?_) (fun c1 => ?_) <;> simp [c1]
  rotate_left
  · simp [hno (by rw [hF, c1]; rfl)]
  refine Br.dec (fun c2 => ?_) (fun c2 => ?_) <;> simp [c2]
  · simp [hno (by rw [hF, c1, decide_eq_false (by omega)]; rfl)]
  first | refine CallA.snapE (within_spec hZ x.kept 0 x.text.size) (by first | (simp []; done) | fail) (by first | (simp []; done) | fail) ?_ | refine CallD.snapE (within_spec hZ x.kept 0 x.text.size) (by first | (simp []; done) | fail) (by first | (simp []; done) | fail) ?_
  simp
  refine Br.bool (fun c3 => ?_) (fun c3 => ?_) <;> simp [c3]
  rotate_left
  · simp [hno (by rw [hF, c1, c3, decide_eq_true (by omega)]; rfl)]
  by_cases c4 : i = 0
  · subst c4
    have hfil : filB l 0 x = true := by rw [hF, c1, c3, decide_eq_true (by omega)]; rfl
    have hw1 : IntKind.i64.wrap 1 = 1 := rfl
    simp
    exact Again.mk 1 ⟨h, hgo hfil⟩ (by omega) (by first | exact Sub.by [0] (by first | (simp [hw1, fisE]; done) | fail))
  have hil : i - 1 < l.length := by omega
  have hy : l[i - 1]? = some l[i - 1] := List.getElem?_eq_getElem hil
  generalize l[i - 1] = y at hy
  have hwm : IntKind.i64.wrap ((i : Int) - 1) = ((i - 1 : Nat) : Int) := by rw [wrap_i64 (by have := hf.1; omega)]; omega
  have hp : 0 < i := by omega
  rw [hy] at hF
  dsimp only at hF
  simp [hp, hwm, hy, fiE]
  refine Br.bool (fun c5 => ?_) (fun c5 => ?_) <;> simp [c5]
  · have hfil : filB l i x = true := by rw [hF, c1, c3, decide_eq_true (by omega), decide_eq_false c4]; exact c5
    exact Again.mk (i + 1) ⟨h, hgo hfil⟩ (by omega) (by first | exact Sub.by [0] (by first | (simp [hw, fisE]; done) | fail))
  · simp [hno (by rw [hF, c1, c3, decide_eq_true (by omega), decide_eq_false c4]; exact c5)]
end Go.Proofs.YtbhbkaonlillhaaGreatDoor

/- Contracts: files by their names. -/
namespace Go.Proofs.YtbhbkaonlillhaaGreatDoor
open Go Go.Abs Go.Proofs Go.Tm
set_option linter.unusedSimpArgs false
set_option linter.unusedVariables false
set_option maxRecDepth 10000
variable {Z : TypeId → Nat} {G : World → Prop} {B0 : Nat}
theorem l03At_spec (hZ : ZOk Tryz.prog Z) (l : List Fil) (nm : ByteArray) : Does Z Tryz.prog G B0 148 [diA false l, sA nm] [] [] (fun y _ => y = iA (idxN l nm)) := by
  generalize hr : idxN l nm = r
  refine Does.bodyF hZ Tryz.func148 rfl rfl (Nat.le_of_ble_eq_true rfl) fun hf => ?_
  simp [diA, fisE] at hf
  simp [Tryz.f148, diA, fisE]
  unfold idxN at hr
  refine LoopA.run hZ (fun i : Nat => ⟨22, [(1, sA nm), (2, .ptr [(0, 0)]), (5, iA i)], [[fisE false l]], [true]⟩) (fun i => idxF (fun x : Fil => decide (x.name = nm)) (l.drop i) i = r) (fun i => l.length - i) 0 (by simpa using hr) (by first | exact Sub.by [0] (by first | (simp [fisE]; done) | fail)) fun i hi => ?_
  simp [fisE]
  refine Br.dec (fun h => ?_) (fun h => ?_)
  · have hx : l[i]? = some l[i] := List.getElem?_eq_getElem h
    have hw := w_inc h hf.1.1
    rw [List.drop_eq_getElem_cons h, idxF] at hi
    generalize l[i] = x at hx hi
    simp [hx, fiE]
    refine Br.dec (fun h2 => ?_) (fun h2 => ?_) <;> simp [h2] at hi ⊢
    · exact hi
    · exact Again.mk (i + 1) hi (by omega) (by first | exact Sub.by [0] (by first | (simp [hw, fisE]; done) | fail))
  · rw [List.drop_eq_nil_of_le (show l.length ≤ i by omega), idxF] at hi
    simp [hi]
theorem idxFi_spec (hZ : ZOk Tryz.prog Z) (l : List Fil) (p : Fil → Bool) (g : FuncId) (caps : List AV) (hcl : closL caps = true) (hg : ∀ x ∈ l, Does Z Tryz.prog G B0 g (fiA x :: caps) [] [] (fun y _ => y = bA (p x))) :
    Does Z Tryz.prog G B0 191 [.c (fisE false l), .fn g [] caps] [] [] (fun y _ => y = iA (idxF p l 0)) := by
  generalize hr : idxF p l 0 = r
  refine Does.bodyF hZ Tryz.func191 rfl rfl (Nat.le_of_ble_eq_true rfl) fun hf => ?_
  simp [fisE] at hf
  simp [Tryz.f191, fisE]
  refine LoopA.run hZ (fun i : Nat => ⟨19, [(0, .c (fisE false l)), (1, .fn g [] caps), (7, iA l.length), (8, iA i)], [], []⟩) (fun i => idxF p (l.drop i) i = r) (fun i => l.length - i) 0 (by simpa using hr) (Sub.by [] (by simp [fisE, renL_clos _ _ hcl, (renL_clos [] _ hcl).2])) fun i hi => ?_
  simp [fisE]
  refine Br.dec (fun h => ?_) (fun h => ?_)
  · have hx : l[i]? = some l[i] := List.getElem?_eq_getElem h
    have hw := w_inc h hf.1
    rw [List.drop_eq_getElem_cons h, idxF] at hi
    simp [hx, fiE]
    refine CallA.snapE (hg _ (List.getElem_mem h)) (by simp [fiA, fiE, snapL_clos _ _ hcl]) (by simp) ?_
    simp
    refine Br.bool (fun h2 => ?_) (fun h2 => ?_) <;> simp [h2] at hi ⊢
    · exact hi
    · exact Again.mk (i + 1) hi (by omega) (Sub.by [] (by simp [hw, fisE, renL_clos _ _ hcl, (renL_clos [] _ hcl).2]))
  · rw [List.drop_eq_nil_of_le (show l.length ≤ i by omega), idxF] at hi
    simp [hi]
theorem fileAt1_spec (hZ : ZOk Tryz.prog Z) (x : Fil) (nm : ByteArray) : Does Z Tryz.prog G B0 192 [fiA x, .sptr [sC nm] 0] [] [] (fun y _ => y = bA (decide (x.name = nm))) := by
  refine Does.body hZ Tryz.func192 rfl rfl (Nat.le_of_ble_eq_true rfl) ?_
  simp [Tryz.f192, fiA, fiE]
theorem fileAt_spec (hZ : ZOk Tryz.prog Z) (l : List Fil) (nm : ByteArray) : Does Z Tryz.prog G B0 151 [diA false l, sA nm] [] [] (fun y _ => y = iA (idxN l nm)) := by
  refine Does.body hZ Tryz.func151 rfl rfl (Nat.le_of_ble_eq_true rfl) ?_
  simp [Tryz.f151, diA, fisE]
  refine CallA.snapE (idxFi_spec hZ l (fun x => decide (x.name = nm)) 192 [.sptr [sC nm] 0] (by simp) (fun x _ => fileAt1_spec hZ x nm)) (by simp [fisE]) (by simp) ?_
  simp [idxN]
theorem iFileAt_spec (hZ : ZOk Tryz.prog Z) (l : List Fil) (nm : ByteArray) : Does Z Tryz.prog G B0 82 [diA false l, sA nm] [] [] (fun y _ => y = .tup [sA (textN l nm), bA (fileN l nm).isSome]) := by
  refine Does.bodyF hZ Tryz.func82 rfl rfl (Nat.le_of_ble_eq_true rfl) fun hf => ?_
  simp [diA, fisE] at hf
  simp [Tryz.f82, diA, fisE]
  first | refine CallA.snapE (fileAt_spec hZ l nm) (by first | (simp [diA, fisE]; done) | fail) (by first | (simp []; done) | fail) ?_ | refine CallD.snapE (fileAt_spec hZ l nm) (by first | (simp [diA, fisE]; done) | fail) (by first | (simp []; done) | fail) ?_
  unfold textN
  rcases idxN_cases l nm with ⟨h1, h2⟩ | ⟨i, x, hx, h1, h2⟩
  · simp [h1, h2]
  · simp [h1, h2]
    have hlt := (List.getElem?_eq_some_iff.1 hx).1
    have hn : ¬ (i : Int) < 0 := by omega
    simp [hn, hx, hlt, fiE]
    rw [(List.getElem?_eq_some_iff.1 hx).2]
theorem hasFile_spec (hZ : ZOk Tryz.prog Z) (l : List Fil) (nm : ByteArray) : Does Z Tryz.prog G B0 83 [diA false l, sA nm] [] [] (fun y _ => y = bA (fileN l nm).isSome) := by
  refine Does.body hZ Tryz.func83 rfl rfl (Nat.le_of_ble_eq_true rfl) ?_
  simp [Tryz.f83, diA, fisE]
  first | refine CallA.snapE (fileAt_spec hZ l nm) (by first | (simp [diA, fisE]; done) | fail) (by first | (simp []; done) | fail) ?_ | refine CallD.snapE (fileAt_spec hZ l nm) (by first | (simp [diA, fisE]; done) | fail) (by first | (simp []; done) | fail) ?_
  rcases idxN_cases l nm with ⟨h1, h2⟩ | ⟨i, x, hx, h1, h2⟩
  · simp [h1, h2]
  · simp [h1, h2]
end Go.Proofs.YtbhbkaonlillhaaGreatDoor

/- Contracts: what is recovered from a disk. -/
namespace Go.Proofs.YtbhbkaonlillhaaGreatDoor
open Go Go.Abs Go.Proofs Go.Tm
set_option linter.unusedSimpArgs false
set_option linter.unusedVariables false
set_option maxRecDepth 10000
variable {Z : TypeId → Nat} {G : World → Prop} {B0 : Nat}
theorem rlL_pos : ∀ (l : List ByteArray) (p : List Edt × Int), 0 ≤ p.2 → 0 ≤ (rlL l p).2
  | [], p, h => h
  | t :: r, p, h => by
    unfold rlL
    split
    · exact rlL_pos r _ (by dsimp only; omega)
    · exact h
theorem rlV_pos (p : ByteArray) : 0 ≤ (rlV p).2 := rlL_pos _ _ (by simp)
theorem rlV_sm (p : ByteArray) : ∀ e ∈ (rlV p).1, SmE e := fun e he => by
  have h := editB_small (rlV_ok p e he)
  exact ⟨by omega, by omega⟩
theorem text_small {l : List Fil} (h : diskB l = true) (nm : ByteArray) : (textN l nm).size ≤ 20000 := by
  unfold textN
  rcases idxN_cases l nm with ⟨h1, h2⟩ | ⟨i, x, hx, h1, h2⟩
  · rw [h2]; exact Nat.zero_le _
  · rw [h2]
    have := (diskB_iff.1 h).2 i x hx
    unfold filB at this
    simp only [Bool.and_eq_true, decide_eq_true_eq] at this
    exact this.1.1.2
theorem no_file {l : List Fil} {nm : ByteArray} (h : (fileN l nm).isSome = false) : fileN l nm = none := by
  cases hh : fileN l nm with
  | none => rfl
  | some x => rw [hh] at h; cases h
theorem newTr_eq : newTr = newT := rfl
set_option maxHeartbeats 2000000 in
theorem iRecover_spec (hZ : ZOk Tryz.prog Z) (hG : ∀ w, G w → MG w) (l : List Fil) : Does Z Tryz.prog G B0 20 [diA false l] [] [] (fun y _ => y = .tup [trA true (recT l).1, iA (recT l).2, .c (aksE true (recA l)), bA (diskB l)] ∨ ((y = .tup [trA true (recT l).1, iA (recT l).2, .nils, bA (diskB l)] ∨ y = .tup [.agg [.nils, iA 0], iA (recT l).2, .nils, bA (diskB l)] ∧ (recT l).1 = ⟨[], 0⟩) ∧ recA l = [])) := by
  refine Does.bodyF hZ Tryz.func20 rfl rfl (Nat.le_of_ble_eq_true rfl) fun hf => ?_
  simp [diA, fisE] at hf
  simp [Tryz.f20, diA, fisE]
  first | refine CallA.snapE (iDiskOk_spec hZ l) (by first | (simp [diA, fisE]; done) | fail) (by first | (simp []; done) | fail) ?_ | refine CallD.snapE (iDiskOk_spec hZ l) (by first | (simp [diA, fisE]; done) | fail) (by first | (simp []; done) | fail) ?_
  simp
  unfold recT recA mendA
  cases h : diskB l with
  | false => simp [trA, ndsE, aksE]
  | true =>
  have hq := text_small h sLog
  simp
  first | refine CallA.snapE (iFileAt_spec hZ l sLog) (by first | (simp [diA, fisE, sLog]; done) | fail) (by first | (simp []; done) | fail) ?_ | refine CallD.snapE (iFileAt_spec hZ l sLog) (by first | (simp [diA, fisE, sLog]; done) | fail) (by first | (simp []; done) | fail) ?_
  simp
  generalize textN l sLog = q at hq ⊢
  have hsm := rlV_sm q
  have hpos := rlV_pos q
  first | refine CallA.snapE (iReadLog_spec hZ hG q (by omega)) (by first | (simp []; done) | fail) (by first | (simp [noShr_eds]; done) | fail) ?_ | refine CallD.snapE (iReadLog_spec hZ hG q (by omega)) (by first | (simp []; done) | fail) (by first | (simp [noShr_eds]; done) | fail) ?_
  simp [edsE]
  first | refine CallA.snapE (iTreeNew_spec hZ) (by first | (simp []; done) | fail) (by first | (simp [trA, noShr_nds]; done) | fail) ?_ | refine CallD.snapE (iTreeNew_spec hZ) (by first | (simp []; done) | fail) (by first | (simp [trA, noShr_nds]; done) | fail) ?_
  simp [trA, newT, ndsE, ndE, pcsE]
  rw [newTr_eq]
  have hA := iApplyAll_spec (Z := Z) (G := G) (B0 := B0) hZ hG newT (rlV q).1 1 (okT_sm good_new.ok) hsm
  refine CallA.snapE hA (by simp [trA, newT, ndsE, ndE, pcsE, edsE]; rfl) (by simp [trA, noShr_nds]) ?_
  generalize applyAll newT (rlV q).1 1 = r
  simp [trA, ndsE]
  first | refine CallA.snapE (hasFile_spec hZ l sLogP) (by first | (simp [diA, fisE, sLogP]; done) | fail) (by first | (simp []; done) | fail) ?_ | refine CallD.snapE (hasFile_spec hZ l sLogP) (by first | (simp [diA, fisE, sLogP]; done) | fail) (by first | (simp []; done) | fail) ?_
  simp
  generalize rlV q = v at hpos ⊢
  cases h2 : (fileN l sLogP).isSome <;> simp
  all_goals (refine Br.dec (fun h3 => ?_) (fun h3 => ?_) <;> simp [h3, aksE, akE, sLogP, sLog])
  all_goals first
    | exact ⟨no_file h2, by omega⟩
    | have k1 : v.2 ≤ q.size := by omega
      simp [hpos, k1, aksE, akE, sLogP, sLog]
/-- Nil slices in a result told as empty rows, each of its own type. -/
def dnT (es : List TypeId) : AV → AV
  | .tup xs => .tup (xs.mapIdx fun i x => denil (es.getD i 0) x)
  | x => x
theorem pk_dnT {w : World} {S : Nat → Prop} {y : AV} {v : Value} {fp : Nat → Prop} (es : List TypeId) (h : PK Z w S y v fp) : PK Z w S (dnT es y) v fp := by
  cases h with
  | c h => exact .c h
  | nils => exact .nils
  | agg fps hl h1 h hout hd => exact .agg fps hl h1 h hout hd
  | tup fps hl h hout hd =>
    unfold dnT
    refine .tup fps (by simpa using hl) (fun i x v hx hv => ?_) (fun i hi => hout i (by simpa using hi)) hd
    rw [List.getElem?_mapIdx] at hx
    obtain ⟨x0, hx0, rfl⟩ := Option.map_eq_some_iff.1 hx
    exact (h i x0 v hx0 hv).denil _
theorem pr_dnT {w : World} {S : Nat → Prop} {y : AV} {v : Value} {fp : Nat → Prop} (es : List TypeId) (h : PR Z w S y v fp) : PR Z w S (dnT es y) v fp := by
  cases h with
  | pk h => exact .pk (pk_dnT es h)
  | nb fps hb hsz hS h hout hd hg => exact .nb fps hb hsz hS h hout hd hg
theorem okRes_dnT (es : List TypeId) (y : AV) (h : okRes y = true) : okRes (dnT es y) = true := by
  cases y <;> simp_all [dnT, okRes]
theorem does_dnT {P : Program} {f : FuncId} {args : List AV} {rts : Go.Abs.Rows} {bxs : List Bool} {Post Post' : AV → Go.Abs.Rows → Prop} (es : List TypeId) (h : Does Z P G B0 f args rts bxs Post) (hp : ∀ y r, Post y r → Post' (dnT es y) r) : Does Z P G B0 f args rts bxs Post' := by
  refine ⟨h.1, fun w S vals fps cb vs hK hG hB hL hI hA => (h.2 w S vals fps cb vs hK hG hB hL hI hA).mono ?_⟩
  rintro e' w' ⟨res, rts', v, S', vals', fps', cb', fp, he, hpo, hok, hl, hI', hpr, hfl⟩
  exact ⟨_, rts', v, S', vals', fps', cb', fp, he, hp _ _ hpo, okRes_dnT es res hok, hl, hI', pr_dnT es hpr, hfl⟩
theorem iRecover_spec2 (hZ : ZOk Tryz.prog Z) (hG : ∀ w, G w → MG w) (l : List Fil) : Does Z Tryz.prog G B0 20 [diA false l] [] [] (fun y _ => y = .tup [trA true (recT l).1, iA (recT l).2, .c (aksE true (recA l)), bA (diskB l)]) :=
  does_dnT [57, 3, 86, 4] (iRecover_spec hZ hG l) fun y _ h => by
    rcases h with rfl | ⟨rfl | ⟨rfl, h2⟩, h⟩
    · simp [dnT, denil, denilL, trA, ndsE, aksE]
    · simp [dnT, denil, denilL, trA, ndsE, aksE, h]
    · simp [dnT, denil, denilL, trA, ndsE, aksE, h, h2]
end Go.Proofs.YtbhbkaonlillhaaGreatDoor

